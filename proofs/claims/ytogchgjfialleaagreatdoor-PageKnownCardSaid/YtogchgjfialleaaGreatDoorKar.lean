/- The walk of esitree's check, of Check. -/
import Derived.Test.YtogchgjfialleaaGreatDoorKaq
set_option linter.unusedVariables false
set_option maxRecDepth 100000
set_option maxHeartbeats 8000000
namespace Go.Proofs.YtogchgjfialleaaGreatDoor
open Go.RowKit
theorem gw.shape{W:World}{v:Value}{rs:List ep}(h:gw W v rs):∃a c,v=.slice a rs.length c:=by
 rcases h with⟨rfl,rfl⟩|⟨b,rfl,_⟩
 ·exact⟨none,0,rfl⟩
 ·exact⟨_,_,rfl⟩
theorem gw.get{W:World}{a:Option Addr}{n c i:Nat}{rs:List ep}{r:ep}(h:gw W (.slice a n c) rs)(d:rs[i]? =some r):∃b,a=some ⟨b,0,none⟩∧Tl W b (i*3) r:=by
 rcases h with⟨rfl,_⟩|⟨b,j,o,k⟩
 ·simp at d
 ·injection j with e l m;exact⟨b,e,k i r d⟩
theorem Db{l:List bQ}{rs:List ep}{i f:Nat}{r:ep}{K:Option Nat}(o:rs[i]? =some r)(h:jZ l (rs.drop i) f=K):
 (∀a∈l,oL r a=true→K=none)∧((∀a∈l,oL r a=false)→(1<cr l r.name→K=none)∧(cr l r.name=0→r.nr=true→K=none)∧(cr l r.name≤1→(cr l r.name=0→r.nr=false)→jZ l (rs.drop (i+1)) (f+cr l r.name)=K)):=by
 obtain⟨m,n⟩:=cH.1 o;rw[lG m,n,jZ] at h;refine⟨fun a c b=> ?_,fun p=> ?_⟩
 ·rw[ah (lF.2 ⟨a,c,b⟩)] at h;exact h.symm
 ·rw[ae (by rw[lF];rintro⟨a,c,b⟩;rw[p a c] at b;cases b)] at h;refine⟨fun k=> ?_,fun q d=> ?_,fun k d=> ?_⟩
  ·rw[ah (.inl k)] at h;exact h.symm
  ·rw[ah (.inr ⟨q,d⟩)] at h;exact h.symm
  ·rw[ae] at h
   ·exact h
   ·rintro(e|⟨e,j⟩)
    ·omega
    ·rw[d e] at j;cases j
theorem Dc(l:List bQ)(a:bQ)(nm:Bs):cr (l++[a]) nm=cr l nm+if a.name==nm then 1 else 0:=by unfold cr;rw[List.filter_append,bB];congr 1;rw[List.filter_cons];split<;>simp
theorem zX{b:Type}{l:List b}{j:Nat}{a:b}(h:l[j]? =some a):l.take (j+1)=l.take j++[a]:=by rw[List.take_add_one,h];rfl
def uN(l:List bQ)(r:ep)(j c:Nat):Prop:=c=cr (l.take j) r.name∧∀a∈l.take j,oL r a=false
theorem uN.next{l:List bQ}{r:ep}{j c:Nat}{a:bQ}(h:uN l r j c)(e:l[j]? =some a)(i:oL r a=false):uN l r (j+1) (c+if a.name==r.name then 1 else 0):=by
 refine⟨by rw[zX e,Dc,h.1],fun b d=> ?_⟩;rw[zX e] at d;rcases gZ.1 d with d|d
 ·exact h.2 b d
 ·rw[fj.1 d];exact i
theorem Kv{rs:List ep}{l:List bQ}{aa:Option Addr}{ac:Nat}{A:Nat→Prop}{rv:Value}(w:World)(hg:Good w)(bp:rs.length≤10)(y:gw w rv rs)(be:aP A w l (.slice aa l.length ac))(hl:l.length≤1000000)(hv:∀a∈l,a.val.length≤1000000):
 Calls Tryz.prog 49 #[.agg #[.slice aa l.length ac],rv] w (cN w (.bool (so rs l))):=by
 obtain⟨ra,rc,rfl⟩:=y.shape;obtain⟨K,M⟩:∃K,jZ l rs 0=K:=⟨_,rfl⟩;obtain⟨R,Q⟩:∃R,so rs l=R:=⟨_,rfl⟩;have E:=az w (.cells #[.slice aa l.length ac] 113);have o:=ad E;have HG:=ad (hg.next E);have Z:=ad (y.next E);have al:=ad (be.next E);have F:=ad (au w (.cells #[.slice aa l.length ac] 113));obtain⟨N,O⟩:∃N,l.length=N:=⟨_,rfl⟩;have a2:=ad O;obtain⟨n,hn⟩:∃n,rs.length=n:=⟨_,rfl⟩;have a3:=ad hn;have Y:=ad (show K=none→R=false from fun h=>by rw[←Q,so,M,h]);have bm:=ad (show∀f,jZ l [] f=K→R=(f==N) from fun f h=>by rw[←Q,so,M,←h,←O];rfl);have aq:=ad (show jZ l (rs.drop 0) 0=K from M);have HV:=ad hv;rw[Q];rw[O] at o HG Z al F hl⊢;rw[hn] at bp Z⊢;clear hg y be E M Q O hn hv;go_enter Tryz.func49,Tryz.ntmps49;go_upto_region 1 with fail;generalize w.alloc (.cells #[.slice aa N ac] 113)=W1 at*;have am:=ad (aB.1 F.out).1;generalize bf:w.heap.size=b0 at*;have d:=ad bf;clear bf;go_upto_region 3 with fail
 go_loopw [5,13] (fun u5 u13 wr=>∃(i f:Nat),i≤n∧u13=.int .i64 i∧u5=.int .i64 f∧f≤i∧Hid (jZ l (rs.drop i) f=K)∧Hid (Below W1.heap.size W1 wr)) (fun _ u13 _=>n-(intOf u13).toNat)
 case atStart=>exact⟨0,0,aH _,rfl,rfl,ag _,aq,ad (ar _ _)⟩
 case round=>
  obtain⟨i,f,hi,rfl,rfl,hf,HK,B⟩:=hrel;clear aq;by_cases bo:i<n
  ·have i1:(i:Int)<(n:Int):=by omega
   have i0:(0:Int)≤(i:Int):=by omega
   obtain⟨r,y⟩:∃r,rs[i]? =some r:=⟨_,cA (by rw[a3.out];exact bo)⟩;have a8:=ad (Db y HK.out);obtain⟨rb,rfl,c0,c1,fv,c2,fn,first,rfl,bs,bi⟩:=(Z.out.next B.out).get y;have hA3:=az wr (.cells #[.string ⟨r.name.toArray⟩,.bool r.nr,.func (.func fn) first #[]] 163);have bl:=ad (fun W' (t:Below (wr.alloc (.cells #[.string ⟨r.name.toArray⟩,.bool r.nr,.func (.func fn) first #[]] 163)).heap.size (wr.alloc (.cells #[.string ⟨r.name.toArray⟩,.bool r.nr,.func (.func fn) first #[]] 163)) W') v=>bi W' (hA3.trans (t.mono hA3.size)) v);have br:=ad hA3;have a9:=ad (B.out.trans (hA3.mono B.out.size));have aN:=ad (au wr (.cells #[.string ⟨r.name.toArray⟩,.bool r.nr,.func (.func fn) first #[]] 163));have y0:∀af,(wr.alloc af).cell? ⟨b0,0,none⟩=some (.slice aa N ac):=fun af=>aI ((B.out.cell (p:=⟨b0,0,none⟩) am.out).trans (aj 0 F.out)) af;clear y bi hA3;go_upto_region 7 with fail;generalize wr.alloc (.cells #[.string ⟨r.name.toArray⟩,.bool r.nr,.func (.func fn) first #[]] 163)=W3 at*;generalize wr.heap.size=r0 at*;clear y0 c0 c1 c2;have a6:Hid (uN l r 0 0):=ad ⟨rfl,fun a s=>by simp at s⟩
   go_loopw [8,20] (fun u8 u20 wr=>∃(j c:Nat),j≤N∧u20=.int .i64 j∧u8=.int .i64 c∧c≤j∧Hid (uN l r j c)∧Hid (Below W3.heap.size W3 wr)) (fun _ u20 _=>N-(intOf u20).toNat)
   case atStart=>exact⟨0,0,aH _,rfl,rfl,ag _,a6,ad (ar _ _)⟩
   case round=>
    obtain⟨j,c,hj,rfl,rfl,hc,a5,J⟩:=hrel;clear a6;have C:=ad (a9.out.trans (J.out.mono a9.out.size));have X:=ad ((J.out.block _ (aB.1 aN.out).1).trans aN.out);by_cases bn:j<N
    ·have j1:(j:Int)<(N:Int):=by omega
     have j0:(0:Int)≤(j:Int):=by omega
     have k0:(0:Int)≤(c:Int):=by omega
     have k1:(c:Int)≤(j:Int):=by omega
     obtain⟨a,s⟩:∃a,l[j]? =some a:=⟨_,cA (by rw[a2.out];exact bn)⟩;obtain⟨bb,oo,rfl,-,-,-,bg⟩:=(al.out.next C.out).get s;obtain⟨x0,x1,x2⟩:=bg ⟨wr,ar _ _⟩;dsimp only at x0 x1 x2;have bk:=ad (eQ s);have av:=ad (HV.out a (eQ s));have a7:=ad (fun t=>a5.out.next s t);have hA5:=az wr (.cells (BF a).toArray 124);have I:=ad (J.out.trans (hA5.mono J.out.size));have bd:=ad (C.out.trans (hA5.mono C.out.size));have aU:=ad (au wr (.cells (BF a).toArray 124));have a1:=ad ((hA5.block _ (aB.1 X.out).1).trans X.out);clear s bg hA5;go_upto_region 9 with fail;generalize wr.alloc (.cells (BF a).toArray 124)=W5 at*;generalize wr.heap.size=a0 at*;clear x0 x1 x2;have y0:=aj 0 aU.out;have y1:=aj 1 aU.out;have z0:=aj 0 a1.out;have z2:=aj 2 a1.out;obtain⟨q,hq⟩:∃q,(a.name==r.name)=q:=⟨_,rfl⟩;have bv:(a.name !=r.name)= !q:=by rw[bne,hq]
     cases q
     ·have G:=ad (show uN l r (j+1) c by have h:=a7.out (by unfold oL;rw[hq];rfl);rw[hq] at h;exact h);go_wp2_with fail
      go_roundw
      case rel=>exact⟨j+1,c,by omega,by go_num,rfl,by omega,G,I⟩
      case measure=>(simp[intOf]<;>omega)
     ·have HC:=ad (bl.out W5 I.out a.val);obtain⟨m,x⟩:∃m,r.may a.val=m:=⟨_,rfl⟩;rw[x] at HC;have an:=ad (show oL r a=(!m||Dd a.val) by unfold oL;rw[hq,x];rfl);have ap:=ad (HG.out.next bd.out);have S:=ad (mI a.val [34] W5 ap.out av.out);have T:=ad (mI a.val [39] W5 ap.out av.out);rw[De] at S T;have z:=ad (show oL r a=(!m||(a.val.contains 34&&a.val.contains 39)) from an.out);obtain⟨ai,hd⟩:∃ai,a.val.contains 34=ai:=⟨_,rfl⟩;obtain⟨e,u⟩:∃e,a.val.contains 39=e:=⟨_,rfl⟩;rw[hd] at S z;rw[u] at T z;have ao:=ad (fun(t:oL r a=true)=>show R=false from Y.out (a8.out.1 a bk.out t));have k:=ad (o.out.trans (bd.out.mono (by have:=o.out.size;have:=d.out;omega)));have G:=ad (fun(t:oL r a=false)=>show uN l r (j+1) (c+1) by have h:=a7.out t;rw[hq] at h;exact h);clear hd u x an;go_wp2_with fail;refine HC.out.mono ?_;rintro en w6⟨rfl,rfl⟩;cases m
      ·have b:=ad (ao.out (by rw[z.out];rfl));go_wp2_with fail;go_ret;exact⟨by rw[b.out];rfl,by rw[d.out];exact k.out⟩
      ·go_wp2_with fail;refine S.out.mono ?_;rintro en w6⟨rfl,rfl⟩;cases ai
       ·have ab:=ad (G.out (by rw[z.out];rfl));go_wp2_with fail
        go_roundw
        case rel=>exact⟨j+1,c+1,by omega,by go_num,by go_num,by omega,ab,I⟩
        case measure=>(simp[intOf]<;>omega)
       ·go_wp2_with fail;refine T.out.mono ?_;rintro en w6⟨rfl,rfl⟩;cases e
        ·have ab:=ad (G.out (by rw[z.out];rfl));go_wp2_with fail
         go_roundw
         case rel=>exact⟨j+1,c+1,by omega,by go_num,by go_num,by omega,ab,I⟩
         case measure=>(simp[intOf]<;>omega)
        ·have b:=ad (ao.out (by rw[z.out];rfl));go_wp2_with fail;go_ret;exact⟨by rw[b.out];rfl,by rw[d.out];exact k.out⟩
    ·obtain rfl:j=N:=by omega
     have a4:=ad (show c=cr l r.name∧∀a∈l,oL r a=false by have h:=a5.out;unfold uN at h;rw[oe (by rw[a2.out];exact ag _)] at h;exact h)
     have H:=ad (a4.out.1▸a8.out.2 a4.out.2);have k:=ad (o.out.trans (C.out.mono (by have:=o.out.size;have:=d.out;omega)));have z1:=aj 1 X.out;have k1:(c:Int)≤1000000:=by omega
     have k0:(0:Int)≤(c:Int):=by omega
     have k2:(f:Int)≤10:=by omega
     have k3:(0:Int)≤(f:Int):=by omega
     by_cases L:1<c
     ·have i5:(1:Int)<(c:Int):=by omega
      have b:=ad (Y.out (H.out.1 L));clear L;go_wp2_with fail;go_ret;exact⟨by rw[b.out];rfl,by rw[d.out];exact k.out⟩
     ·have i5:¬(1:Int)<(c:Int):=by omega
      obtain⟨m,x⟩:∃m,r.nr=m:=⟨_,rfl⟩;have ay:=ad x;rw[x] at z1;clear x;by_cases D:c=0
      ·have q0:((c:Int)==0)=true:=jY (by omega);cases m
       ·have W:=ad (H.out.2.2 (by omega) (fun _=>ay.out));clear L D;go_wp2_with fail
        go_roundw
        case rel=>exact⟨i+1,f+c,by omega,by go_num,by go_num,by omega,W,C⟩
        case measure=>(simp[intOf]<;>omega)
       ·have b:=ad (Y.out (H.out.2.1 D ay.out));clear L D;go_wp2_with fail;go_ret;exact⟨by rw[b.out];rfl,by rw[d.out];exact k.out⟩
      ·have q0:((c:Int)==0)=false:=eS (by omega);have W:=ad (H.out.2.2 (by omega) (fun h=>absurd h D));clear D;go_wp2_with fail
       go_roundw
       case rel=>exact⟨i+1,f+c,by omega,by go_num,by go_num,by omega,W,C⟩
       case measure=>(simp[intOf]<;>omega)
  ·obtain rfl:i=n:=by omega
   have b:=ad (bm.out f (by rw[←HK.out,qA (by rw[a3.out];exact ag _)]));have y0:=(B.out.cell (p:=⟨b0,0,none⟩) am.out).trans (aj 0 F.out);have k:=ad (o.out.trans (B.out.mono (by have:=o.out.size;have:=d.out;omega)));by_cases u:f=N
   ·have V:=ad (show R=true by rw[b.out,u];exact qS _);have q1:((f:Int)==(N:Int))=true:=jY (by omega);clear u b;go_wp2_with fail;go_ret;exact⟨by rw[V.out];rfl,by rw[d.out];exact k.out⟩
   ·have V:=ad (show R=false by rw[b.out];exact aL.2 u);have q1:((f:Int)==(N:Int))=false:=eS (by omega);clear u b;go_wp2_with fail;go_ret;exact⟨by rw[V.out];rfl,by rw[d.out];exact k.out⟩
end Go.Proofs.YtogchgjfialleaaGreatDoor
namespace Go.Proofs.YtogchgjfialleaaGreatDoor
open Go.Lib
mutual
theorem Nd.ind {P:Nd→Prop} (h:∀k p t a l,(∀x,x∈l→P x)→P (.mk k p t a l)):∀x,P x
 |.mk k p t a l=>h k p t a l (Nd.OI h l)
theorem Nd.OI {P:Nd→Prop} (h:∀k p t a l,(∀x,x∈l→P x)→P (.mk k p t a l)):∀(l:List Nd) (x:Nd),x∈l→P x
 |[],_,hx=>by cases hx
 |y::r,x,hx=>by
  rcases bL.1 hx with e|hx
  ·rw[e];exact Nd.ind h y
  ·exact Nd.OI h r x hx
end
abbrev Cm:=PS→Nat→PS×Oc
def K9(c d:Cm):Cm:=fun S a=>match c S a with
 |(b,.yes t)=>match d b (a+t.length) with
  |(e,.yes h)=>(e,.yes (t++h))
  |q=>q
 |q=>q
def RE(c d:Cm):Cm:=fun S a=>Au (c S a) fun b=>d b a
def AA(E:fx)(l:List bQ)(c d:Cm):Cm:=fun S a=>
 if(gd l).2.2≠0 then d S.step a
 else if oz (bt (gr E.h E.t E.fs) (gd l).1).1=true then c (S.step.read (cT (bt (gr E.h E.t E.fs) (gd l).1).2)) a
 else d (S.step.read (cT (bt (gr E.h E.t E.fs) (gd l).1).2)) a
structure JD (E E':fx) (deep deep':Deep) (base:U) (R:Cm→Cm→Prop):Prop where
 nil:R (fun S _=>(S,.yes [])) (fun S _=>(S,.yes []))
 no:R (fun S _=>(S,.no)) (fun S _=>(S,.no))
 step:∀{c c':Cm},R c c'→R (fun S a=>c S.step a) (fun S a=>c' S.step a)
 text:∀vs t,R (fun S a=>lS E vs t S a) (fun S a=>lS E' vs t S a)
 inl:∀a t,R (fun S _=>(lV base a t S,.yes [])) (fun S _=>(lV base a t S,.yes []))
 Tv:∀s,R (fun S a=>gB E deep base S a s) (fun S a=>gB E' deep' base S a s)
 seq:∀{c c' d d':Cm},R c c'→R d d'→R (K9 c d) (K9 c' d')
 Tu:∀{c c' d d':Cm},R c c'→R d d'→R (RE c d) (RE c' d')
 test:∀l {c c' d d':Cm},R c c'→R d d'→R (AA E l c d) (AA E' l c' d')
theorem AP{E b:fx}{deep c:Deep}{base:U}{R:Cm→Cm→Prop}(K:JD E b deep c base R)(o:Option Bs):R (fun S a=>DQ E deep base S a o) (fun S a=>DQ b c base S a o):=by
 cases o with
 |none=>exact K.no
 |some s=>exact K.Tv s
theorem B6(E:fx)(deep:Deep)(base:U)(l:List bQ):(fun S a=>oQ E deep base l S a)=RE (fun S a=>DQ E deep base S a (bG l lC)) (RE (fun S a=>DQ E deep base S a (bG l lD)) (fun S _=>(S,if(bG l dj).isSome then .yes [] else .no))):=by
 funext S a
 unfold oQ RE Au;rfl
theorem G4{E b:fx}{deep c:Deep}{base:U}{R:Cm→Cm→Prop}(K:JD E b deep c base R)(l:List bQ):R (fun S a=>oQ E deep base l S a) (fun S a=>oQ b c base l S a):=by
 rw[B6,B6];refine K.Tu (AP K _) (K.Tu (AP K _) ?_);cases(bG l dj).isSome
 ·exact K.no
 ·exact K.nil
section
variable(E:fx)(deep:Deep)(base:U)
theorem xy(k p:Int)(t:Bs)(a:List bQ)(l:List Nd)(vs:Bool)(S:PS)(n:Nat):bT E deep base (.mk k p t a l) vs S n=
 if k=2 then lS E vs t S.step n
 else if k=4 then(lV base a t S.step,.yes [])
 else if k=5∨k=6 then(S.step,.yes [])
 else if k=3 then oQ E deep base a S.step n
 else if k=7 then ot E deep base l vs S.step n
 else if k=10 then eK E deep base l vs S.step n
 else dJ E deep base l (vs||decide (k=13)) S.step n:=by rw[bT]
theorem xx(k p:Int)(t:Bs)(a:List bQ)(l:List Nd)(vs:Bool)(S:PS)(n:Nat):oT E deep base (.mk k p t a l) vs S n=dJ E deep base l vs S n:=by rw[oT]
theorem AB(vs:Bool)(S:PS)(n:Nat):dJ E deep base [] vs S n=(S,.yes []):=by rw[dJ]
theorem rm(x:Nd)(r:List Nd)(vs:Bool):(fun S n=>dJ E deep base (x::r) vs S n)=K9 (fun S n=>bT E deep base x vs S n) (fun S n=>dJ E deep base r vs S n):=by funext S n;rw[dJ];rfl
theorem AE(vs:Bool)(S:PS)(n:Nat):ot E deep base [] vs S n=(S,.no):=by rw[ot]
theorem rp(x:Nd)(r:List Nd)(vs:Bool):(fun S n=>ot E deep base (x::r) vs S n)=RE (fun S n=>bT E deep base x vs S n) (fun S n=>qJ E deep base r vs S n):=by funext S n;rw[ot];rfl
theorem AD(vs:Bool)(S:PS)(n:Nat):qJ E deep base [] vs S n=(S,.no):=by rw[qJ]
theorem xC(x:Nd)(r:List Nd)(vs:Bool)(S:PS)(n:Nat):qJ E deep base (x::r) vs S n=bT E deep base x vs S n:=by rw[qJ]
theorem AF(vs:Bool)(S:PS)(n:Nat):eK E deep base [] vs S n=(S,.yes []):=by rw[eK]
theorem vf(x:Nd)(r:List Nd)(vs:Bool)(h:x.kind=12)(S:PS)(n:Nat):eK E deep base (x::r) vs S n=bT E deep base x vs S n:=by rw[eK,ah h]
theorem rq(x:Nd)(r:List Nd)(vs:Bool)(h:x.kind≠12):(fun S n=>eK E deep base (x::r) vs S n)=AA E x.attrs (fun S n=>oT E deep base x vs S n) (fun S n=>eK E deep base r vs S n):=by funext S n;rw[eK,ae h];rfl
end
theorem vg{E b:fx}{deep c:Deep}{base:U}{R:Cm→Cm→Prop}(K:JD E b deep c base R)(n:Nd):
 (∀vs,R (fun S a=>bT E deep base n vs S a) (fun S a=>bT b c base n vs S a))∧∀vs,R (fun S a=>oT E deep base n vs S a) (fun S a=>oT b c base n vs S a):=by
 refine Nd.ind (P:=fun n=>(∀vs,R (fun S a=>bT E deep base n vs S a) (fun S a=>bT b c base n vs S a))∧∀vs,R (fun S a=>oT E deep base n vs S a) (fun S a=>oT b c base n vs S a)) (fun k p t a l d=> ?_) n;have i:∀vs,R (fun S a=>dJ E deep base l vs S a) (fun S a=>dJ b c base l vs S a):=fun vs=>by
  induction l with
  |nil=>simp only[AB];exact K.nil
  |cons x r j=>rw[rm,rm];exact K.seq ((d x (by simp)).1 vs) (j fun y e=>d y (by simp[e]))
 have z:∀(l:List Nd) vs,(∀x,x∈l→∀vs,R (fun S a=>bT E deep base x vs S a) (fun S a=>bT b c base x vs S a))→R (fun S a=>qJ E deep base l vs S a) (fun S a=>qJ b c base l vs S a):=fun l vs h=>by
  cases l with
  |nil=>simp only[AD];exact K.no
  |cons x r=>simp only[xC];exact h x (by simp) vs
 have A:∀vs,R (fun S a=>ot E deep base l vs S a) (fun S a=>ot b c base l vs S a):=fun vs=>by
  cases l with
  |nil=>simp only[AE];exact K.no
  |cons x r=>rw[rp,rp];exact K.Tu ((d x (by simp)).1 vs) (z r vs fun y e=>(d y (by simp[e])).1)
 have B:∀vs,R (fun S a=>eK E deep base l vs S a) (fun S a=>eK b c base l vs S a):=fun vs=>by
  clear i A z;induction l with
  |nil=>simp only[AF];exact K.nil
  |cons x r j=>
   by_cases h:x.kind=12
   ·simp only[vf _ _ _ x r vs h];exact(d x (by simp)).1 vs
   ·rw[rq _ _ _ x r vs h,rq _ _ _ x r vs h];exact K.test _ ((d x (by simp)).2 vs) (j fun y e=>d y (by simp[e]))
 refine⟨fun vs=> ?_,fun vs=>by simp only[xx];exact i vs⟩;simp only[xy];by_cases o:k=2
 ·simp only[ah o];exact K.step (K.text vs t)
 simp only[ae o];by_cases s:k=4
 ·simp only[ah s];exact K.step (K.inl a t)
 simp only[ae s];by_cases u:k=5∨k=6
 ·simp only[ah u];exact K.step K.nil
 simp only[ae u];by_cases q:k=3
 ·simp only[ah q];exact K.step (G4 K a)
 simp only[ae q];by_cases w:k=7
 ·simp only[ah w];exact K.step (A vs)
 simp only[ae w];by_cases m:k=10
 ·simp only[ah m];exact K.step (B vs)
 simp only[ae m];exact K.step (i _)
end Go.Proofs.YtogchgjfialleaaGreatDoor
namespace Go.Proofs.YtogchgjfialleaaGreatDoor
open Go.RowKit
mutual
def MH:Nd→Prop
 |.mk _ _ t a l=>t.length≤1000000∧a.length≤1000000∧(∀x∈a,x.val.length≤1000000∧x.name.length≤1000000)∧l.length≤1000000∧QK l
def QK:List Nd→Prop
 |[]=>True
 |x::r=>MH x∧QK r
end
theorem QK.get:∀{l:List Nd} {x:Nd},QK l→x∈l→MH x
 |y::r,x,h,a=>by
  rw[QK] at h;rcases bL.1 a with rfl|a
  ·exact h.1
  ·exact QK.get h.2 a
theorem fC.shape{A:Nat→Prop}{W:World}{l:List Nd}{v:Value}(h:fC A W l v):∃a c,v=.slice a l.length c:=by rcases h with⟨rfl,a,c,rfl⟩|⟨b,o,c,rfl,_⟩<;>exact⟨_,_,rfl⟩
theorem fu.shape{A:Nat→Prop}{W:World}{x:Nd}{v:Value}(h:fu A W x v):∃a c e i,v=wZ x.kind x.place x.text (.slice a x.attrs.length c) (.slice e x.kids.length i)∧aP A W x.attrs (.slice a x.attrs.length c)∧fC A W x.kids (.slice e x.kids.length i):=by
 cases x with
 |mk k p t a l=>obtain⟨av,kv,rfl,b,d⟩:=mJ.1 h;obtain⟨a1,j,rfl⟩:=b.shape;obtain⟨a2,m,rfl⟩:=d.shape;exact⟨a1,j,a2,m,rfl,b,d⟩
theorem qx.get{A:Nat→Prop}{W:World}:∀{l:List Nd} {b o i:Nat} {x:Nd},qx A W l b o→l[i]? =some x→∃a,fu A W x (.agg a)∧eI W b (o+i*5) a.toList
 |[],_,_,_,_,_,h=>by simp at h
 |y::r,b,o,0,x,h,c=>by simp at c;subst c;rw[tN] at h;obtain⟨⟨a,d,e⟩,_⟩:=h;exact⟨a,d,by rw[Nat.zero_mul,qF];exact e⟩
 |y::r,b,o,i+1,x,h,c=>by rw[tN] at h;obtain⟨a,d,e⟩:=qx.get (i:=i) h.2 (by simpa using c);exact⟨a,d,by rw[show o+(i+1)*5=o+5+i*5 by omega];exact e⟩
theorem fC.get{A:Nat→Prop}{W:World}{l:List Nd}{p:Option Addr}{kn z i:Nat}{x:Nd}(h:fC A W l (.slice p kn z))(n:l[i]? =some x):
 ∃b o a c d k,p=some ⟨b,o,none⟩∧b<W.heap.size∧fu A W x (wZ x.kind x.place x.text (.slice a x.attrs.length c) (.slice d x.kids.length k))∧
  ∀(j:Nat) (v:Value),(eH x.kind x.place x.text (.slice a x.attrs.length c) (.slice d x.kids.length k))[j]? =some v→W.cell? ⟨b,o+i*5+j,none⟩=some v:=by
 rcases h with⟨rfl,_⟩|⟨b,o,c,s,E,F,t,u⟩
 ·simp at n
 ·injection s with r C D;obtain⟨B,m,w⟩:=u.get n;obtain⟨a,q,d,k,e,G,H⟩:=m.shape;injection e with e;subst e;exact⟨b,o,a,q,d,k,r,t,m,fun j v y=>w j v y⟩
theorem fC.next{A:Nat→Prop}{W W':World}{l:List Nd}{v:Value}(h:fC A W l v)(e:Below W.heap.size W W'):fC A W' l v:=by
 rcases h with h|⟨b,o,c,a,d,i,j,k⟩
 ·exact .inl h
 ·exact .inr ⟨b,o,c,a,d,i,ej j e.size,pW e.size (fun b a d=>⟨a,e.block b d⟩) l b o i j k⟩
theorem Jg{p q:Prop} [Decidable p] [Decidable q]{k:Type}{a b c d:k}(h:p↔q)(i:a=c)(j:b=d):(if p then a else b)=if q then c else d:=by
 by_cases e:p
 ·rw[ah e,ah (h.1 e),i]
 ·rw[ae e,ae (fun hq=>e (h.2 hq)),j]
theorem Kw(k p:Int)(t:Bs)(a:List bQ)(l:List Nd)(deep:Nat)(hid:Bool)(behind:Int):j3 (.mk k p t a l) deep hid behind=
 if((k==14)&&hid)=true then 13 else if(!(k==2)&&decide (16<deep))=true then 3 else if sq k a=false then 12 else if(!sj k t hid||((k==2)&&(behind==2)))=true then 4
 else if Df k l.length=false then 13 else mq k l.length (deep+1) (hid||(k==14)) 0 0 l:=by
 rw[j3];have b:decide (k=14)=(k==14):=by rw[gf];simp
 rw[b];refine Jg (by simp) rfl (Jg (by simp) rfl (Jg Iff.rfl rfl (Jg (by simp) rfl rfl)))
theorem Dg{k:Int}{n deep:Nat}{hid:Bool}{i:Nat}{before:Int}{l:List Nd}{x:Nd}{E:Int}(e:l[i]? =some x)(h:mq k n deep hid i before (l.drop i)=E):
 (zT k x.kind i n=false→E=13)∧(zT k x.kind i n=true→(j3 x deep hid before≠0→E=j3 x deep hid before)∧(j3 x deep hid before=0→mq k n deep hid (i+1) x.kind (l.drop (i+1))=E)):=by
 obtain⟨c,d⟩:=cH.1 e;rw[lG c,d,mq] at h;refine⟨fun b=>by rw[ah b] at h;exact h.symm,fun b=> ?_⟩;rw[ae (by rw[b];decide)] at h;exact⟨fun a=>by rw[ah a] at h;exact h.symm,fun a=>by rw[ae (by rw[a];decide)] at h;exact h⟩
theorem QW{a b:Int}(h:¬a=b):(a !=b)=true:=by rw[bne,eS h];rfl
theorem QX{a b:Int}(h:a=b):(a !=b)=false:=by rw[bne,jY h];rfl
theorem ia(k:Int)(n:Nat):Df k n= !((decide (2≤k∧k≤6)&&decide (0<n))||((k==7)&&decide (n≠2))||((k==10)&&decide (n=0))):=by
 unfold Df;have a:decide (k=7)=(k==7):=by rw[gf];simp
 have b:decide (k=10)=(k==10):=by rw[gf];simp
 rw[a,b,Bool.not_or,Bool.not_or]
theorem Kx(k:Int):(dM k).length≤10:=by
 unfold dM
 repeat' split
 all_goals decide
theorem Dh{rs:List ep}{l:List bQ}{aa:Option Addr}{ac n:Nat}{A:Nat→Prop}{rv:Value}{w:World}{b d:Prop}(i:Good w)(m:rs.length≤10)(k:gw w rv rs)(j:l.length=n)(e:aP A w l (.slice aa n ac))(a:b∧l.length≤1000000∧(∀x∈l,x.val.length≤1000000∧x.name.length≤1000000)∧d){c:Bool}(h:so rs l=c):
 Calls Tryz.prog 49 #[.agg #[.slice aa n ac],rv] w (cN w (.bool c)):=by
 subst j;subst h;exact Kv w i m k e a.2.1 fun x o=>(a.2.2.1 x o).1
theorem Ga:∀n:Nd,MH n→∀(deep:Nat) (hid:Bool) (behind:Int) (A:Nat→Prop) (w:World) (v:Value),Good w→deep≤17→fu A w n v→
 Calls Tryz.prog 25 #[v,.agg #[.int .i64 deep,.bool hid],.int .i64 behind] w (cN w (.int .i64 (j3 n deep hid behind))):=by
 refine Nd.ind (fun k p t a l ih c7 deep hid behind A w v hg ek aq=> ?_);obtain⟨aa,ac,ka,kc,rfl,a5,a7⟩:=aq.shape;have a5:aP A w a (.slice aa a.length ac):=a5;have a7:fC A w l (.slice ka l.length kc):=a7;rw[MH] at c7;obtain⟨ht,co,cs,a8,c6⟩:=c7;show Calls _ _ #[.agg #[.int .i64 k,.int .i64 p,.string ⟨t.toArray⟩,.slice aa a.length ac,.slice ka l.length kc],.agg #[.int .i64 deep,.bool hid],.int .i64 behind] w _;have ao:=Kw k p t a l deep hid behind;have hA:Below w.heap.size w ((w.alloc (.cells (eH k p t (.slice aa a.length ac) (.slice ka l.length kc)).toArray 45)).alloc (.cells #[.int .i64 deep,.bool hid] 85)):=((ar _ _).alloc (ag _) _).alloc (by rw[aO];omega) _;have o:=ad hA;have I:=ad (jX w (.cells (eH k p t (.slice aa a.length ac) (.slice ka l.length kc)).toArray 45) (.cells #[.int .i64 deep,.bool hid] 85));have Q:=ad (iT w (.cells (eH k p t (.slice aa a.length ac) (.slice ka l.length kc)).toArray 45) (.cells #[.int .i64 deep,.bool hid] 85));have ay:=ad (a5.next hA);have bi:=ad (a7.next hA);have HG:=ad (hg.next hA);have cb:=ad ih;have HB:=ad (And.intro ht (And.intro co (And.intro cs (And.intro a8 c6))));obtain⟨E,hE⟩:∃E,j3 (.mk k p t a l) deep hid behind=E:=⟨_,rfl⟩;rw[hE] at ao⊢;obtain⟨AN,bs⟩:∃n,a.length=n:=⟨_,rfl⟩;obtain⟨N,hN⟩:∃n,l.length=n:=⟨_,rfl⟩;rw[bs] at o I Q ay bi HG⊢;rw[hN] at o I Q ay bi HG ao a8⊢;have cd:=ad hN;have dp:=ad bs;obtain⟨c1,bv⟩:∃c,((k==14)&&hid)=c:=⟨_,rfl⟩;obtain⟨c2,bx⟩:∃c,(!(k==2)&&decide (16<deep))=c:=⟨_,rfl⟩;obtain⟨c3,bJ⟩:∃c,sq k a=c:=⟨_,rfl⟩;obtain⟨tx,b4⟩:∃c,sj k t hid=c:=⟨_,rfl⟩;obtain⟨Z,b0⟩:∃c,(!tx||((k==2)&&(behind==2)))=c:=⟨_,rfl⟩;obtain⟨D,b1⟩:∃c,Df k N=c:=⟨_,rfl⟩;rw[bv,bx,bJ,b4,b0,b1] at ao;have S:=ad ao;have bd:=ad bv;have al:=ad bx;have b6:=ad bJ;have ck:=ad b4;have am:=ad b0;have z:=ad b1;have l1:N≤1000000:=a8;clear ih ht co cs a8 c6 a5 a7 hg aq hA hE ao bs hN bv bx bJ b4 b0 b1;go_enter Tryz.func25,Tryz.ntmps25;go_upto_region 1 with fail;generalize(w.alloc (.cells (eH k p t (.slice aa AN ac) (.slice ka N kc)).toArray 45)).alloc (.cells #[.int .i64 deep,.bool hid] 85)=C at*;have y:=aj 0 I.out;have y2:=aj 2 I.out;have y3:=aj 3 I.out;have H:=aj 4 I.out;have z0:=aj 0 Q.out;have X:=aj 1 Q.out
 go_cut [12] (fun s G=>s=.bool c1∧C=G)
 case first=>
  by_cases h:k=14
  ·have b:=ad (show hid=c1 by rw[←bd.out,jY h];rfl);have L:=jY h;clear h;go_wp2_with fail
   go_meet
   exact⟨by rw[b.out],rfl⟩
  ·have b:=ad (show false=c1 by rw[←bd.out,eS h];rfl);have L:=eS h;clear h;go_wp2_with fail
   go_meet
   exact⟨by rw[←b.out],rfl⟩
 case rest=>
  obtain⟨rfl,rfl⟩:=hcut;cases c1
  ·go_upto_region 3 with fail
   go_cut [20] (fun s G=>s=.bool c2∧C=G)
   case first=>
    by_cases h:k=2
    ·have b:=ad (show false=c2 by rw[←al.out,jY h];rfl);have L:=jY h;have q2:=QX h;clear h;go_wp2_with fail
     go_meet
     exact⟨by rw[←b.out],rfl⟩
    ·have L:=eS h;have q2:=QW h;by_cases hd:16<deep
     ·have b:=ad (show true=c2 by rw[←al.out,eS h,bN hd];rfl);have i1:(16:Int)<(deep:Int):=by omega
      clear h hd;go_wp2_with fail
      go_meet
      exact⟨by rw[←b.out],rfl⟩
     ·have b:=ad (show false=c2 by rw[←al.out,eS h,cL hd];rfl);have i1:¬(16:Int)<(deep:Int):=by omega
      clear h hd;go_wp2_with fail
      go_meet
      exact⟨by rw[←b.out],rfl⟩
   case rest=>
    obtain⟨rfl,rfl⟩:=hcut;cases c2
    ·have d4:=ad (show so (dM k) a=c3 by rw[←Gb];exact b6.out);have HD:=ad ((ar C.heap.size C).drew);have b5:=ad (ay.out.next HD.out);have ca:=ad (HG.out.next HD.out);have a9:C.drew.cell? ⟨w.heap.size,0,none⟩=some (.int .i64 k):=y;have bb:C.drew.cell? ⟨w.heap.size,3,none⟩=some (.slice aa AN ac):=y3;go_upto_region 5 with fail
     go_cut [29] (fun s G=>s=.bool (!c3)∧Hid (Below C.heap.size C G))
     case first=>
      go_region_with
       (first
        |(go_at_call 50;refine(F9 k C.drew).mono ?_;rintro e w5⟨K,rv,rfl,c5⟩;have B:=ad (HD.out.trans (K.mono HD.out.size));have d6:=ad c5;have dl:=ad (b5.out.next K);have d3:=ad (ca.out.next K);have c9:=(K.cell (p:=⟨w.heap.size,0,none⟩) (aV a9)).trans a9;have ec:=(K.cell (p:=⟨w.heap.size,3,none⟩) (aV bb)).trans bb;clear K c5)
        |(go_at_call 49;refine(Dh d3.out (Kx k) d6.out dp.out dl.out HB.out d4.out).mono ?_;rintro e w6⟨rfl,O⟩;have a1:=ad (B.out.trans (O.mono B.out.size));clear O))
      all_goals
       clear y y2 y3 H z0 X a9 bb c9 ec;go_wp2_with fail
       go_meet
       exact⟨rfl,a1⟩
     case rest=>
      obtain⟨rfl,r⟩:=hcut;have ap:=(r.out.block _ (aB.1 I.out).1).trans I.out;have av:=(r.out.block _ (aB.1 Q.out).1).trans Q.out;have q:=ad ap;have Y:=ad av;clear y y2 y3 H z0 X a9 bb ap av b5 ca HD ay;cases c3
      ·have b:=ad (show E=12 from S.out);go_wp2_with fail;go_ret;exact⟨by rw[b.out];rfl,o.out.trans (r.out.mono o.out.size)⟩
      ·have a0:=ad (F7 k p t (aa:=aa) (an:=AN) (ac:=ac) (ka:=ka) (kn:=N) (kc:=kc) hid HB.out.1 _ (HG.out.next r.out));rw[ck.out] at a0;have y:=aj 0 q.out;have y1:=aj 1 q.out;have y2:=aj 2 q.out;have y3:=aj 3 q.out;have H:=aj 4 q.out;have X:=aj 1 Y.out;go_upto_region 7 with fail
       go_cut [38] (fun s G=>s=.bool Z∧Hid (Below C.heap.size C G))
       case first=>
        go_wp2_with fail;refine a0.out.mono ?_;rintro en w5⟨rfl,K⟩;have B:=ad (r.out.trans (K.mono r.out.size));have cK:=(K.block _ (aB.1 q.out).1).trans q.out;have c9:=aj 0 cK;clear K cK y y1 y2 y3 H X a0;cases tx
        ·have b:=ad (show true=Z by rw[←am.out];rfl);go_wp2_with fail
         go_meet
         exact⟨by rw[←b.out],B⟩
        ·by_cases m:k=2
         ·by_cases d:behind=2
          ·have b:=ad (show true=Z by rw[←am.out,jY m,jY d];rfl);have L:=jY m;have q2:=jY d;clear m d;go_wp2_with fail
           go_meet
           exact⟨by rw[←b.out],B⟩
          ·have b:=ad (show false=Z by rw[←am.out,jY m,eS d];rfl);have L:=jY m;have q2:=eS d;clear m d;go_wp2_with fail
           go_meet
           exact⟨by rw[←b.out],B⟩
         ·have b:=ad (show false=Z by rw[←am.out,eS m];rfl);have L:=eS m;clear m;go_wp2_with fail
          go_meet
          exact⟨by rw[←b.out],B⟩
       case rest=>
        clear r q Y y y1 y2 y3 H X a0 ck am;obtain⟨rfl,r⟩:=hcut;have ap:=(r.out.block _ (aB.1 I.out).1).trans I.out;have av:=(r.out.block _ (aB.1 Q.out).1).trans Q.out;have q:=ad ap;have Y:=ad av;clear ap av;cases Z
        ·have bk:=ad (Kq k wc);obtain⟨lf,j⟩:∃lf,decide (2≤k∧k≤6)=lf:=⟨_,rfl⟩;rw[j] at bk;have y:=aj 0 q.out;have H:=aj 4 q.out;have n0:(0:Int)≤(N:Int):=by omega
         go_upto_region 9 with fail
         go_cut [53] (fun s G=>s=.bool (!D)∧wc=G)
         case first=>
          go_wp2_with fail;refine bk.out.mono ?_;rintro en w5⟨rfl,rfl⟩;cases lf
          ·skip
           by_cases u:k=7
           ·have F:=jY u;by_cases m:N=2
            ·have M:(k==10)=false:=eS (by omega);have b:=ad (show false=(!D) by rw[←z.out,ia,j,F,M];simp[m]);have i2:((N:Int)!=2)=false:=QX (by omega);clear j u m;go_wp2_with fail
             go_meet
             exact⟨by rw[←b.out],rfl⟩
            ·skip
             have b:=ad (show true=(!D) by rw[←z.out,ia,j,F];simp[m]);have i2:((N:Int)!=2)=true:=QW (by omega);clear j u m;go_wp2_with fail
             go_meet
             exact⟨by rw[←b.out],rfl⟩
           ·have F:=eS u;by_cases J:k=10
            ·have M:=jY J;by_cases h0:N=0
             ·skip
              have b:=ad (show true=(!D) by rw[←z.out,ia,j,F,M];simp[h0]);have i2:((N:Int)==0)=true:=jY (by omega);clear j u J h0;go_wp2_with fail
              go_meet
              exact⟨by rw[←b.out],rfl⟩
             ·skip
              have b:=ad (show false=(!D) by rw[←z.out,ia,j,F,M];simp[h0]);have i2:((N:Int)==0)=false:=eS (by omega);clear j u J h0;go_wp2_with fail
              go_meet
              exact⟨by rw[←b.out],rfl⟩
            ·have M:=eS J;have b:=ad (show false=(!D) by rw[←z.out,ia,j,F,M];simp);clear j u J;go_wp2_with fail
             go_meet
             exact⟨by rw[←b.out],rfl⟩
          by_cases hn:0<N
          ·have b:=ad (show true=(!D) by rw[←z.out,ia,j,bN hn];simp);have i1:(0:Int)<(N:Int):=by omega
           clear j hn;go_wp2_with fail
           go_meet
           exact⟨by rw[←b.out],rfl⟩
          have ea:N=0:=by omega
          subst ea;clear hn;by_cases u:k=7
          ·have F:=jY u;have b:=ad (show true=(!D) by rw[←z.out,ia,j,F];simp);clear j u;go_wp2_with fail
           go_meet
           exact⟨by rw[←b.out],rfl⟩
          ·have F:=eS u;by_cases J:k=10
           ·have M:=jY J;have b:=ad (show true=(!D) by rw[←z.out,ia,j,F,M];simp);clear j u J;go_wp2_with fail
            go_meet
            exact⟨by rw[←b.out],rfl⟩
           ·have M:=eS J;have b:=ad (show false=(!D) by rw[←z.out,ia,j,F,M];simp);clear j u J;go_wp2_with fail
            go_meet
            exact⟨by rw[←b.out],rfl⟩
         case rest=>
          obtain⟨rfl,rfl⟩:=hcut;clear bk j y H;cases D
          ·have b:=ad (show E=13 from S.out);go_wp2_with fail;go_ret;exact⟨by rw[b.out];rfl,o.out.trans (r.out.mono o.out.size)⟩
          ·obtain⟨d,b3⟩:∃d,(hid||(k==14))=d:=⟨_,rfl⟩;have be:=ad (show E=mq k N (deep+1) d 0 0 l by have h:=S.out;rw[b3] at h;exact h);have aU:=ad b3;have d0:=ad (show 0<N→deep≤16 from fun h0=>by
            have h5:=z.out;have m:=al.out;rw[ia] at h5;by_cases hd:16<deep
            ·have hk:k=2:=by rw[bN hd,Bool.and_true] at m;simpa using m
             rw[hk,bN h0] at h5;cases h5
            ·omega)
           have y:=aj 0 q.out;have z0:=aj 0 Y.out;have X:=aj 1 Y.out;have i1:(deep:Int)≤17:=by omega
           have i0:(0:Int)≤(deep:Int):=by omega
           obtain⟨d1,b2⟩:∃d1,deep+1=d1:=⟨_,rfl⟩;have aN:=ad b2;rw[b2] at be;obtain⟨R,eb⟩:∃R,R=wc:=⟨_,rfl⟩;subst eb;clear b3 b2;go_upto_region 11 with fail
           go_cut [7] (fun s G=>s=.pointer (some ⟨R.heap.size,0,none⟩)∧G=R.alloc (.cells #[.int .i64 (d1:Int),.bool d] 85))
           case first=>
            cases hid
            ·by_cases ab:k=14
             ·have b:=ad (show true=d by rw[←aU.out,jY ab];rfl);have L:=jY ab;clear ab;go_wp2_with fail
              go_meet
              exact⟨rfl,by rw[←b.out,←aN.out];rfl⟩
             ·have b:=ad (show false=d by rw[←aU.out,eS ab];rfl);have L:=eS ab;clear ab;go_wp2_with fail
              go_meet
              exact⟨rfl,by rw[←b.out,←aN.out];rfl⟩
            ·have b:=ad (show true=d by rw[←aU.out];rfl);go_wp2_with fail
             go_meet
             exact⟨rfl,by rw[←b.out,←aN.out];rfl⟩
           case rest=>
            obtain⟨rfl,rfl⟩:=hcut;have hA9:=az R (.cells #[.int .i64 (d1:Int),.bool d] 85);have cl:=ad (r.out.trans (hA9.mono r.out.size));have ci:=ad (au R (.cells #[.int .i64 (d1:Int),.bool d] 85));have c0:=(hA9.block _ (aB.1 q.out).1).trans q.out;have bm:=ad c0;have b9:Hid (mq k N d1 d 0 0 (l.drop 0)=E):=ad be.out.symm;clear hA9 c0 y z0 X i1 i0 r q Y be aU S bd al b6 z;generalize R.alloc (.cells #[.int .i64 (d1:Int),.bool d] 85)=W9 at*;generalize R.heap.size=pl at*;have H:=aj 4 bm.out;go_upto_region 14 with fail;clear H
            go_loopw [8,99] (fun u8 u99 wr=>∃(i:Nat) (bf:Int),i≤N∧u99=.int .i64 i∧u8=.int .i64 bf∧Hid (mq k N d1 d i bf (l.drop i)=E)∧Hid (Below W9.heap.size W9 wr)) (fun _ u99 _=>N-(intOf u99).toNat)
            case atStart=>exact⟨0,0,aH _,rfl,rfl,b9,ad (ar _ _)⟩
            case round=>
             obtain⟨i,bf,hi,rfl,rfl,b8,T⟩:=hrel;clear b9;have a2:=ad (cl.out.trans (T.out.mono cl.out.size));have d2:=ad (o.out.trans (a2.out.mono o.out.size));by_cases d9:i<N
             ·have i2:(i:Int)<(N:Int):=by omega
              have i3:(0:Int)≤(i:Int):=by omega
              obtain⟨x,hx⟩:∃x,l[i]? =some x:=⟨_,cA (by rw[cd.out];exact d9)⟩;have bp:=ad (Dg hx b8.out);have cn:=ad (eQ hx);have ds:=ad (show d1≤17 by rw[←aN.out];have:=d0.out (by omega);omega);obtain⟨kb,ko,xa,xc,xk,xd,rfl,d8,aq,ai⟩:=(bi.out.next a2.out).get hx;have W:=ai 0 _ rfl;have x1:=ai 1 _ rfl;have x2:=ai 2 _ rfl;have x3:=ai 3 _ rfl;have x4:=ai 4 _ rfl;rw[qF] at W;have hA5:=az wr (.cells (eH x.kind x.place x.text (.slice xa x.attrs.length xc) (.slice xk x.kids.length xd)).toArray 45);have B:=ad (T.out.trans (hA5.mono T.out.size));have br:=ad (a2.out.trans (hA5.mono a2.out.size));have cc:=ad (aq.next hA5);have a4:=ad (au wr (.cells (eH x.kind x.place x.text (.slice xa x.attrs.length xc) (.slice xk x.kids.length xd)).toArray 45));have cO:=((T.out.trans (hA5.mono T.out.size)).block _ (aB.1 bm.out).1).trans bm.out;have c4:=((T.out.trans (hA5.mono T.out.size)).block _ (aB.1 ci.out).1).trans ci.out;have bl:=ad cO;have bn:=ad c4;have HF:=ad (Ks k x.kind i N (by omega) l1 (wr.alloc (.cells (eH x.kind x.place x.text (.slice xa x.attrs.length xc) (.slice xk x.kids.length xd)).toArray 45)));clear hx ai aq hA5 d8 cO c4;go_upto_region 16 with fail;generalize wr.alloc (.cells (eH x.kind x.place x.text (.slice xa x.attrs.length xc) (.slice xk x.kids.length xd)).toArray 45)=W5 at*;generalize wr.heap.size=xb at*;clear W x1 x2 x3 x4;have y:=aj 0 bl.out;have H:=aj 4 bl.out;have W:=aj 0 a4.out;obtain⟨ft,cx⟩:∃ft,zT k x.kind i N=ft:=⟨_,rfl⟩;rw[cx] at HF bp;clear cx;go_wp2_with fail;refine HF.out.mono ?_;rintro en w6⟨rfl,O⟩;have a1:=ad (B.out.trans (O.mono B.out.size));have a3:=ad (br.out.trans (O.mono br.out.size));have V:=ad ((O.block _ (aB.1 a4.out).1).trans a4.out);have ch:=ad ((O.block _ (aB.1 bn.out).1).trans bn.out);have d5:=ad (cc.out.next O);clear O y H W HF bl a4 bn cc B br;cases ft
              ·have b:=ad (bp.out.1 rfl);have bg:=ad (o.out.trans (a3.out.mono o.out.size));go_wp2_with fail;go_ret;exact⟨by rw[b.out];rfl,bg.out⟩
              ·have bo:=ad (bp.out.2 rfl);have b7:=ad (cb.out x cn.out (HB.out.2.2.2.2.get cn.out) d1 d bf A w6 _ (HG.out.next a3.out) ds.out d5.out);have W:=aj 0 V.out;have x1:=aj 1 V.out;have x2:=aj 2 V.out;have x3:=aj 3 V.out;have x4:=aj 4 V.out;have p0:=aj 0 ch.out;have p1:=aj 1 ch.out;obtain⟨ce,ct⟩:∃ce,j3 x d1 d bf=ce:=⟨_,rfl⟩;rw[ct] at b7 bo;clear ct cb;go_wp2_with fail;refine b7.out.mono ?_;rintro en w7⟨rfl,a6⟩;have d7:=ad (a1.out.trans (a6.mono a1.out.size));have bg:=ad (o.out.trans ((a3.out.trans (a6.mono a3.out.size)).mono o.out.size));have c8:=(a6.block _ (aB.1 V.out).1).trans V.out;clear a6 W x1 x2 x3 x4 p0 p1;have W:=aj 0 c8;clear c8;by_cases af:ce=0
               ·have dq:=ad (bo.out.2 af);have L:=QX af;clear af;go_wp2_with fail
                go_roundw
                case rel=>(repeat apply Exists.intro);exact⟨⟨i+1,x.kind,by omega,by go_num,rfl,dq,d7⟩,rfl⟩
                case measure=>(simp[intOf]<;>omega)
               ·have b:=ad (bo.out.1 af);have L:=QW af;clear af;go_wp2_with fail;go_ret;exact⟨by rw[b.out];rfl,bg.out⟩
             ·obtain rfl:i=N:=by omega
              have b:=ad (show E=0 by rw[←b8.out,qA (by rw[cd.out];exact ag _)];rw[mq]);go_wp2_with fail;go_ret;exact⟨by rw[b.out];rfl,d2.out⟩
        ·have b:=ad (show E=4 from S.out);go_wp2_with fail;go_ret;exact⟨by rw[b.out];rfl,o.out.trans (r.out.mono o.out.size)⟩
    ·have b:=ad (show E=3 from S.out);go_wp2_with fail;go_ret;exact⟨by rw[b.out];rfl,o.out⟩
  ·have b:=ad (show E=13 from S.out);go_wp2_with fail;go_ret;exact⟨by rw[b.out];rfl,o.out⟩
