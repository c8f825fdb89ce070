/- The walk of esitree's check, of Check. -/
import Derived.Test.YtlemddnecmmfgaaGreatDoorJal
set_option linter.unusedVariables false
set_option maxRecDepth 100000
set_option maxHeartbeats 8000000
namespace Go.Proofs.YtlemddnecmmfgaaGreatDoor
open Go.RowKit
variable{y:List bQ}{b:Nat}{d:Option Addr}{j:aaK}{e:ep}
theorem gw.shape{v:aaL}{rs:List ep}(h:gw j v rs):∃a c,v=.slice a rs.length c:=by
 rcases h with⟨rfl,rfl⟩|⟨b,rfl,_⟩
 ·exact⟨none,0,rfl⟩
 ·exact⟨_,_,rfl⟩
theorem gw.get{n c i:Nat}{rs:List ep}(h:gw j (.slice d n c) rs)(k:rs[i]? =some e):∃b,d=some ⟨b,0,none⟩∧Tl j b (i*3) e:=by
 rcases h with⟨rfl,_⟩|⟨b,m,s,o⟩
 ·simp at k
 ·injection m with l p q;exact⟨b,l,o i e k⟩
theorem Db{rs:List ep}{f:Nat}{K:Option Nat}(q:rs[b]? =some e)(h:jZ y (rs.drop b) f=K):
 (∀a∈y,oL e a=true→K=none)∧((∀a∈y,oL e a=false)→(1<cr y e.name→K=none)∧(cr y e.name=0→e.XH=true→K=none)∧(cr y e.name≤1→(cr y e.name=0→e.XH=false)→jZ y (rs.drop (b+1)) (f+cr y e.name)=K)):=by
 obtain⟨o,p⟩:=cH.1 q;rw[lG o,p,jZ] at h;refine⟨fun a d c=> ?_,fun s=> ?_⟩
 ·rw[ah (lF.2 ⟨a,d,c⟩)] at h;exact h.symm
 ·rw[ae (by rw[lF];rintro⟨a,d,c⟩;rw[s a d] at c;cases c)] at h;refine⟨fun n=> ?_,fun t j=> ?_,fun n j=> ?_⟩
  ·rw[ah (.inl n)] at h;exact h.symm
  ·rw[ah (.inr ⟨t,j⟩)] at h;exact h.symm
  ·rw[ae] at h
   ·exact h
   ·rintro(k|⟨k,m⟩)
    ·omega
    ·rw[j k] at m;cases m
theorem Dc(l:List bQ)(a:bQ)(nm:Bs):cr (l++[a]) nm=cr l nm+if a.name==nm then 1 else 0:=by unfold cr;rw[List.filter_append,bB];congr 1;rw[List.filter_cons];split<;>simp
theorem zX{b:Type}{l:List b}{j:Nat}{a:b}(h:l[j]? =some a):l.take (j+1)=l.take j++[a]:=by rw[List.take_add_one,h];rfl
def uN(l:List bQ)(r:ep)(j c:Nat):Prop:=c=cr (l.take j) r.name∧∀a∈l.take j,oL r a=false
theorem uN.next{j c:Nat}{a:bQ}(h:uN y e j c)(i:y[j]? =some a)(k:oL e a=false):uN y e (j+1) (c+if a.name==e.name then 1 else 0):=by
 refine⟨by rw[zX i,Dc,h.1],fun b d=> ?_⟩;rw[zX i] at d;rcases gZ.1 d with d|d
 ·exact h.2 b d
 ·rw[fj.1 d];exact k
theorem Kv{rs:List ep}{A:Nat→Prop}{rv:aaL}(w:aaK)(hg:Good w)(bJ:rs.length≤10)(F:gw w rv rs)(bi:aP A w y (.slice d y.length b))(hl:y.length≤1000000)(hv:∀a∈y,a.val.length≤1000000):
 Calls Tryz.prog 85 #[.agg #[.slice d y.length b],rv] w (cN w (.bool (so rs y))):=by
 obtain⟨ra,rc,rfl⟩:=F.shape;obtain⟨K,W⟩:∃K,jZ y rs 0=K:=⟨_,rfl⟩;obtain⟨R,Y⟩:∃R,so rs y=R:=⟨_,rfl⟩;have L:=az w (.cells #[.slice d y.length b] 149);have z:=ad L;have HG:=ad (hg.next L);have HR:=ad (F.next L);have aq:=ad (bi.next L);have M:=ad (au w (.cells #[.slice d y.length b] 149));obtain⟨N,X⟩:∃N,y.length=N:=⟨_,rfl⟩;have a5:=ad X;obtain⟨n,hn⟩:∃n,rs.length=n:=⟨_,rfl⟩;have a6:=ad hn;have am:=ad (show K=none→R=false from fun h=>by rw[←Y,so,W,h]);have bs:=ad (show∀f,jZ y [] f=K→R=(f==N) from fun f h=>by rw[←Y,so,W,←h,←X];rfl);have a1:=ad (show jZ y (rs.drop 0) 0=K from W);have HV:=ad hv;rw[Y];rw[X] at z HG HR aq M hl⊢;rw[hn] at bJ HR⊢;clear hg F bi L W Y X hn hv;go_enter Tryz.func85,Tryz.ntmps85;go_upto_region 1 with fail;generalize w.alloc (.cells #[.slice d N b] 149)=W1 at*;have av:=ad (aB.1 M.o).1;generalize bk:w.heap.size=b0 at*;have s:=ad bk;clear bk;go_upto_region 3 with fail
 go_loopw [5,13] (fun u5 u13 wr=>∃(i f:Nat),i≤n∧u13=.int .i64 i∧u5=.int .i64 f∧f≤i∧Hid (jZ y (rs.drop i) f=K)∧Hid (Below W1.heap.size W1 wr)) (fun _ u13 _=>n-(intOf u13).toNat)
 case atStart=>exact⟨0,0,aH _,rfl,rfl,ag _,a1,ad (ar _ _)⟩
 case round=>
  obtain⟨i,f,hi,rfl,rfl,hf,HK,H⟩:=hrel;clear a1;by_cases bx:i<n
  ·have i1:(i:Int)<(n:Int):=by omega
   have i0:(0:Int)≤(i:Int):=by omega
   obtain⟨r,F⟩:∃r,rs[i]? =some r:=⟨_,cA (by rw[a6.o];exact bx)⟩;have be:=ad (Db F HK.o);obtain⟨rb,rfl,c0,c1,fv,c2,fn,first,rfl,b2,bm⟩:=(HR.o.next H.o).get F;have hA3:=az wr (.cells #[.string ⟨r.name.toArray⟩,.bool r.XH,.func (.func fn) first #[]] 191);have bo:=ad (fun W' (C:Below (wr.alloc (.cells #[.string ⟨r.name.toArray⟩,.bool r.XH,.func (.func fn) first #[]] 191)).heap.size (wr.alloc (.cells #[.string ⟨r.name.toArray⟩,.bool r.XH,.func (.func fn) first #[]] 191)) W') v=>bm W' (hA3.t (C.m hA3.size)) v);have b1:=ad hA3;have bf:=ad (H.o.t (hA3.m H.o.size));have a4:=ad (au wr (.cells #[.string ⟨r.name.toArray⟩,.bool r.XH,.func (.func fn) first #[]] 191));have y0:∀ao,(wr.alloc ao).cell? ⟨b0,0,none⟩=some (.slice d N b):=fun ao=>aI ((H.o.cell (p:=⟨b0,0,none⟩) av.o).t (tH _ _ 0 _ _ _ M.o)) ao;clear F bm hA3;go_upto_region 7 with fail;generalize wr.alloc (.cells #[.string ⟨r.name.toArray⟩,.bool r.XH,.func (.func fn) first #[]] 191)=W3 at*;generalize wr.heap.size=r0 at*;clear y0 c0 c1 c2;have a9:Hid (uN y r 0 0):=ad ⟨rfl,fun a B=>by simp at B⟩
   go_loopw [8,20] (fun u8 u20 wr=>∃(j c:Nat),j≤N∧u20=.int .i64 j∧u8=.int .i64 c∧c≤j∧Hid (uN y r j c)∧Hid (Below W3.heap.size W3 wr)) (fun _ u20 _=>N-(intOf u20).toNat)
   case atStart=>exact⟨0,0,aH _,rfl,rfl,ag _,a9,ad (ar _ _)⟩
   case round=>
    obtain⟨j,c,hj,rfl,rfl,hc,a8,T⟩:=hrel;clear a9;have I:=ad (bf.o.t (T.o.m bf.o.size));have al:=ad ((T.o.block _ (aB.1 a4.o).1).t a4.o);by_cases bv:j<N
    ·have j1:(j:Int)<(N:Int):=by omega
     have j0:(0:Int)≤(j:Int):=by omega
     have k0:(0:Int)≤(c:Int):=by omega
     have k1:(c:Int)≤(j:Int):=by omega
     obtain⟨a,B⟩:∃a,y[j]? =some a:=⟨_,cA (by rw[a5.o];exact bv)⟩;obtain⟨bb,oo,rfl,-,-,-,bl⟩:=(aq.o.next I.o).get B;obtain⟨x0,x1,x2⟩:=bl ⟨wr,ar _ _⟩;dsimp only at x0 x1 x2;have bn:=ad (eQ B);have a2:=ad (HV.o a (eQ B));have bd:=ad (fun C=>a8.o.next B C);have hA5:=az wr (.cells (BF a).toArray 159);have S:=ad (T.o.t (hA5.m T.o.size));have bg:=ad (I.o.t (hA5.m I.o.size));have bp:=ad (au wr (.cells (BF a).toArray 159));have br:=ad ((hA5.block _ (aB.1 al.o).1).t al.o);clear B bl hA5;go_upto_region 9 with fail;generalize wr.alloc (.cells (BF a).toArray 159)=W5 at*;generalize wr.heap.size=a0 at*;clear x0 x1 x2;obtain⟨y0,y1⟩:=qX2 (aj bp.o) 0 1;obtain⟨z0,z2⟩:=qX2 (aj br.o) 0 2;obtain⟨q,hq⟩:∃q,(a.name==r.name)=q:=⟨_,rfl⟩;have b3:(a.name !=r.name)= !q:=by rw[bne,hq]
     cases q
     ·have O:=ad (show uN y r (j+1) c by have h:=bd.o (by unfold oL;rw[hq];rfl);rw[hq] at h;exact h);go_wp2_with fail
      go_roundw
      case rel=>exact⟨j+1,c,by omega,by go_num,rfl,by omega,O,S⟩
      case measure=>(simp[intOf]<;>omega)
     ·have HC:=ad (bo.o W5 S.o a.val);obtain⟨u,E⟩:∃u,r.may a.val=u:=⟨_,rfl⟩;rw[E] at HC;have ay:=ad (show oL r a=(!u||Dd a.val) by unfold oL;rw[hq,E];rfl);have aU:=ad (HG.o.next bg.o);have Z:=ad (mI a.val [34] W5 aU.o a2.o);have ab:=ad (mI a.val [39] W5 aU.o a2.o);rw[De] at Z ab;have G:=ad (show oL r a=(!u||(a.val.contains 34&&a.val.contains 39)) from ay.o);obtain⟨ap,hd⟩:∃ap,a.val.contains 34=ap:=⟨_,rfl⟩;obtain⟨e,D⟩:∃e,a.val.contains 39=e:=⟨_,rfl⟩;rw[hd] at Z G;rw[D] at ab G;have aN:=ad (fun(C:oL r a=true)=>show R=false from am.o (be.o.1 a bn.o C));have x:=ad (z.o.t (bg.o.m (by have:=z.o.size;have:=s.o;omega)));have O:=ad (fun(C:oL r a=false)=>show uN y r (j+1) (c+1) by have h:=bd.o C;rw[hq] at h;exact h);clear hd D E ay;go_wp2_with fail;refine HC.o.m ?_;rintro en w6⟨rfl,rfl⟩;cases u
      ·have k:=ad (aN.o (by rw[G.o];rfl));go_wp2_with fail;go_ret;exact⟨by rw[k.o];rfl,by rw[s.o];exact x.o⟩
      ·go_wp2_with fail;refine Z.o.m ?_;rintro en w6⟨rfl,rfl⟩;cases ap
       ·have an:=ad (O.o (by rw[G.o];rfl));go_wp2_with fail
        go_roundw
        case rel=>exact⟨j+1,c+1,by omega,by go_num,by go_num,by omega,an,S⟩
        case measure=>(simp[intOf]<;>omega)
       ·go_wp2_with fail;refine ab.o.m ?_;rintro en w6⟨rfl,rfl⟩;cases e
        ·have an:=ad (O.o (by rw[G.o];rfl));go_wp2_with fail
         go_roundw
         case rel=>exact⟨j+1,c+1,by omega,by go_num,by go_num,by omega,an,S⟩
         case measure=>(simp[intOf]<;>omega)
        ·have k:=ad (aN.o (by rw[G.o];rfl));go_wp2_with fail;go_ret;exact⟨by rw[k.o];rfl,by rw[s.o];exact x.o⟩
    ·obtain rfl:j=N:=by omega
     have a7:=ad (show c=cr y r.name∧∀a∈y,oL r a=false by have h:=a8.o;unfold uN at h;rw[oe (by rw[a5.o];exact ag _)] at h;exact h)
     have Q:=ad (a7.o.1▸be.o.2 a7.o.2);have x:=ad (z.o.t (I.o.m (by have:=z.o.size;have:=s.o;omega)));have z1:=aj al.o 1;have k1:(c:Int)≤1000000:=by omega
     have k0:(0:Int)≤(c:Int):=by omega
     have k2:(f:Int)≤10:=by omega
     have k3:(0:Int)≤(f:Int):=by omega
     by_cases V:1<c
     ·have i5:(1:Int)<(c:Int):=by omega
      have k:=ad (am.o (Q.o.1 V));clear V;go_wp2_with fail;go_ret;exact⟨by rw[k.o];rfl,by rw[s.o];exact x.o⟩
     ·have i5:¬(1:Int)<(c:Int):=by omega
      obtain⟨u,E⟩:∃u,r.XH=u:=⟨_,rfl⟩;have a3:=ad E;rw[E] at z1;clear E;by_cases J:c=0
      ·have q0:((c:Int)==0)=true:=jY (by omega);cases u
       ·have ai:=ad (Q.o.2.2 (by omega) (fun _=>a3.o));clear V J;go_wp2_with fail
        go_roundw
        case rel=>exact⟨i+1,f+c,by omega,by go_num,by go_num,by omega,ai,I⟩
        case measure=>(simp[intOf]<;>omega)
       ·have k:=ad (am.o (Q.o.2.1 J a3.o));clear V J;go_wp2_with fail;go_ret;exact⟨by rw[k.o];rfl,by rw[s.o];exact x.o⟩
      ·have q0:((c:Int)==0)=false:=eS (by omega);have ai:=ad (Q.o.2.2 (by omega) (fun h=>absurd h J));clear J;go_wp2_with fail
       go_roundw
       case rel=>exact⟨i+1,f+c,by omega,by go_num,by go_num,by omega,ai,I⟩
       case measure=>(simp[intOf]<;>omega)
  ·obtain rfl:i=n:=by omega
   have k:=ad (bs.o f (by rw[←HK.o,qA (by rw[a6.o];exact ag _)]));have y0:=(H.o.cell (p:=⟨b0,0,none⟩) av.o).t (tH _ _ 0 _ _ _ M.o);have x:=ad (z.o.t (H.o.m (by have:=z.o.size;have:=s.o;omega)));by_cases D:f=N
   ·have af:=ad (show R=true by rw[k.o,D];exact qS _);have q1:((f:Int)==(N:Int))=true:=jY (by omega);clear D k;go_wp2_with fail;go_ret;exact⟨by rw[af.o];rfl,by rw[s.o];exact x.o⟩
   ·have af:=ad (show R=false by rw[k.o];exact aL.2 D);have q1:((f:Int)==(N:Int))=false:=eS (by omega);clear D k;go_wp2_with fail;go_ret;exact⟨by rw[af.o];rfl,by rw[s.o];exact x.o⟩
end Go.Proofs.YtlemddnecmmfgaaGreatDoor
namespace Go.Proofs.YtlemddnecmmfgaaGreatDoor
open Go.Lib
mutual
theorem Nd.ind {P:Nd→Prop} (h:∀k p t a l,(∀x,x∈l→P x)→P (.mk k p t a l)):∀x,P x
 |.mk k p t a l=>h k p t a l (Nd.OI h l)
theorem Nd.OI {P:Nd→Prop} (h:∀k p t a l,(∀x,x∈l→P x)→P (.mk k p t a l)):∀(l:List Nd) (x:Nd),x∈l→P x
 |[],_,hx=>by cases hx
 |y::r,x,hx=>by
  rcases bL.1 hx with e|hx
  ·rw[e];exact Nd.ind h y
  ·exact Nd.OI h r x hx
end
abbrev Cm:=PS→Nat→PS×Oc
def K9(c d:Cm):Cm:=fun S a=>match c S a with
 |(b,.yes t)=>match d b (a+t.length) with
  |(e,.yes h)=>(e,.yes (t++h))
  |q=>q
 |q=>q
def RE(c d:Cm):Cm:=fun S a=>Au (c S a) fun b=>d b a
def AA(E:fx)(l:List bQ)(c d:Cm):Cm:=fun S a=>
 if(gd l).2.2≠0 then d S.step a
 else if oz (bt (gr E.h E.t E.fs) (gd l).1).1=true then c (S.step.read (cT (bt (gr E.h E.t E.fs) (gd l).1).2)) a
 else d (S.step.read (cT (bt (gr E.h E.t E.fs) (gd l).1).2)) a
structure JD (E E':fx) (deep deep':Deep) (base:U) (R:Cm→Cm→Prop):Prop where
 nil:R (fun S _=>(S,.yes [])) (fun S _=>(S,.yes []))
 no:R (fun S _=>(S,.no)) (fun S _=>(S,.no))
 step:∀{c c':Cm},R c c'→R (fun S a=>c S.step a) (fun S a=>c' S.step a)
 text:∀vs t,R (fun S a=>lS E vs t S a) (fun S a=>lS E' vs t S a)
 inl:∀a t,R (fun S _=>(lV base a t S,.yes [])) (fun S _=>(lV base a t S,.yes []))
 Tv:∀s,R (fun S a=>gB E deep base S a s) (fun S a=>gB E' deep' base S a s)
 seq:∀{c c' d d':Cm},R c c'→R d d'→R (K9 c d) (K9 c' d')
 Tu:∀{c c' d d':Cm},R c c'→R d d'→R (RE c d) (RE c' d')
 test:∀l {c c' d d':Cm},R c c'→R d d'→R (AA E l c d) (AA E' l c' d')
theorem AP{E b:fx}{deep c:Deep}{base:U}{R:Cm→Cm→Prop}(K:JD E b deep c base R)(o:Option Bs):R (fun S a=>DQ E deep base S a o) (fun S a=>DQ b c base S a o):=by
 cases o with
 |none=>exact K.no
 |some s=>exact K.Tv s
theorem B6(E:fx)(deep:Deep)(base:U)(l:List bQ):(fun S a=>oQ E deep base l S a)=RE (fun S a=>DQ E deep base S a (bG l lC)) (RE (fun S a=>DQ E deep base S a (bG l lD)) (fun S _=>(S,if(bG l dj).isSome then .yes [] else .no))):=by
 funext S a
 unfold oQ RE Au;rfl
theorem G4{E b:fx}{deep c:Deep}{base:U}{R:Cm→Cm→Prop}(K:JD E b deep c base R)(l:List bQ):R (fun S a=>oQ E deep base l S a) (fun S a=>oQ b c base l S a):=by
 rw[B6,B6];refine K.Tu (AP K _) (K.Tu (AP K _) ?_);cases(bG l dj).isSome
 ·exact K.no
 ·exact K.nil
section
variable(E:fx)(deep:Deep)(base:U)
theorem xy(k p:Int)(t:Bs)(a:List bQ)(l:List Nd)(vs:Bool)(S:PS)(n:Nat):bT E deep base (.mk k p t a l) vs S n=
 if k=2 then lS E vs t S.step n
 else if k=4 then(lV base a t S.step,.yes [])
 else if k=5∨k=6 then(S.step,.yes [])
 else if k=3 then oQ E deep base a S.step n
 else if k=7 then ot E deep base l vs S.step n
 else if k=10 then eK E deep base l vs S.step n
 else dJ E deep base l (vs||decide (k=13)) S.step n:=by rw[bT]
theorem xx(k p:Int)(t:Bs)(a:List bQ)(l:List Nd)(vs:Bool)(S:PS)(n:Nat):oT E deep base (.mk k p t a l) vs S n=dJ E deep base l vs S n:=by rw[oT]
theorem AB(vs:Bool)(S:PS)(n:Nat):dJ E deep base [] vs S n=(S,.yes []):=by rw[dJ]
theorem rm(x:Nd)(r:List Nd)(vs:Bool):(fun S n=>dJ E deep base (x::r) vs S n)=K9 (fun S n=>bT E deep base x vs S n) (fun S n=>dJ E deep base r vs S n):=by funext S n;rw[dJ];rfl
theorem AE(vs:Bool)(S:PS)(n:Nat):ot E deep base [] vs S n=(S,.no):=by rw[ot]
theorem rp(x:Nd)(r:List Nd)(vs:Bool):(fun S n=>ot E deep base (x::r) vs S n)=RE (fun S n=>bT E deep base x vs S n) (fun S n=>qJ E deep base r vs S n):=by funext S n;rw[ot];rfl
theorem AD(vs:Bool)(S:PS)(n:Nat):qJ E deep base [] vs S n=(S,.no):=by rw[qJ]
theorem xC(x:Nd)(r:List Nd)(vs:Bool)(S:PS)(n:Nat):qJ E deep base (x::r) vs S n=bT E deep base x vs S n:=by rw[qJ]
theorem AF(vs:Bool)(S:PS)(n:Nat):eK E deep base [] vs S n=(S,.yes []):=by rw[eK]
theorem vf(x:Nd)(r:List Nd)(vs:Bool)(h:x.kind=12)(S:PS)(n:Nat):eK E deep base (x::r) vs S n=bT E deep base x vs S n:=by rw[eK,ah h]
theorem rq(x:Nd)(r:List Nd)(vs:Bool)(h:x.kind≠12):(fun S n=>eK E deep base (x::r) vs S n)=AA E x.attrs (fun S n=>oT E deep base x vs S n) (fun S n=>eK E deep base r vs S n):=by funext S n;rw[eK,ae h];rfl
end
theorem vg{E b:fx}{deep c:Deep}{base:U}{R:Cm→Cm→Prop}(K:JD E b deep c base R)(n:Nd):
 (∀vs,R (fun S a=>bT E deep base n vs S a) (fun S a=>bT b c base n vs S a))∧∀vs,R (fun S a=>oT E deep base n vs S a) (fun S a=>oT b c base n vs S a):=by
 refine Nd.ind (P:=fun n=>(∀vs,R (fun S a=>bT E deep base n vs S a) (fun S a=>bT b c base n vs S a))∧∀vs,R (fun S a=>oT E deep base n vs S a) (fun S a=>oT b c base n vs S a)) (fun k p t a l d=> ?_) n;have i:∀vs,R (fun S a=>dJ E deep base l vs S a) (fun S a=>dJ b c base l vs S a):=fun vs=>by
  induction l with
  |nil=>simp only[AB];exact K.nil
  |cons x r j=>rw[rm,rm];exact K.seq ((d x (by simp)).1 vs) (j fun y e=>d y (by simp[e]))
 have z:∀(l:List Nd) vs,(∀x,x∈l→∀vs,R (fun S a=>bT E deep base x vs S a) (fun S a=>bT b c base x vs S a))→R (fun S a=>qJ E deep base l vs S a) (fun S a=>qJ b c base l vs S a):=fun l vs h=>by
  cases l with
  |nil=>simp only[AD];exact K.no
  |cons x r=>simp only[xC];exact h x (by simp) vs
 have A:∀vs,R (fun S a=>ot E deep base l vs S a) (fun S a=>ot b c base l vs S a):=fun vs=>by
  cases l with
  |nil=>simp only[AE];exact K.no
  |cons x r=>rw[rp,rp];exact K.Tu ((d x (by simp)).1 vs) (z r vs fun y e=>(d y (by simp[e])).1)
 have B:∀vs,R (fun S a=>eK E deep base l vs S a) (fun S a=>eK b c base l vs S a):=fun vs=>by
  clear i A z;induction l with
  |nil=>simp only[AF];exact K.nil
  |cons x r j=>
   by_cases h:x.kind=12
   ·simp only[vf _ _ _ x r vs h];exact(d x (by simp)).1 vs
   ·rw[rq _ _ _ x r vs h,rq _ _ _ x r vs h];exact K.test _ ((d x (by simp)).2 vs) (j fun y e=>d y (by simp[e]))
 refine⟨fun vs=> ?_,fun vs=>by simp only[xx];exact i vs⟩;simp only[xy];by_cases o:k=2
 ·simp only[ah o];exact K.step (K.text vs t)
 simp only[ae o];by_cases s:k=4
 ·simp only[ah s];exact K.step (K.inl a t)
 simp only[ae s];by_cases u:k=5∨k=6
 ·simp only[ah u];exact K.step K.nil
 simp only[ae u];by_cases q:k=3
 ·simp only[ah q];exact K.step (G4 K a)
 simp only[ae q];by_cases w:k=7
 ·simp only[ah w];exact K.step (A vs)
 simp only[ae w];by_cases m:k=10
 ·simp only[ah m];exact K.step (B vs)
 simp only[ae m];exact K.step (i _)
end Go.Proofs.YtlemddnecmmfgaaGreatDoor
namespace Go.Proofs.YtlemddnecmmfgaaGreatDoor
open Go.RowKit
variable{p:List Nd}{d:Nat→Prop}
mutual
def MH:Nd→Prop
 |.mk _ _ t a l=>t.length≤1000000∧a.length≤1000000∧(∀x∈a,x.val.length≤1000000∧x.name.length≤1000000)∧l.length≤1000000∧QK l
def QK:List Nd→Prop
 |[]=>True
 |x::r=>MH x∧QK r
end
theorem QK.get:∀{l:List Nd} {x:Nd},QK l→x∈l→MH x
 |y::r,x,h,a=>by
  rw[QK] at h;rcases bL.1 a with rfl|a
  ·exact h.1
  ·exact QK.get h.2 a
theorem fC.shape{W:aaK}{v:aaL}(h:fC d W p v):∃a c,v=.slice a p.length c:=by rcases h with⟨rfl,a,c,rfl⟩|⟨b,o,c,rfl,_⟩<;>exact⟨_,_,rfl⟩
theorem fu.shape{A:Nat→Prop}{W:aaK}{x:Nd}{v:aaL}(h:fu A W x v):∃a c e i,v=wZ x.kind x.place x.text (.slice a x.attrs.length c) (.slice e x.kids.length i)∧aP A W x.attrs (.slice a x.attrs.length c)∧fC A W x.kids (.slice e x.kids.length i):=by
 cases x with
 |mk k p t a l=>obtain⟨av,kv,rfl,b,d⟩:=mJ.1 h;obtain⟨a1,j,rfl⟩:=b.shape;obtain⟨a2,m,rfl⟩:=d.shape;exact⟨a1,j,a2,m,rfl,b,d⟩
theorem qx.get{A:Nat→Prop}{W:aaK}:∀{l:List Nd} {b o i:Nat} {x:Nd},qx A W l b o→l[i]? =some x→∃a,fu A W x (.agg a)∧eI W b (o+i*5) a.toList
 |[],_,_,_,_,_,h=>by simp at h
 |y::r,b,o,0,x,h,c=>by simp at c;subst c;rw[tN] at h;obtain⟨⟨a,d,e⟩,_⟩:=h;exact⟨a,d,by rw[Nat.zero_mul,qF];exact e⟩
 |y::r,b,o,i+1,x,h,c=>by rw[tN] at h;obtain⟨a,d,e⟩:=qx.get (i:=i) h.2 (by simpa using c);exact⟨a,d,by rw[show o+(i+1)*5=o+5+i*5 by omega];exact e⟩
theorem fC.get{A:Nat→Prop}{W:aaK}{l:List Nd}{p:Option Addr}{kn z i:Nat}{x:Nd}(h:fC A W l (.slice p kn z))(n:l[i]? =some x):
 ∃b o a c d k,p=some ⟨b,o,none⟩∧b<W.heap.size∧fu A W x (wZ x.kind x.place x.text (.slice a x.attrs.length c) (.slice d x.kids.length k))∧
  ∀(j:Nat) (v:aaL),(eH x.kind x.place x.text (.slice a x.attrs.length c) (.slice d x.kids.length k))[j]? =some v→W.cell? ⟨b,o+i*5+j,none⟩=some v:=by
 rcases h with⟨rfl,_⟩|⟨b,o,c,s,E,F,t,u⟩
 ·simp at n
 ·injection s with r C D;obtain⟨B,m,w⟩:=u.get n;obtain⟨a,q,d,k,e,G,H⟩:=m.shape;injection e with e;subst e;exact⟨b,o,a,q,d,k,r,t,m,fun j v y=>w j v y⟩
theorem fC.next{W W':aaK}{v:aaL}(h:fC d W p v)(i:Below W.heap.size W W'):fC d W' p v:=by
 rcases h with h|⟨b,o,c,a,e,j,k,m⟩
 ·exact .inl h
 ·exact .inr ⟨b,o,c,a,e,j,ej k i.size,pW i.size (fun b a e=>⟨a,i.block b e⟩) p b o j k m⟩
theorem Jg{p q:Prop} [Decidable p] [Decidable q]{k:Type}{a b c d:k}(h:p↔q)(i:a=c)(j:b=d):(if p then a else b)=if q then c else d:=by
 by_cases e:p
 ·rw[ah e,ah (h.1 e),i]
 ·rw[ae e,ae (fun hq=>e (h.2 hq)),j]
theorem Kw(k p:Int)(t:Bs)(a:List bQ)(l:List Nd)(deep:Nat)(hid:Bool)(behind:Int):hX (.mk k p t a l) deep hid behind=
 if((k==14)&&hid)=true then 13 else if(!(k==2)&&decide (16<deep))=true then 3 else if sq k a=false then 12 else if(!sj k t hid||((k==2)&&(behind==2)))=true then 4
 else if Df k l.length=false then 13 else mq k l.length (deep+1) (hid||(k==14)) 0 0 l:=by
 rw[hX];have b:decide (k=14)=(k==14):=by rw[gf];simp
 rw[b];refine Jg (by simp) rfl (Jg (by simp) rfl (Jg Iff.rfl rfl (Jg (by simp) rfl rfl)))
theorem Dg{k:Int}{n deep:Nat}{hid:Bool}{i:Nat}{before:Int}{x:Nd}{E:Int}(e:p[i]? =some x)(h:mq k n deep hid i before (p.drop i)=E):
 (zT k x.kind i n=false→E=13)∧(zT k x.kind i n=true→(hX x deep hid before≠0→E=hX x deep hid before)∧(hX x deep hid before=0→mq k n deep hid (i+1) x.kind (p.drop (i+1))=E)):=by
 obtain⟨c,d⟩:=cH.1 e;rw[lG c,d,mq] at h;refine⟨fun b=>by rw[ah b] at h;exact h.symm,fun b=> ?_⟩;rw[ae (by rw[b];decide)] at h;exact⟨fun a=>by rw[ah a] at h;exact h.symm,fun a=>by rw[ae (by rw[a];decide)] at h;exact h⟩
variable{d M:Int}
theorem QW(h:¬d=M):(d !=M)=true:=by rw[bne,eS h];rfl
theorem QX(h:d=M):(d !=M)=false:=by rw[bne,jY h];rfl
theorem ia(k:Int)(n:Nat):Df k n= !((decide (2≤k∧k≤6)&&decide (0<n))||((k==7)&&decide (n≠2))||((k==10)&&decide (n=0))):=by
 unfold Df;have a:decide (k=7)=(k==7):=by rw[gf];simp
 have b:decide (k=10)=(k==10):=by rw[gf];simp
 rw[a,b,Bool.not_or,Bool.not_or]
theorem Kx(k:Int):(dM k).length≤10:=by
 unfold dM
 repeat' split
 all_goals decide
theorem Dh{rs:List ep}{l:List bQ}{aa:Option Addr}{ac n:Nat}{A:Nat→Prop}{rv:aaL}{w:aaK}{b d:Prop}(i:Good w)(m:rs.length≤10)(k:gw w rv rs)(j:l.length=n)(e:aP A w l (.slice aa n ac))(a:b∧l.length≤1000000∧(∀x∈l,x.val.length≤1000000∧x.name.length≤1000000)∧d){c:Bool}(h:so rs l=c):
 Calls Tryz.prog 85 #[.agg #[.slice aa n ac],rv] w (cN w (.bool c)):=by
 subst j;subst h;exact Kv w i m k e a.2.1 fun x o=>(a.2.2.1 x o).1
theorem Ga:∀n:Nd,MH n→∀(deep:Nat) (hid:Bool) (behind:Int) (A:Nat→Prop) (w:aaK) (v:aaL),Good w→deep≤17→fu A w n v→
 Calls Tryz.prog 44 #[v,.agg #[.int .i64 deep,.bool hid],.int .i64 behind] w (cN w (.int .i64 (hX n deep hid behind))):=by
 refine Nd.ind (fun k p t a l ih c8 deep hid behind A w v hg em av=> ?_);obtain⟨aa,ac,ka,kc,rfl,a6,a8⟩:=av.shape;have a6:aP A w a (.slice aa a.length ac):=a6;have a8:fC A w l (.slice ka l.length kc):=a8;rw[MH] at c8;obtain⟨ht,cs,ct,a9,c7⟩:=c8;show Calls _ _ #[.agg #[.int .i64 k,.int .i64 p,.string ⟨t.toArray⟩,.slice aa a.length ac,.slice ka l.length kc],.agg #[.int .i64 deep,.bool hid],.int .i64 behind] w _;have ap:=Kw k p t a l deep hid behind;have hA:Below w.heap.size w ((w.alloc (.cells (eH k p t (.slice aa a.length ac) (.slice ka l.length kc)).toArray 37)).alloc (.cells #[.int .i64 deep,.bool hid] 105)):=((ar _ _).alloc (ag _) _).alloc (by rw[aO];omega) _;have r:=ad hA;have T:=ad (jX w (.cells (eH k p t (.slice aa a.length ac) (.slice ka l.length kc)).toArray 37) (.cells #[.int .i64 deep,.bool hid] 105));have V:=ad (iT w (.cells (eH k p t (.slice aa a.length ac) (.slice ka l.length kc)).toArray 37) (.cells #[.int .i64 deep,.bool hid] 105));have aN:=ad (a6.next hA);have bk:=ad (a8.next hA);have HG:=ad (hg.next hA);have cc:=ad ih;have HB:=ad (And.intro ht (And.intro cs (And.intro ct (And.intro a9 c7))));obtain⟨E,hE⟩:∃E,hX (.mk k p t a l) deep hid behind=E:=⟨_,rfl⟩;rw[hE] at ap⊢;obtain⟨AN,bv⟩:∃n,a.length=n:=⟨_,rfl⟩;obtain⟨N,hN⟩:∃n,l.length=n:=⟨_,rfl⟩;rw[bv] at r T V aN bk HG⊢;rw[hN] at r T V aN bk HG ap a9⊢;have ci:=ad hN;have dq:=ad bv;obtain⟨c1,bx⟩:∃c,((k==14)&&hid)=c:=⟨_,rfl⟩;obtain⟨c2,bJ⟩:∃c,(!(k==2)&&decide (16<deep))=c:=⟨_,rfl⟩;obtain⟨c3,b0⟩:∃c,sq k a=c:=⟨_,rfl⟩;obtain⟨tx,b5⟩:∃c,sj k t hid=c:=⟨_,rfl⟩;obtain⟨Z,b1⟩:∃c,(!tx||((k==2)&&(behind==2)))=c:=⟨_,rfl⟩;obtain⟨F,b2⟩:∃c,Df k N=c:=⟨_,rfl⟩;rw[bx,bJ,b0,b5,b1,b2] at ap;have S:=ad ap;have be:=ad bx;have al:=ad bJ;have b7:=ad b0;have cl:=ad b5;have am:=ad b1;have B:=ad b2;have l1:N≤1000000:=a9;clear ih ht cs ct a9 c7 a6 a8 hg av hA hE ap bv hN bx bJ b0 b5 b1 b2;go_enter Tryz.func44,Tryz.ntmps44;go_upto_region 1 with fail;generalize(w.alloc (.cells (eH k p t (.slice aa AN ac) (.slice ka N kc)).toArray 37)).alloc (.cells #[.int .i64 deep,.bool hid] 105)=D at*;obtain⟨z,y2,y3,I⟩:=qX4 (aj T.o) 0 2 3 4;obtain⟨z0,Y⟩:=qX2 (aj V.o) 0 1
 go_cut [12] (fun s H=>s=.bool c1∧D=H)
 case first=>
  by_cases h:k=14
  ·have b:=ad (show hid=c1 by rw[←be.o,jY h];rfl);have M:=jY h;clear h;go_wp2_with fail
   go_meet
   exact⟨by rw[b.o],rfl⟩
  ·have b:=ad (show false=c1 by rw[←be.o,eS h];rfl);have M:=eS h;clear h;go_wp2_with fail
   go_meet
   exact⟨by rw[←b.o],rfl⟩
 case rest=>
  obtain⟨rfl,rfl⟩:=hcut;cases c1
  ·go_upto_region 3 with fail
   go_cut [20] (fun s H=>s=.bool c2∧D=H)
   case first=>
    by_cases h:k=2
    ·have b:=ad (show false=c2 by rw[←al.o,jY h];rfl);have M:=jY h;have q2:=QX h;clear h;go_wp2_with fail
     go_meet
     exact⟨by rw[←b.o],rfl⟩
    ·have M:=eS h;have q2:=QW h;by_cases hd:16<deep
     ·have b:=ad (show true=c2 by rw[←al.o,eS h,bN hd];rfl);have i1:(16:Int)<(deep:Int):=by omega
      clear h hd;go_wp2_with fail
      go_meet
      exact⟨by rw[←b.o],rfl⟩
     ·have b:=ad (show false=c2 by rw[←al.o,eS h,cL hd];rfl);have i1:¬(16:Int)<(deep:Int):=by omega
      clear h hd;go_wp2_with fail
      go_meet
      exact⟨by rw[←b.o],rfl⟩
   case rest=>
    obtain⟨rfl,rfl⟩:=hcut;cases c2
    ·have d5:=ad (show so (dM k) a=c3 by rw[←Gb];exact b7.o);have HD:=ad ((ar D.heap.size D).drew);have b6:=ad (aN.o.next HD.o);have cb:=ad (HG.o.next HD.o);have bb:D.drew.cell? ⟨w.heap.size,0,none⟩=some (.int .i64 k):=z;have bd:D.drew.cell? ⟨w.heap.size,3,none⟩=some (.slice aa AN ac):=y3;go_upto_region 5 with fail
     go_cut [29] (fun s H=>s=.bool (!c3)∧Hid (Below D.heap.size D H))
     case first=>
      go_region_with
       (first
        |(go_at_call 86;refine(F9 k D.drew).m ?_;rintro e w5⟨L,rv,rfl,c6⟩;have C:=ad (HD.o.t (L.m HD.o.size));have d8:=ad c6;have dp:=ad (b6.o.next L);have d4:=ad (cb.o.next L);have dl:=(L.cell (p:=⟨w.heap.size,0,none⟩) (aV bb)).t bb;have el:=(L.cell (p:=⟨w.heap.size,3,none⟩) (aV bd)).t bd;clear L c6)
        |(go_at_call 85;refine(Dh d4.o (Kx k) d8.o dq.o dp.o HB.o d5.o).m ?_;rintro e w6⟨rfl,Q⟩;have a2:=ad (C.o.t (Q.m C.o.size));clear Q))
      all_goals
       clear z y2 y3 I z0 Y bb bd dl el;go_wp2_with fail
       go_meet
       exact⟨rfl,a2⟩
     case rest=>
      obtain⟨rfl,u⟩:=hcut;have aq:=(u.o.block _ (aB.1 T.o).1).t T.o;have ay:=(u.o.block _ (aB.1 V.o).1).t V.o;have J:=ad aq;have ao:=ad ay;clear z y2 y3 I z0 Y bb bd aq ay b6 cb HD aN;cases c3
      ·have b:=ad (show E=12 from S.o);go_wp2_with fail;go_ret;exact⟨by rw[b.o];rfl,r.o.t (u.o.m r.o.size)⟩
      ·have a1:=ad (F7 k p t (aa:=aa) (an:=AN) (ac:=ac) (ka:=ka) (kn:=N) (kc:=kc) hid HB.o.1 _ (HG.o.next u.o));rw[cl.o] at a1;obtain⟨z,y1,y2,y3,I⟩:=qX5 (aj J.o) 0 1 2 3 4;have Y:=aj ao.o 1;go_upto_region 7 with fail
       go_cut [38] (fun s H=>s=.bool Z∧Hid (Below D.heap.size D H))
       case first=>
        go_wp2_with fail;refine a1.o.m ?_;rintro en w5⟨rfl,L⟩;have C:=ad (u.o.t (L.m u.o.size));have cO:=(L.block _ (aB.1 J.o).1).t J.o;have dl:=aj cO 0;clear L cO z y1 y2 y3 I Y a1;cases tx
        ·have b:=ad (show true=Z by rw[←am.o];rfl);go_wp2_with fail
         go_meet
         exact⟨by rw[←b.o],C⟩
        ·by_cases q:k=2
         ·by_cases d:behind=2
          ·have b:=ad (show true=Z by rw[←am.o,jY q,jY d];rfl);have M:=jY q;have q2:=jY d;clear q d;go_wp2_with fail
           go_meet
           exact⟨by rw[←b.o],C⟩
          ·have b:=ad (show false=Z by rw[←am.o,jY q,eS d];rfl);have M:=jY q;have q2:=eS d;clear q d;go_wp2_with fail
           go_meet
           exact⟨by rw[←b.o],C⟩
         ·have b:=ad (show false=Z by rw[←am.o,eS q];rfl);have M:=eS q;clear q;go_wp2_with fail
          go_meet
          exact⟨by rw[←b.o],C⟩
       case rest=>
        clear u J ao z y1 y2 y3 I Y a1 cl am;obtain⟨rfl,u⟩:=hcut;have aq:=(u.o.block _ (aB.1 T.o).1).t T.o;have ay:=(u.o.block _ (aB.1 V.o).1).t V.o;have J:=ad aq;have ao:=ad ay;clear aq ay;cases Z
        ·have bl:=ad (Kq k wc);obtain⟨lf,j⟩:∃lf,decide (2≤k∧k≤6)=lf:=⟨_,rfl⟩;rw[j] at bl;obtain⟨z,I⟩:=qX2 (aj J.o) 0 4;have n0:(0:Int)≤(N:Int):=by omega
         go_upto_region 9 with fail
         go_cut [53] (fun s H=>s=.bool (!F)∧wc=H)
         case first=>
          go_wp2_with fail;refine bl.o.m ?_;rintro en w5⟨rfl,rfl⟩;cases lf
          ·skip
           by_cases y:k=7
           ·have G:=jY y;by_cases q:N=2
            ·have O:(k==10)=false:=eS (by omega);have b:=ad (show false=(!F) by rw[←B.o,ia,j,G,O];simp[q]);have i2:((N:Int)!=2)=false:=QX (by omega);clear j y q;go_wp2_with fail
             go_meet
             exact⟨by rw[←b.o],rfl⟩
            ·skip
             have b:=ad (show true=(!F) by rw[←B.o,ia,j,G];simp[q]);have i2:((N:Int)!=2)=true:=QW (by omega);clear j y q;go_wp2_with fail
             go_meet
             exact⟨by rw[←b.o],rfl⟩
           ·have G:=eS y;by_cases K:k=10
            ·have O:=jY K;by_cases h0:N=0
             ·skip
              have b:=ad (show true=(!F) by rw[←B.o,ia,j,G,O];simp[h0]);have i2:((N:Int)==0)=true:=jY (by omega);clear j y K h0;go_wp2_with fail
              go_meet
              exact⟨by rw[←b.o],rfl⟩
             ·skip
              have b:=ad (show false=(!F) by rw[←B.o,ia,j,G,O];simp[h0]);have i2:((N:Int)==0)=false:=eS (by omega);clear j y K h0;go_wp2_with fail
              go_meet
              exact⟨by rw[←b.o],rfl⟩
            ·have O:=eS K;have b:=ad (show false=(!F) by rw[←B.o,ia,j,G,O];simp);clear j y K;go_wp2_with fail
             go_meet
             exact⟨by rw[←b.o],rfl⟩
          by_cases hn:0<N
          ·have b:=ad (show true=(!F) by rw[←B.o,ia,j,bN hn];simp);have i1:(0:Int)<(N:Int):=by omega
           clear j hn;go_wp2_with fail
           go_meet
           exact⟨by rw[←b.o],rfl⟩
          have ec:N=0:=by omega
          subst ec;clear hn;by_cases y:k=7
          ·have G:=jY y;have b:=ad (show true=(!F) by rw[←B.o,ia,j,G];simp);clear j y;go_wp2_with fail
           go_meet
           exact⟨by rw[←b.o],rfl⟩
          ·have G:=eS y;by_cases K:k=10
           ·have O:=jY K;have b:=ad (show true=(!F) by rw[←B.o,ia,j,G,O];simp);clear j y K;go_wp2_with fail
            go_meet
            exact⟨by rw[←b.o],rfl⟩
           ·have O:=eS K;have b:=ad (show false=(!F) by rw[←B.o,ia,j,G,O];simp);clear j y K;go_wp2_with fail
            go_meet
            exact⟨by rw[←b.o],rfl⟩
         case rest=>
          obtain⟨rfl,rfl⟩:=hcut;clear bl j z I;cases F
          ·have b:=ad (show E=13 from S.o);go_wp2_with fail;go_ret;exact⟨by rw[b.o];rfl,r.o.t (u.o.m r.o.size)⟩
          ·obtain⟨d,b4⟩:∃d,(hid||(k==14))=d:=⟨_,rfl⟩;have bg:=ad (show E=mq k N (deep+1) d 0 0 l by have h:=S.o;rw[b4] at h;exact h);have a0:=ad b4;have d2:=ad (show 0<N→deep≤16 from fun h0=>by
            have h5:=B.o;have q:=al.o;rw[ia] at h5;by_cases hd:16<deep
            ·have hk:k=2:=by rw[bN hd,Bool.and_true] at q;simpa using q
             rw[hk,bN h0] at h5;cases h5
            ·omega)
           have z:=aj J.o 0;obtain⟨z0,Y⟩:=qX2 (aj ao.o) 0 1;have i1:(deep:Int)≤17:=by omega
           have i0:(0:Int)≤(deep:Int):=by omega
           obtain⟨d1,b3⟩:∃d1,deep+1=d1:=⟨_,rfl⟩;have aU:=ad b3;rw[b3] at bg;obtain⟨R,ek⟩:∃R,R=wc:=⟨_,rfl⟩;subst ek;clear b4 b3;go_upto_region 11 with fail
           go_cut [7] (fun s H=>s=.pointer (some ⟨R.heap.size,0,none⟩)∧H=R.alloc (.cells #[.int .i64 (d1:Int),.bool d] 105))
           case first=>
            cases hid
            ·by_cases ab:k=14
             ·have b:=ad (show true=d by rw[←a0.o,jY ab];rfl);have M:=jY ab;clear ab;go_wp2_with fail
              go_meet
              exact⟨rfl,by rw[←b.o,←aU.o];rfl⟩
             ·have b:=ad (show false=d by rw[←a0.o,eS ab];rfl);have M:=eS ab;clear ab;go_wp2_with fail
              go_meet
              exact⟨rfl,by rw[←b.o,←aU.o];rfl⟩
            ·have b:=ad (show true=d by rw[←a0.o];rfl);go_wp2_with fail
             go_meet
             exact⟨rfl,by rw[←b.o,←aU.o];rfl⟩
           case rest=>
            obtain⟨rfl,rfl⟩:=hcut;have hA9:=az R (.cells #[.int .i64 (d1:Int),.bool d] 105);have cn:=ad (u.o.t (hA9.m u.o.size));have ck:=ad (au R (.cells #[.int .i64 (d1:Int),.bool d] 105));have c4:=(hA9.block _ (aB.1 J.o).1).t J.o;have bm:=ad c4;have ca:Hid (mq k N d1 d 0 0 (l.drop 0)=E):=ad bg.o.symm;clear hA9 c4 z z0 Y i1 i0 u J ao bg a0 S be al b7 B;generalize R.alloc (.cells #[.int .i64 (d1:Int),.bool d] 105)=W9 at*;generalize R.heap.size=pl at*;have I:=aj bm.o 4;go_upto_region 14 with fail;clear I
            go_loopw [8,99] (fun u8 u99 wr=>∃(i:Nat) (bf:Int),i≤N∧u99=.int .i64 i∧u8=.int .i64 bf∧Hid (mq k N d1 d i bf (l.drop i)=E)∧Hid (Below W9.heap.size W9 wr)) (fun _ u99 _=>N-(intOf u99).toNat)
            case atStart=>exact⟨0,0,aH _,rfl,rfl,ca,ad (ar _ _)⟩
            case round=>
             obtain⟨i,bf,hi,rfl,rfl,b9,W⟩:=hrel;clear ca;have a3:=ad (cn.o.t (W.o.m cn.o.size));have d3:=ad (r.o.t (a3.o.m r.o.size));by_cases eb:i<N
             ·have i2:(i:Int)<(N:Int):=by omega
              have i3:(0:Int)≤(i:Int):=by omega
              obtain⟨x,hx⟩:∃x,l[i]? =some x:=⟨_,cA (by rw[ci.o];exact eb)⟩;have bp:=ad (Dg hx b9.o);have co:=ad (eQ hx);have d0:=ad (show d1≤17 by rw[←aU.o];have:=d2.o (by omega);omega);obtain⟨kb,ko,xa,xc,xk,xd,rfl,ea,av,ai⟩:=(bk.o.next a3.o).get hx;have X:=ai 0 _ rfl;have x1:=ai 1 _ rfl;have x2:=ai 2 _ rfl;have x3:=ai 3 _ rfl;have x4:=ai 4 _ rfl;rw[qF] at X;have hA5:=az wr (.cells (eH x.kind x.place x.text (.slice xa x.attrs.length xc) (.slice xk x.kids.length xd)).toArray 37);have C:=ad (W.o.t (hA5.m W.o.size));have br:=ad (a3.o.t (hA5.m a3.o.size));have ch:=ad (av.next hA5);have a5:=ad (au wr (.cells (eH x.kind x.place x.text (.slice xa x.attrs.length xc) (.slice xk x.kids.length xd)).toArray 37));have c0:=((W.o.t (hA5.m W.o.size)).block _ (aB.1 bm.o).1).t bm.o;have c5:=((W.o.t (hA5.m W.o.size)).block _ (aB.1 ck.o).1).t ck.o;have cd:=ad c0;have bn:=ad c5;have HF:=ad (Ks k x.kind i N (by omega) l1 (wr.alloc (.cells (eH x.kind x.place x.text (.slice xa x.attrs.length xc) (.slice xk x.kids.length xd)).toArray 37)));clear hx ai av hA5 ea c0 c5;go_upto_region 16 with fail;generalize wr.alloc (.cells (eH x.kind x.place x.text (.slice xa x.attrs.length xc) (.slice xk x.kids.length xd)).toArray 37)=W5 at*;generalize wr.heap.size=xb at*;clear X x1 x2 x3 x4;obtain⟨z,I⟩:=qX2 (aj cd.o) 0 4;have X:=aj a5.o 0;obtain⟨ft,cK⟩:∃ft,zT k x.kind i N=ft:=⟨_,rfl⟩;rw[cK] at HF bp;clear cK;go_wp2_with fail;refine HF.o.m ?_;rintro en w6⟨rfl,Q⟩;have a2:=ad (C.o.t (Q.m C.o.size));have a4:=ad (br.o.t (Q.m br.o.size));have bs:=ad ((Q.block _ (aB.1 a5.o).1).t a5.o);have d7:=ad ((Q.block _ (aB.1 bn.o).1).t bn.o);have d6:=ad (ch.o.next Q);clear Q z I X HF cd a5 bn ch C br;cases ft
              ·have b:=ad (bp.o.1 rfl);have bi:=ad (r.o.t (a4.o.m r.o.size));go_wp2_with fail;go_ret;exact⟨by rw[b.o];rfl,bi.o⟩
              ·have bo:=ad (bp.o.2 rfl);have b8:=ad (cc.o x co.o (HB.o.2.2.2.2.get co.o) d1 d bf A w6 _ (HG.o.next a4.o) d0.o d6.o);obtain⟨X,x1,x2,x3,x4⟩:=qX5 (aj bs.o) 0 1 2 3 4;obtain⟨p0,p1⟩:=qX2 (aj d7.o) 0 1;obtain⟨ce,cx⟩:∃ce,hX x d1 d bf=ce:=⟨_,rfl⟩;rw[cx] at b8 bo;clear cx cc;go_wp2_with fail;refine b8.o.m ?_;rintro en w7⟨rfl,a7⟩;have d9:=ad (a2.o.t (a7.m a2.o.size));have bi:=ad (r.o.t ((a4.o.t (a7.m a4.o.size)).m r.o.size));have c9:=(a7.block _ (aB.1 bs.o).1).t bs.o;clear a7 X x1 x2 x3 x4 p0 p1;have X:=aj c9 0;clear c9;by_cases af:ce=0
               ·have ds:=ad (bo.o.2 af);have M:=QX af;clear af;go_wp2_with fail
                go_roundw
                case rel=>(repeat apply Exists.intro);exact⟨⟨i+1,x.kind,by omega,by go_num,rfl,ds,d9⟩,rfl⟩
                case measure=>(simp[intOf]<;>omega)
               ·have b:=ad (bo.o.1 af);have M:=QW af;clear af;go_wp2_with fail;go_ret;exact⟨by rw[b.o];rfl,bi.o⟩
             ·obtain rfl:i=N:=by omega
              have b:=ad (show E=0 by rw[←b9.o,qA (by rw[ci.o];exact ag _)];rw[mq]);go_wp2_with fail;go_ret;exact⟨by rw[b.o];rfl,d3.o⟩
        ·have b:=ad (show E=4 from S.o);go_wp2_with fail;go_ret;exact⟨by rw[b.o];rfl,r.o.t (u.o.m r.o.size)⟩
    ·have b:=ad (show E=3 from S.o);go_wp2_with fail;go_ret;exact⟨by rw[b.o];rfl,r.o⟩
  ·have b:=ad (show E=13 from S.o);go_wp2_with fail;go_ret;exact⟨by rw[b.o];rfl,r.o⟩
