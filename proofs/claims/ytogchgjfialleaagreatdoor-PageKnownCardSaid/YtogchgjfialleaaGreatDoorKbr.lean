/- The walk of the maker's choose. -/
import Derived.Test.YtogchgjfialleaaGreatDoorKbq
set_option linter.unusedVariables false
set_option maxRecDepth 100000
set_option maxHeartbeats 4000000
namespace Go.Proofs.YtogchgjfialleaaGreatDoor
open Go.RowKit
def lU(P:fx)(deep:Deep)(base:U)(a:List bQ)(n:Nat):List Bs→PS→PS×Oc
 |[],S=>(S,if(bG a dj).isSome then .yes [] else .no)
 |nm::r,S=>match DQ P deep base S n (bG a nm) with
  |(b,.no)=>lU P deep base a n r b
  |q=>q
theorem GD{P:fx}{deep:Deep}{base:U}{a:List bQ}{n:Nat}{l:List Bs}{i:Nat}{nm:Bs}(e:l[i]? =some nm)(S:PS):
 (bG a nm=none→lU P deep base a n (l.drop i) S=lU P deep base a n (l.drop (i+1)) S)∧∀s,bG a nm=some s→(∀b,gB P deep base S n s=(b,.no)→lU P deep base a n (l.drop i) S=lU P deep base a n (l.drop (i+1)) b)∧
  (∀b t,gB P deep base S n s=(b,.yes t)→lU P deep base a n (l.drop i) S=(b,.yes t))∧(∀b,gB P deep base S n s=(b,.wait)→lU P deep base a n (l.drop i) S=(b,.wait)):=by
 obtain⟨c,d⟩:=cH.1 e;rw[lG c,d];refine⟨fun h=> ?_,fun s h=>⟨fun b q=> ?_,fun b t q=> ?_,fun b q=> ?_⟩⟩
 ·rw[lU,h];rfl
 all_goals
  rw[lU,h];show(match gB P deep base S n s with|(b,.no)=>lU P deep base a n (l.drop (i+1)) b|q=>q)=_;rw[q]
def Tr(a:List bQ)(l:List Bs):Nat:=(l.map fun nm=>BS (bG a nm)).sum
theorem N1{a:List bQ}{l:List Bs}{i:Nat}{nm:Bs}(d:l[i]? =some nm):Tr a (l.drop i)=BS (bG a nm)+Tr a (l.drop (i+1)):=by obtain⟨b,c⟩:=cH.1 d;rw[lG b,c];simp[Tr]
theorem tW{a:List bQ}{nm s:Bs}{n:Nat}(h:bG a nm=some s)(c:∀x∈a,x.val.length≤n):s.length≤n:=by unfold bG at h;obtain⟨x,b,rfl⟩:=qG.1 h;exact c x (List.mem_of_find?_eq_some b)
structure IS (E:ME) (W:World) (M0:List Nat) (wx:World) (M:List Nat) (S:PS) (out:Bs) (bn bp:Nat) (base:U) (dp:Nat) (vs:Bool) (k p:Int) (t:Bs) (a:List bQ) (aa:Option Addr) (ac:Nat) (kv:Value):Prop where
 mx:MX E wx M S out
 st:bC M0 W M wx
 hn:KX M wx bn (.cells (eH k p t (.slice aa a.length ac) kv).toArray 45)
 hp:KX M wx bp (.cells (zv base dp vs).toArray 89)
 at_:aP (fun b=>b∉M) wx a (.slice aa a.length ac)
section
variable{E:ME}{W wx wy:World}{M0 M M':List Nat}{S S':PS}{out out':Bs}{bn bp:Nat}{base:U}{dp:Nat}{vs:Bool}{k p:Int}{t:Bs}{a:List bQ}{aa:Option Addr}{ac:Nat}{kv:Value}
theorem IS.stay(h:IS E W M0 wx M S out bn bp base dp vs k p t a aa ac kv)(i:MX E wy M' S' out')(c:bC M wx M' wy):IS E W M0 wy M' S' out' bn bp base dp vs k p t a aa ac kv:=
 ⟨i,h.st.trans c,h.hn.stay c,h.hp.stay c,h.at_.cO c.size fun b d e=>c.cO b e d⟩
theorem IS.next(h:IS E W M0 wx M S out bn bp base dp vs k p t a aa ac kv)(b:Below wx.heap.size wx wy):IS E W M0 wy M S out bn bp base dp vs k p t a aa ac kv:=h.stay (h.mx.next b) (bC.ai b)
theorem Ub(H:MX E W M S out)(m:aP (fun b=>b∉M) W a (.slice aa a.length ac))(A B:Obj)(j:A=.cells (eH k p t (.slice aa a.length ac) kv).toArray 45)(l:B=.cells (zv base dp vs).toArray 89):IS E W M ((W.alloc A).alloc B) M S out W.heap.size (W.heap.size+1) base dp vs k p t a aa ac kv:=by
 have c:Below W.heap.size W ((W.alloc A).alloc B):=(az W A).alloc (by rw[aO];omega) B;have d:∀b,W.heap.size≤b→b∉M:=fun b h n=>by have:=(H.mlt b n).2;omega
 subst j l;exact⟨H.next c,bC.ai c,⟨jX W _ _,d _ (ag _)⟩,⟨iT W _ _,d _ (fB _)⟩,m.cO c.size fun b e i=>⟨e,c.block b i⟩⟩
theorem IS.ret(h:IS E W M0 wx M S out bn bp base dp vs k p t a aa ac kv){R:PS×Oc}{b:Ending}(c:fy E M wx out R b wy):fy E M0 W out R b wy:=fy.pre h.st c
end
theorem GF{E:ME}{deep:Deep}{base:U}{dp:Nat}(HE:QQ E)(HD:Ju E deep dp)(HG:Rv E.env deep)(hb:DO base)(aU:dp≤1000){W:World}{M:List Nat}{S:PS}{out:Bs}(ab:MX E W M S out){k p:Int}{t:Bs}{a:List bQ}{aa ka:Option Addr}{ac kn kc:Nat}(ay:aP (fun b=>b∉M) W a (.slice aa a.length ac))(av:a.length≤1000000)(aN:∀x∈a,x.val.length≤65536)(hw:bq E.inc S (bV a))(ho:out.length≤262144)(vs:Bool):
 Calls Tryz.prog 30 #[.pointer (some ⟨E.mb,0,none⟩),wZ k p t (.slice aa a.length ac) (.slice ka kn kc),Tp base dp vs] W (fy E M W out (oQ E.env deep base a S out.length)):=by
 have J:=ad (Ub (base:=base) (dp:=dp) (vs:=vs) (k:=k) (p:=p) (t:=t) (kv:=.slice ka kn kc) ab ay _ _ rfl rfl);obtain⟨R,L⟩:∃R,oQ E.env deep base a S out.length=R:=⟨_,rfl⟩;rw[L];have ao:Hid (lU E.env deep base a out.length (([lC,lD]:List Bs).drop 0) S=R):=ad L;have aq:Hid (bq E.inc S (Tr a (([lC,lD]:List Bs).drop 0))):=ad (hw.less (by have:=N2 (n1:=lC) (n2:=lD) (by decide) a;show(BS (bG a lC)+(BS (bG a lD)+0))≤_;omega));have a5:=ad HE;have a3:=ad HD;have a6:=ad HG;have a2:=ad hb;have a4:=ad aU;have af:=ad av;have a1:=ad aN;have bb:=ad ho;clear ab ay av aN hw ho hb aU HE HD HG L;go_enter Tryz.func30,Tryz.ntmps30;go_upto_region 1 with fail;generalize(W.alloc (.cells #[.int .i64 k,.int .i64 p,.string ⟨t.toArray⟩,.slice aa a.length ac,.slice ka kn kc] 45)).alloc (.cells (zv base dp vs).toArray 89)=C at*;generalize W.heap.size=bn at*;have an:Hid (KX M (C.alloc (.cells #[.string ⟨#[115,114,99]⟩,.string ⟨#[97,108,116]⟩] 9)) C.heap.size (.cells #[.string ⟨#[115,114,99]⟩,.string ⟨#[97,108,116]⟩] 9)):=ad (rk J.out.mx (.cells #[.string ⟨#[115,114,99]⟩,.string ⟨#[97,108,116]⟩] 9));have ap:=ad (J.out.next (az C (.cells #[.string ⟨#[115,114,99]⟩,.string ⟨#[97,108,116]⟩] 9)));clear J;go_upto_region 2 with fail;generalize C.alloc (.cells #[.string ⟨#[115,114,99]⟩,.string ⟨#[97,108,116]⟩] 9)=W2 at*;generalize C.heap.size=nb at*
 go_loopw [15] (fun T wr=>∃(i:Nat) (M':List Nat) (S':PS),i≤2∧T=.int .i64 i∧Hid (IS E W M wr M' S' out bn (bn+1) base dp vs k p t a aa ac (.slice ka kn kc))∧Hid (KX M' wr nb (.cells #[.string ⟨#[115,114,99]⟩,.string ⟨#[97,108,116]⟩] 9))∧Hid (lU E.env deep base a out.length (([lC,lD]:List Bs).drop i) S'=R)∧Hid (bq E.inc S' (Tr a (([lC,lD]:List Bs).drop i)))) (fun T _=>2-(intOf T).toNat)
 case atStart=>exact⟨0,M,S,aH _,rfl,ap,an,ao,aq⟩
 case round=>
  obtain⟨i,M',S',hi,rfl,d,u,m,be⟩:=hrel;clear ap an ao aq;by_cases bk:i<2
  ·have i1:(i:Int)<2:=by omega
   have i0:(0:Int)≤(i:Int):=by omega
   obtain⟨nm,N,bi⟩:∃nm,([lC,lD]:List Bs)[i]? =some nm∧wr.cell? ⟨nb,i,none⟩=some (.string ⟨nm.toArray⟩):=by
    have:i=0∨i=1:=by omega
    rcases this with rfl|rfl
    ·exact⟨lC,rfl,aj 0 u.out.1⟩
    ·exact⟨lD,rfl,aj 1 u.out.1⟩
   have G:=ad (GD (P:=E.env) (deep:=deep) (base:=base) (a:=a) (n:=out.length) N S');have z:=ad (show bq E.inc S' (BS (bG a nm)+Tr a (([lC,lD]:List Bs).drop (i+1))) by rw[←N1 N];exact be.out);have ai:=ad (fun w=>pU (A:=fun b=>b∉M') k p t nm (aa:=aa) (ka:=ka) (ac:=ac) (kn:=kn) (kc:=kc) (l:=a) w);have j:=ad (ai.out wr d.out.at_ af.out);have X:=aj 0 d.out.hn.1;have Y:=aj 1 d.out.hn.1;have Z:=aj 2 d.out.hn.1;have x3:=aj 3 d.out.hn.1;have x4:=aj 4 d.out.hn.1;have I:=ad (fun s (h:bG a nm=some s)=>tW h a1.out);obtain⟨o,F⟩:∃o,bG a nm=o:=⟨_,rfl⟩;rw[F] at j G z I;clear ai N F;go_wp2_with fail;refine j.out.mono ?_;rintro en V⟨rfl,r⟩;have c:=ad (d.out.next r);have am:=ad (u.out.next r);clear r X Y Z x3 x4 bi j d u;cases o with
   |none=>
    have y:Hid (lU E.env deep base a out.length (([lC,lD]:List Bs).drop (i+1)) S'=R):=ad ((G.out.1 rfl).symm.trans m.out);have bg:=ad (z.out.less (w':=Tr a (([lC,lD]:List Bs).drop (i+1))) (Nat.le_add_left _ _));go_wp2_with fail
    go_roundw
    case rel=>exact⟨i+1,M',S',by omega,by go_num,c,am,y,bg⟩
    case measure=>(simp[intOf]<;>omega)
   |some s=>
    have p0:=aj 0 c.out.hp.1;have p1:=aj 1 c.out.hp.1;have p2:=aj 2 c.out.hp.1;have p3:=aj 3 c.out.hp.1;have p4:=aj 4 c.out.hp.1;have p5:=aj 5 c.out.hp.1;have p6:=aj 6 c.out.hp.1;have p7:=aj 7 c.out.hp.1;have bf:=ad (I.out s rfl);have K:=ad (Ua a5.out a3.out a2.out a4.out c.out.mx s (by have:=bf.out;omega) (z.out.less (sd _ _)) bb.out vs);have al:=ad (DR a6.out base s S' out.length _ z.out);obtain⟨q,hq⟩:∃q,gB E.env deep base S' out.length s=q:=⟨_,rfl⟩;have H:=ad (G.out.2 s rfl);rw[hq] at K H;have a7:Hid (bq E.inc q.1 (Tr a (([lC,lD]:List Bs).drop (i+1)))):=ad (by rw[←hq];exact al.out);obtain⟨B,oc⟩:=q;clear hq G al z I;go_wp2_with fail;refine K.out.mono ?_;intro en w6 O;clear p0 p1 p2 p3 p4 p5 p6 p7 K;cases oc with
    |yes t5=>obtain⟨rfl,D⟩:=O;have e:=ad (show fy E M W out R (.returned (.bool true)) w6 by rw[←m.out,H.out.2.1 B t5 rfl];exact c.out.ret ⟨rfl,D⟩);clear D;go_wp2_with fail;go_ret;exact e.out
    |no=>
     obtain⟨rfl,M6,a0,Q⟩:=O;have bd:Hid (lU E.env deep base a out.length (([lC,lD]:List Bs).drop (i+1)) B=R):=ad ((H.out.1 B rfl).symm.trans m.out);have a8:=ad (c.out.stay a0 Q);have a9:=ad (am.out.stay Q);clear a0 Q;go_wp2_with fail
     go_roundw
     case rel=>exact⟨i+1,M6,B,by omega,by go_num,a8,a9,bd,a7⟩
     case measure=>(simp[intOf]<;>omega)
    |wait=>obtain⟨rfl,D⟩:=O;have e:=ad (show fy E M W out R (.panicked [gA]) w6 by rw[←m.out,H.out.2.2 B rfl];exact c.out.ret ⟨rfl,D⟩);clear D;go_wp2_with fail;exact⟨rfl,e.out⟩
  ·obtain rfl:i=2:=by omega
   have y:=ad (show R=(S',if(bG a dj).isSome then .yes [] else .no) from m.out.symm);have j:=ad (pU (A:=fun b=>b∉M') k p t dj (aa:=aa) (ka:=ka) (ac:=ac) (kn:=kn) (kc:=kc) (l:=a) wr d.out.at_ af.out);have X:=aj 0 d.out.hn.1;have Y:=aj 1 d.out.hn.1;have Z:=aj 2 d.out.hn.1;have x3:=aj 3 d.out.hn.1;have x4:=aj 4 d.out.hn.1;obtain⟨o,F⟩:∃o,bG a dj=o:=⟨_,rfl⟩;rw[F] at j y;clear F m;go_wp2_with fail;refine j.out.mono ?_;rintro en V⟨rfl,r⟩;have c:=ad (d.out.next r);clear r X Y Z x3 x4 j d u;cases o with
   |none=>have e:=ad (show fy E M W out R (.returned (.bool false)) V by rw[y.out];exact⟨rfl,M',c.out.mx,c.out.st⟩);go_wp2_with fail;go_ret;exact e.out
   |some s=>have e:=ad (show fy E M W out R (.returned (.bool true)) V by rw[y.out];exact⟨rfl,M',by rw[jm];exact c.out.mx,c.out.st⟩);go_wp2_with fail;go_ret;exact e.out
theorem KY(val:bc→Bs×Bool)(x:Ex):tE x→∀u∈(bt val x).2,u.key.length≤100000:=by
 refine Ex.ind (P:=fun x=>tE x→∀u∈(bt val x).2,u.key.length≤100000) (fun k t u l z m=> ?_) x;unfold tE at m;obtain⟨_,_,q,_,s⟩:=m;have o:∀y,y∈l→∀u∈(bt val y).2,u.key.length≤100000:=fun y n=>z y n (xw s n);rw[kz];unfold qI;by_cases d:fG k≠((ig val l).length:Int)
 ·rw[ah d];intro u h;cases h
 rw[ae d];by_cases e:k=10∨k=11
 ·rw[ah e];intro u h;cases h
 rw[ae e];by_cases i:k=12
 ·rw[ah i];intro v h;rw[fj.1 h];exact q
 rw[ae i]
 match l with
 |[]=>rw[ig];intro u h;cases h
 |a::r=>
  have c:=o a (by simp);rw[ig];dsimp only;split
  ·exact c
  split
  ·exact c
  split
  ·exact c
  match r with
  |[]=>rw[ig];intro u h;cases h
  |b::A=>
   have p:=o b (by simp);rw[ig];dsimp only;have j:∀u∈(bt val a).2++(bt val b).2,u.key.length≤100000:=fun u w=>(gZ.1 w).elim (c u) (p u);split
   ·exact j
   ·exact j
theorem dR.stay{M M':List Nat}{W W':World}{x:Ex}{v:Value}(h:dR (fun b=>b∉M) W x v)(d:bC M W M' W'):dR (fun b=>b∉M') W' x v:=by have a:dR (fun b=>b∉M∧b<W.heap.size) W x v:=jJ (fun b a c=>⟨c,a⟩) x v h;have c:=kG d.size (fun b a _=>(d.cO b a.2 a.1).2) x v a;exact jJ (fun b _ c=>(d.cO b c.2 c.1).1) x v c
theorem fu.parts{A:Nat→Prop}{W:World}{x:Nd}{a b:Option Addr}{c d:Nat}(h:fu A W x (wZ x.kind x.place x.text (.slice a x.attrs.length c) (.slice b x.kids.length d))):aP A W x.attrs (.slice a x.attrs.length c)∧fC A W x.kids (.slice b x.kids.length d):=by obtain⟨j,l,k,m,e,p,q⟩:=h.shape;have n:(Value.slice a x.attrs.length c)=.slice j x.attrs.length l:=iS (congrArg (fun v:Value=>match v with|.agg i=>i[3]? |_=>none) e);have o:(Value.slice b x.kids.length d)=.slice k x.kids.length m:=iS (congrArg (fun v:Value=>match v with|.agg i=>i[4]? |_=>none) e);rw[n,o];exact⟨p,q⟩
theorem MX.work{E:ME}{w:World}{M:List Nat}{S:PS}{out:Bs}(H:MX E w M S out):MX E (w.setCell ⟨E.mb,5,none⟩ (.int .i64 ((S.work:Int)+1))) M S.step out∧bC M w M (w.setCell ⟨E.mb,5,none⟩ (.int .i64 ((S.work:Int)+1))):=by obtain⟨av,rv,b,a,rfl⟩:=H;have h:=a.step;rw[show((S.work+1:Nat):Int)=(S.work:Int)+1 by omega] at h;exact⟨⟨av,rv,b,h.1,rfl⟩,h.2⟩
theorem GG{P:fx}{deep:Deep}{base:U}{l:List Nd}{i:Nat}{x:Nd}(j:l[i]? =some x)(vs:Bool)(S:PS)(n:Nat):
 eK P deep base (l.drop i) vs S n=if x.kind=12 then bT P deep base x vs S n else if(gd x.attrs).2.2≠0 then eK P deep base (l.drop (i+1)) vs S.step n
  else if oz (bt (gr P.h P.t P.fs) (gd x.attrs).1).1=true then dJ P deep base x.kids vs (S.step.read (cT (bt (gr P.h P.t P.fs) (gd x.attrs).1).2)) n
  else eK P deep base (l.drop (i+1)) vs (S.step.read (cT (bt (gr P.h P.t P.fs) (gd x.attrs).1).2)) n:=by
 obtain⟨d,e⟩:=cH.1 j;rw[lG d,e,eK];by_cases b:x.kind=12
 ·rw[ah b,ah b]
 ·rw[ae b,ae b];by_cases c:(gd x.attrs).2.2≠0
  ·rw[ah c,ah c]
  ·rw[ae c,ae c];obtain⟨k,p,t,a,m⟩:=x;dsimp only;rw[xx];rfl
structure CH (E:ME) (W:World) (M0:List Nat) (wx:World) (M:List Nat) (S:PS) (out:Bs) (bp:Nat) (base:U) (dp:Nat) (vs:Bool) (l:List Nd) (v:Value):Prop where
 mx:MX E wx M S out
 st:bC M0 W M wx
 hp:KX M wx bp (.cells (zv base dp vs).toArray 89)
 kd:fC (fun b=>b∉M) wx l v
section
variable{E:ME}{W wx wy:World}{M0 M M':List Nat}{S S':PS}{out out':Bs}{bp:Nat}{base:U}{dp:Nat}{vs:Bool}{l:List Nd}{v:Value}
theorem CH.stay(h:CH E W M0 wx M S out bp base dp vs l v)(b:MX E wy M' S' out')(a:bC M wx M' wy):CH E W M0 wy M' S' out' bp base dp vs l v:=⟨b,h.st.trans a,h.hp.stay a,h.kd.stay a⟩
theorem CH.next(h:CH E W M0 wx M S out bp base dp vs l v)(a:Below wx.heap.size wx wy):CH E W M0 wy M S out bp base dp vs l v:=h.stay (h.mx.next a) (bC.ai a)
theorem Uc(H:MX E W M S out)(d:fC (fun b=>b∉M) W l v)(A B:Obj)(c:B=.cells (zv base dp vs).toArray 89):CH E W M ((W.alloc A).alloc B) M S out (W.heap.size+1) base dp vs l v:=by have a:Below W.heap.size W ((W.alloc A).alloc B):=(az W A).alloc (by rw[aO];omega) B;subst c;exact⟨H.next a,bC.ai a,⟨iT W _ _,fun e=>by have:=(H.mlt _ e).2;omega⟩,d.next a⟩
theorem CH.ret(h:CH E W M0 wx M S out bp base dp vs l v){R:PS×Oc}{a:Ending}(b:dk E M wx out R a wy):dk E M0 W out R a wy:=dk.pre h.st b
end
theorem kR.shape{W:World}{v:Value}{b:List (Bs×Bs×Bool)}(h:kR W v b):∃a c,v=.slice a b.length c:=by
 rcases h with⟨rfl,rfl⟩|⟨g,c,rfl,_⟩
 ·exact⟨none,0,rfl⟩
 ·exact⟨_,c,rfl⟩
theorem DS{x:Nd}(h:sy x):x.kids.length≤1000000∧DN x.kids:=by obtain⟨k,p,t,a,l⟩:=x;rw[sy] at h;exact⟨h.2.2.2.1,h.2.2.2.2.2⟩
structure WH (w:World) (M:List Nat) (xb eb:Nat) (x:Nd) (xa xk:Option Addr) (xc xd:Nat) (k0:Int) (tx:Ex) (ek:Int) (et:Bs) (eu:bc) (ea:Option Addr) (en ec:Nat):Prop where
 hx:KX M w xb (.cells (eH k0 x.place x.text (.slice xa x.attrs.length xc) (.slice xk x.kids.length xd)).toArray 45)
 kd:fC (fun b=>b∉M) w x.kids (.slice xk x.kids.length xd)
 he:KX M w eb (.cells (dC ek et eu (.slice ea en ec)).toArray 136)
 ex:dR (fun b=>b∉M) w tx (dY ek et eu (.slice ea en ec))
theorem WH.stay{w w':World}{M M':List Nat}{o c:Nat}{x:Nd}{n r:Option Addr}{p q:Nat}{l:Int}{m:Ex}{e:Int}{j:Bs}{k:bc}{b:Option Addr}{i d:Nat}(h:WH w M o c x n r p q l m e j k b i d)(a:bC M w M' w'):WH w' M' o c x n r p q l m e j k b i d:=
 ⟨h.hx.stay a,h.kd.stay a,h.he.stay a,h.ex.stay a⟩
theorem WH.next{w w':World}{M:List Nat}{n b:Nat}{x:Nd}{m q:Option Addr}{o p:Nat}{k:Int}{l:Ex}{d:Int}{i:Bs}{j:bc}{a:Option Addr}{e c:Nat}(h:WH w M n b x m q o p k l d i j a e c)(r:Below w.heap.size w w'):WH w' M n b x m q o p k l d i j a e c:=h.stay (bC.ai r)
theorem K0{E:ME}{deep:Deep}{base:U}{dp:Nat}(HE:QQ E)(HG:Rv E.env deep)(HK:DM E.env deep base){W:World}{M:List Nat}{S:PS}{out:Bs}(ch:MX E W M S out){l:List Nd}(hN:∀x∈l,kl E deep base dp x∧∀y∈x.kids,kl E deep base dp y){k p:Int}{t:Bs}{av:Value}{ka:Option Addr}{kc an ac:Nat}{aa:Option Addr}(fk:av=.slice aa an ac)(hk:fC (fun b=>b∉M) W l (.slice ka l.length kc))(d8:DN l)(hl:l.length≤1000000)(hw:bq E.inc S (wL l))(ho:out.length≤262144)(vs:Bool):
 Calls Tryz.prog 33 #[.pointer (some ⟨E.mb,0,none⟩),wZ k p t av (.slice ka l.length kc),Tp base dp vs] W (dk E M W out (eK E.env deep base l vs S out.length)):=by
 subst fk;have HT:=ad (Uc (base:=base) (dp:=dp) (vs:=vs) ch hk (.cells (eH k p t (.slice aa an ac) (.slice ka l.length kc)).toArray 45) _ rfl);obtain⟨R,hR⟩:∃R,eK E.env deep base l vs S out.length=R:=⟨_,rfl⟩;rw[hR];have dq:Hid (eK E.env deep base (l.drop 0) vs S out.length=R):=ad hR;have d2:Hid (bq E.inc S (wL (l.drop 0))):=ad hw;have D:=ad HE;have fv:=ad HG;have ek:=ad HK;have el:=ad hN;have em:=ad d8;have dl:=ad ho;obtain⟨N,b1⟩:∃N,l.length=N:=⟨_,rfl⟩;have c8:=ad b1;rw[b1] at HT hl⊢;clear ch hk hN d8 hw ho hR HE HG HK b1;have n0:(0:Int)≤(N:Int):=by omega
 go_enter Tryz.func33,Tryz.ntmps33;go_upto_region 1 with fail;have G:((W.alloc (.cells #[.int .i64 k,.int .i64 p,.string ⟨t.toArray⟩,.slice aa an ac,.slice ka N kc] 45)).alloc (.cells (zv base dp vs).toArray 89)).cell? ⟨W.heap.size,4,none⟩=some (.slice ka N kc):=aj 4 (jX W _ _);generalize(W.alloc (.cells #[.int .i64 k,.int .i64 p,.string ⟨t.toArray⟩,.slice aa an ac,.slice ka N kc] 45)).alloc (.cells (zv base dp vs).toArray 89)=W1 at*;generalize W.heap.size=bn at*;go_upto_region 2 with fail;clear G
 go_loopw [17] (fun iv wr=>∃(i:Nat) (M':List Nat) (S':PS),i≤N∧iv=.int .i64 i∧Hid (CH E W M wr M' S' out (bn+1) base dp vs l (.slice ka N kc))∧Hid (eK E.env deep base (l.drop i) vs S' out.length=R)∧Hid (bq E.inc S' (wL (l.drop i)))) (fun iv _=>N-(intOf iv).toNat)
 case atStart=>exact⟨0,M,S,aH _,rfl,HT,dq,d2⟩
 case round=>
  obtain⟨i,M',S',hi,rfl,HM,br,d0⟩:=hrel;clear HT dq d2;by_cases fp:i<N
  ·have i1:(i:Int)<(N:Int):=by omega
   have i0:(0:Int)≤(i:Int):=by omega
   obtain⟨x,hx⟩:∃x,l[i]? =some x:=⟨_,cA (by rw[c8.out];exact fp)⟩;have aU:=ad (br.out.symm.trans (GG (P:=E.env) (deep:=deep) (base:=base) hx vs S' out.length));have ap:=ad (show bq E.inc S' (wN x+wL (l.drop (i+1))) by rw[←Js hx];exact d0.out);have c9:=ad (el.out x (eQ hx));have bo:=ad (em.out.get (eQ hx));obtain⟨kb,ko,J,K,O,L,rfl,fl,bl,af⟩:=HM.out.kd.get hx;have b7:=bl.parts;obtain⟨C,d7⟩:∃C,x.kind=C:=⟨_,rfl⟩;rw[d7] at bl af aU;have x0:=af 0 _ rfl;have x1:=af 1 _ rfl;have x2:=af 2 _ rfl;have x3:=af 3 _ rfl;have G:=af 4 _ rfl;rw[qF] at x0;have hA5:=az wr (.cells (eH C x.place x.text (.slice J x.attrs.length K) (.slice O x.kids.length L)).toArray 45);have Z:Hid (KX M' (wr.alloc (.cells #[.int .i64 C,.int .i64 x.place,.string ⟨x.text.toArray⟩,.slice J x.attrs.length K,.slice O x.kids.length L] 45)) wr.heap.size (.cells (eH C x.place x.text (.slice J x.attrs.length K) (.slice O x.kids.length L)).toArray 45)):=ad (rk HM.out.mx (.cells (eH C x.place x.text (.slice J x.attrs.length K) (.slice O x.kids.length L)).toArray 45));have m:=ad (HM.out.next hA5);have c6:=ad (bl.next hA5);have bp:=ad (And.intro (b7.1.next hA5) (b7.2.next hA5));clear hx bl af hA5 fl HM br d0 d7 b7;go_upto_region 4 with fail;generalize wr.alloc (.cells #[.int .i64 C,.int .i64 x.place,.string ⟨x.text.toArray⟩,.slice J x.attrs.length K,.slice O x.kids.length L] 45)=W5 at*;generalize wr.heap.size=xb at*;clear x0 x1 x2 x3 G;have x0:=aj 0 Z.out.1;have x1:=aj 1 Z.out.1;have x2:=aj 2 Z.out.1;have x3:=aj 3 Z.out.1;have G:=aj 4 Z.out.1;by_cases bk:C=12
   ·subst bk;have V:=ad (aU.out.trans (ah rfl));have HC:=ad (c9.out.1 W5 M' S' out vs _ m.out.mx c6.out (ap.out.less (sd _ _)) dl.out);obtain⟨q,hq⟩:∃q,bT E.env deep base x vs S' out.length=q:=⟨_,rfl⟩;rw[hq] at HC V;obtain⟨S1,oc⟩:=q;have p0:=aj 0 m.out.hp.1;have p1:=aj 1 m.out.hp.1;have p2:=aj 2 m.out.hp.1;have p3:=aj 3 m.out.hp.1;have p4:=aj 4 m.out.hp.1;have p5:=aj 5 m.out.hp.1;have p6:=aj 6 m.out.hp.1;have p7:=aj 7 m.out.hp.1;clear hq aU;go_wp2_with fail;refine HC.out.mono ?_;intro d w6 al;clear x0 x1 x2 x3 G p0 p1 p2 p3 p4 p5 p6 p7 HC;cases oc with
    |yes t5=>obtain⟨rfl,c⟩:=al;have o:=ad (show dk E M W out R (.returned (.bool true)) w6 by rw[V.out];exact m.out.ret ⟨rfl,c⟩);clear c;go_wp2_with fail;go_ret;exact o.out
    |no=>obtain⟨rfl,c⟩:=al;have o:=ad (show dk E M W out R (.returned (.bool false)) w6 by rw[V.out];exact m.out.ret ⟨rfl,c⟩);clear c;go_wp2_with fail;go_ret;exact o.out
    |wait=>obtain⟨rfl,c⟩:=al;have o:=ad (show dk E M W out R (.panicked [gA]) w6 by rw[V.out];exact m.out.ret ⟨rfl,c⟩);clear c;go_wp2_with fail;exact⟨rfl,o.out⟩
   ·have V:=ad (aU.out.trans (ae bk));have q1:(C==12)=false:=eS bk;have b5:W5.cell? ⟨E.mb,5,none⟩=some (.int .i64 (S'.work:Int)):=by obtain⟨av,rv,ov,j,_⟩:=m.out.mx;exact aj 5 j.box
    have f5:W5.frozen? ⟨E.mb,5,none⟩=false:=by obtain⟨av,rv,ov,j,_⟩:=m.out.mx;exact aA j.box
    have i3:(S'.work:Int)≤90000000:=by have:=ap.out.work;omega
    have i4:(0:Int)≤(S'.work:Int):=by omega
    have Y:=ad m.out.mx.work;have c5:=ad (m.out.stay Y.out.1 Y.out.2);have ab:=ad (Z.out.stay Y.out.2);have cn:=ad (bp.out.1.cO Y.out.2.size fun b h1 c=>Y.out.2.cO b c h1);have cx:=ad (bp.out.2.stay Y.out.2);have d9:((bG x.attrs gT).getD []).length≤65536:=by
     cases ha:bG x.attrs gT with
     |none=>exact aH _
     |some v=>refine tW ha ?_;have:=bo.out;obtain⟨k1,p1,t1,a1,l1⟩:=x;rw[sy] at this;exact this.2.2.1
    have a3:=ad d9;have c3:=ad (show x.attrs.length≤1000000 by have:=bo.out;obtain⟨k1,p1,t1,a1,l1⟩:=x;rw[sy] at this;exact this.2.1)
    clear bk d9 aU Y;go_upto_region 7 with fail;generalize W5.setCell ⟨E.mb,5,none⟩ (.int .i64 ((S'.work:Int)+1))=W6 at*;clear x0 x1 x2 x3 G b5 f5 m Z c6 bp q1 i3 i4;have x0:=aj 0 ab.out.1;have x1:=aj 1 ab.out.1;have x2:=aj 2 ab.out.1;have x3:=aj 3 ab.out.1;have G:=aj 4 ab.out.1;have be:=ad (pU (A:=fun b=>b∉M') C x.place x.text gT (aa:=J) (ka:=O) (ac:=K) (kn:=x.kids.length) (kc:=L) (l:=x.attrs) W6 cn.out c3.out);have aN:=ad (show R=if(ew ((bG x.attrs gT).getD [])).2.2≠0 then eK E.env deep base (l.drop (i+1)) vs S'.step out.length
     else if oz (bt (gr E.h E.t E.fs) (ew ((bG x.attrs gT).getD [])).1).1=true then dJ E.env deep base x.kids vs (S'.step.read (cT (bt (gr E.h E.t E.fs) (ew ((bG x.attrs gT).getD [])).1).2)) out.length
     else eK E.env deep base (l.drop (i+1)) vs (S'.step.read (cT (bt (gr E.h E.t E.fs) (ew ((bG x.attrs gT).getD [])).1).2)) out.length from V.out)
    have d1:=ad (fun h:(ew ((bG x.attrs gT).getD [])).2.2=0=>As E.env x.attrs h);have a2:Hid ((ew ((bG x.attrs gT).getD [])).2.2=0→(cT (bt (gr E.h E.t E.fs) (ew ((bG x.attrs gT).getD [])).1).2).length≤bV x.attrs):=ad d1.out;have bd:=ad (fun h:(ew ((bG x.attrs gT).getD [])).2.2=0=>(At h).2);obtain⟨s,hs⟩:∃s,(bG x.attrs gT).getD []=s:=⟨_,rfl⟩;rw[hs] at be aN a3 a2 bd;have ec:∃b,(bG x.attrs gT).isSome=b:=⟨_,rfl⟩;obtain⟨fZ,d6⟩:=ec;rw[d6] at be;have a9:=ad (K1 s (by have:=a3.out;omega));have et:=ad (show s.length≤65536 from a3.out);clear hs d6 d1 V;go_wp2_with fail;refine be.out.mono ?_;rintro d w7⟨rfl,bg⟩;have a7:=ad (c5.out.next bg);have d3:=ad (ab.out.next bg);have c0:=ad (cx.out.next bg);have bs:=ad (GH w7 s (by have:=a3.out;omega) (D.out.gl.gx.aq.next a7.out.mx.up));obtain⟨Q,hQ⟩:∃Q,ew s=Q:=⟨_,rfl⟩;rw[hQ] at bs aN a2 bd a9;obtain⟨F,pl,e⟩:=Q;clear bg x0 x1 x2 x3 G hQ be c5 ab cx cn a3 c3;go_wp2_with fail;refine bs.out.mono ?_;rintro d w8⟨v,rfl,bi,hex⟩;obtain⟨z,B,a,r,d,w,rfl⟩:=hex.out.F4;have hA9:=az w8 (.cells (dC z B a (.slice r d w)).toArray 136);have bm:=ad (a7.out.next bi);have d4:=ad ((d3.out.next bi).next hA9);have c1:=ad ((c0.out.next bi).next hA9);have co:Hid (KX M' (w8.alloc (.cells #[.int .i64 z,.string ⟨B.toArray⟩,.int .i64 a.src,.int .i64 a.bJ,.string ⟨a.name.toArray⟩,.string ⟨a.key.toArray⟩,.string ⟨a.cK.toArray⟩,.bool a.hk,.bool a.hd,.slice r d w] 136)) w8.heap.size (.cells (dC z B a (.slice r d w)).toArray 136)):=ad (rk bm.out.mx (.cells (dC z B a (.slice r d w)).toArray 136));have am:=ad (bm.out.next hA9);have cs:Hid (dR (fun b=>b∉M') (w8.alloc (.cells #[.int .i64 z,.string ⟨B.toArray⟩,.int .i64 a.src,.int .i64 a.bJ,.string ⟨a.name.toArray⟩,.string ⟨a.key.toArray⟩,.string ⟨a.cK.toArray⟩,.bool a.hk,.bool a.hd,.slice r d w] 136)) F (dY z B a (.slice r d w))):=ad ((jJ (fun b h1 c j=>by have:=(a7.out.mx.mlt b j).2;have c:w7.heap.size≤b:=c;omega) F _ hex.out).next hA9);clear bi hex hA9 a7 d3 c0 bm bs;go_upto_region 9 with fail;generalize w8.alloc (.cells #[.int .i64 z,.string ⟨B.toArray⟩,.int .i64 a.src,.int .i64 a.bJ,.string ⟨a.name.toArray⟩,.string ⟨a.key.toArray⟩,.string ⟨a.cK.toArray⟩,.bool a.hk,.bool a.hd,.slice r d w] 136)=W9 at*;generalize w8.heap.size=eb at*;by_cases he:e=0
    ·subst he;have ao:=ad (aN.out.trans (ae (fun h=>h rfl)));have a6:=ad (show∀u∈cT (bt (gr E.h E.t E.fs) F).2,u.2.1.length≤1000000 from fun u hu=>by obtain⟨v,hv,rfl⟩:=qE.1 hu;have:=KY _ F a9.out v hv;show v.key.length≤_;omega)
     have c7:=ad (show cC F≤1000000000 by have:=Jw F;have:=bd.out rfl;have h:=a2;have:=et.out;omega);have a0:=ad (a2.out rfl);have b0:=ad (WH.mk d4.out c1.out co.out cs.out);obtain⟨A,hA⟩:∃A,bt (gr E.h E.t E.fs) F=A:=⟨_,rfl⟩;have ci:=ad hA;rw[hA] at ao a6 a0;obtain⟨us,cc⟩:∃us,cT A.2=us:=⟨_,rfl⟩;obtain⟨bb,b6⟩:∃bb,oz A.1=bb:=⟨_,rfl⟩;have eu:=ad cc;have ea:=ad b6;rw[cc] at ao a6 a0;rw[b6] at ao;have bv:=ad (show bq E.inc (S'.step.read us) (wL x.kids+wL (l.drop (i+1))) from bq.read (bq.step (ap.out.less (by have:=Jy x;have:=a0.out;omega))));have ds:=ad (show S'.step.reads.length+us.length≤100000000 by have:=ap.out.reads;have:=Jy x;have:=a0.out;show S'.reads.length+us.length≤_;omega);obtain⟨I,b2⟩:∃I,S'.step.read us=I:=⟨_,rfl⟩;have er:=ad b2;rw[b2] at ao bv;clear hA cc b6 b2 aN a2 bd d4 c1 co cs ap a0;go_upto_region 10 with fail;have ai:=ax W9 1;have ay:=ad (am.out.next ai);have X:=ad (b0.out.next ai);have ck:Hid (Calls Tryz.prog 66 #[dY z B a (.slice r d w),.agg #[.string ⟨E.h.toArray⟩,.string ⟨E.t.toArray⟩,.slice E.fa E.fn E.fc]] (W9.drewN 1) (DT (W9.drewN 1) us)):=ad (by have h:=K2 F (dY z B a (.slice r d w)) ⟨E.h.toArray⟩ ⟨E.t.toArray⟩ E.fa E.fn E.fc E.fs (W9.drewN 1) (D.out.gl.gx.aq.next ay.out.mx.up) X.out.ex.any (D.out.Vr.below ay.out.mx.up) D.out.Vs (by show E.h.toArray.size≤_;rw[oC];exact D.out.h1) (by show E.t.toArray.size≤_;rw[oC];exact D.out.t1) a9.out c7.out;rw[←eu.out,←ci.out];exact h)
     obtain⟨e0,e1,e2,e3,e4,e5,e6,e7,e8,e9⟩:=aM b0.out.he.1;have b8:W9.cell? ⟨E.mb,8,none⟩=some (.string ⟨E.h.toArray⟩):=by obtain⟨av,rv,ov,j,_⟩:=am.out.mx;exact aj 8 j.box
     have b9:W9.cell? ⟨E.mb,9,none⟩=some (.string ⟨E.t.toArray⟩):=by obtain⟨av,rv,ov,j,_⟩:=am.out.mx;exact aj 9 j.box
     have a5:W9.cell? ⟨E.mb,10,none⟩=some (.slice E.fa E.fn E.fc):=by obtain⟨av,rv,ov,j,_⟩:=am.out.mx;exact aj 10 j.box
     clear ai am b0
     go_cut [] (fun wx=>∃M2,Hid (CH E W M wx M2 I out (bn+1) base dp vs l (.slice (some ⟨kb,ko,none⟩) N kc))∧Hid (WH wx M2 xb eb x J O K L C F z B a r d w))
     case first=>
      go_region_with (first
       |(go_at_call 66;refine ck.out.mono ?_;rintro d f0⟨va,rfl,cb,b3,d5⟩;obtain⟨ua,uc,rfl⟩:=cb.shape;have c4:=ad (ay.out.next b3);have ev:=ad (X.out.next b3);have en:=ad (Jr c4.out.mx cb (fun g hg j=>by have:=d5 g hg;have:=(ay.out.mx.mlt g j).2;omega) a6.out ds.out);clear cb b3 d5)
       |(go_at_call 65;refine en.out.mono ?_;rintro d f1⟨rfl,fi,cd,ca⟩;rw[er.out] at cd;have T:=ad (c4.out.stay cd ca);have a4:=ad (ev.out.stay ca);clear cd ca))
      all_goals
       clear e0 e1 e2 e3 e4 e5 e6 e7 e8 e9 b8 b9 a5;go_wp2_with fail
       go_meet
       exact⟨fi,T,a4⟩
     case rest=>
      obtain⟨M2,T,a4⟩:=hcut;clear ck ay X e0 e1 e2 e3 e4 e5 e6 e7 e8 e9 b8 b9 a5 a6 ds;have ai:=ax wc 1;have a8:=ad (T.out.next ai);have X:=ad (a4.out.next ai);have ct:Hid (Calls Tryz.prog 67 #[dY z B a (.slice r d w),.agg #[.string ⟨E.h.toArray⟩,.string ⟨E.t.toArray⟩,.slice E.fa E.fn E.fc]] (wc.drewN 1) (cN (wc.drewN 1) (.bool bb))):=ad (by have h:=Ud F (dY z B a (.slice r d w)) ⟨E.h.toArray⟩ ⟨E.t.toArray⟩ E.fa E.fn E.fc E.fs (wc.drewN 1) (D.out.gl.gx.aq.next a8.out.mx.up) X.out.ex.any (D.out.Vr.below a8.out.mx.up) D.out.Vs (by show E.h.toArray.size≤_;rw[oC];exact D.out.h1) (by show E.t.toArray.size≤_;rw[oC];exact D.out.t1) a9.out c7.out;rw[←ea.out,←ci.out];exact h)
      obtain⟨e0,e1,e2,e3,e4,e5,e6,e7,e8,e9⟩:=aM a4.out.he.1;have b8:wc.cell? ⟨E.mb,8,none⟩=some (.string ⟨E.h.toArray⟩):=by obtain⟨av,rv,ov,j,_⟩:=T.out.mx;exact aj 8 j.box
      have b9:wc.cell? ⟨E.mb,9,none⟩=some (.string ⟨E.t.toArray⟩):=by obtain⟨av,rv,ov,j,_⟩:=T.out.mx;exact aj 9 j.box
      have a5:wc.cell? ⟨E.mb,10,none⟩=some (.slice E.fa E.fn E.fc):=by obtain⟨av,rv,ov,j,_⟩:=T.out.mx;exact aj 10 j.box
      clear ai T a4;go_upto_region 11 with fail;obtain⟨w9,fr⟩:∃w9,w9=wc:=⟨_,rfl⟩;subst fr
      go_cut [63] (fun ft wx=>ft=.bool bb∧Hid (CH E W M wx M2 I out (bn+1) base dp vs l (.slice (some ⟨kb,ko,none⟩) N kc))∧Hid (WH wx M2 xb eb x J O K L C F z B a r d w))
      case first=>
       go_region_with (go_at_call 67;refine ct.out.mono ?_;rintro d f2⟨rfl,b4⟩;have n:=ad (a8.out.next b4);have bf:=ad (X.out.next b4);clear b4)
       all_goals
        clear e0 e1 e2 e3 e4 e5 e6 e7 e8 e9 b8 b9 a5;go_wp2_with fail
        go_meet
        exact⟨rfl,n,bf⟩
      case rest=>
       obtain⟨rfl,n,bf⟩:=hcut;clear ct a8 X e0 e1 e2 e3 e4 e5 e6 e7 e8 e9 b8 b9 a5;cases bb
       ·have H:Hid (eK E.env deep base (l.drop (i+1)) vs I out.length=R):=ad ao.out.symm;have bx:=ad (bv.out.less (w':=wL (l.drop (i+1))) (Nat.le_add_left _ _));go_wp2_with fail
        go_roundw
        case rel=>exact⟨i+1,M2,I,by omega,by go_num,n,H,bx⟩
        case measure=>(simp[intOf]<;>omega)
       ·have H:Hid (R=dJ E.env deep base x.kids vs I out.length):=ad ao.out;have c2:=ad (DS bo.out);have cl:=ad (GC ek.out n.out.mx c9.out.2 bf.out.kd c2.out.2 c2.out.1 (bv.out.less (sd _ _)) dl.out vs);obtain⟨q,hq⟩:∃q,dJ E.env deep base x.kids vs I out.length=q:=⟨_,rfl⟩;rw[hq] at cl H;obtain⟨S5,oc⟩:=q;have G:=aj 4 bf.out.hx.1;have p0:=aj 0 n.out.hp.1;have p1:=aj 1 n.out.hp.1;have p2:=aj 2 n.out.hp.1;have p3:=aj 3 n.out.hp.1;have p4:=aj 4 n.out.hp.1;have p5:=aj 5 n.out.hp.1;have p6:=aj 6 n.out.hp.1;have p7:=aj 7 n.out.hp.1;clear hq;go_wp2_with fail;refine cl.out.mono ?_;intro d ce al;clear G p0 p1 p2 p3 p4 p5 p6 p7;cases oc with
        |yes t5=>obtain⟨rfl,c⟩:=al;have o:=ad (show dk E M W out R (.returned (.bool true)) ce by rw[H.out];exact n.out.ret ⟨rfl,c⟩);clear c;go_wp2_with fail;go_ret;exact o.out
        |no=>obtain⟨rfl,c⟩:=al;have o:=ad (show dk E M W out R (.returned (.bool false)) ce by rw[H.out];exact n.out.ret ⟨rfl,c⟩);clear c;go_wp2_with fail;go_ret;exact o.out
        |wait=>obtain⟨rfl,c⟩:=al;have o:=ad (show dk E M W out R (.panicked [gA]) ce by rw[H.out];exact n.out.ret ⟨rfl,c⟩);clear c;go_wp2_with fail;exact⟨rfl,o.out⟩
    ·have q2:=eS he;have H:Hid (eK E.env deep base (l.drop (i+1)) vs S'.step out.length=R):=ad (aN.out.trans (ah he)).symm;have bx:Hid (bq E.inc S'.step (wL (l.drop (i+1)))):=ad (bq.step (ap.out.less (by have:=Jy x;omega)));clear he;go_wp2_with fail
     go_roundw
     case rel=>exact⟨i+1,M',S'.step,by omega,by go_num,am,H,bx⟩
     case measure=>(simp[intOf]<;>omega)
  ·obtain rfl:i=N:=by omega
   have o:=ad (show dk E M W out R (.returned (.bool true)) wr by rw[←br.out,qA (by rw[c8.out];exact ag _),eK];exact⟨rfl,M',by rw[jm];exact HM.out.mx,HM.out.st⟩)
   go_wp2_with fail;go_ret;exact o.out
