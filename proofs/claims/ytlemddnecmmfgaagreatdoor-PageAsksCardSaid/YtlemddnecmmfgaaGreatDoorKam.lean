/- The walks of esitree's rules and keep. -/
import Derived.Test.YtlemddnecmmfgaaGreatDoorKal
set_option linter.unusedVariables false
set_option maxRecDepth 100000
set_option maxHeartbeats 4000000
namespace Go.Proofs.YtlemddnecmmfgaaGreatDoor
open Go.RowKit
def vM{a:Type}(q:a→Bool)(l:List a):Int:=match l.findIdx? q with|some k=>(k:Int)|none=>-1
theorem zU{b:Type}{q:b→Bool}{l:List b}(h:∀k:Nat,∀a,l[k]? =some a→q a=false):vM q l=-1:=by unfold vM;rw[zL.2];intro a c;obtain⟨k,d⟩:=zP.1 c;exact h k a d
theorem zV{b:Type}{q:b→Bool}{l:List b}{k:Nat}{a:b}(h:∀j:Nat,j<k→∀a,l[j]? =some a→q a=false)(c:l[k]? =some a)(hq:q a=true):vM q l=(k:Int):=by unfold vM;have e:=(cH.1 c).1;rw[zM.2 ⟨e,by rw[(cH.1 c).2];exact hq,fun j d=> ?_⟩];have:=h j d _ (cA (by omega));simpa using this
theorem C7{b:Type}(q:b→Bool)(l:List b):decide (0≤vM q l)=l.any q:=by
 unfold vM;cases h:l.findIdx? q with
 |none=>rw[zL] at h;rw[List.any_eq_false.2 fun a c=>by rw[h a c];decide];rfl
 |some k=>obtain⟨d,hq,_⟩:=zM.1 h;rw[lF.2 ⟨_,wI d,hq⟩];exact bN (Int.natCast_nonneg k)
theorem cg.Vg{W:aaK}{a:Option Addr}{n c i:Nat}{ls:List Bs}{x:Bs}(h:cg W (.slice a n c) ls)(j:ls[i]? =some x):∃b o,a=some ⟨b,o,none⟩∧W.cell? ⟨b,o+i,none⟩=some (.string ⟨x.toArray⟩):=by
 rcases h with⟨p,k,d,e⟩|⟨b,o,k,d,e,s,m⟩
 ·subst e;cases j
 ·injection d with l q r;exact⟨b,o,l,m i x j⟩
theorem MY(l:List Bs)(v:Bs)(M:l.length≤1000)(G:Option Addr)(c:Nat)(w:aaK)(F:cg w (.slice G l.length c) l):
 Calls Tryz.prog 189 #[.slice G l.length c,.string ⟨v.toArray⟩] w (fun e w'=>e=.returned (.int .i64 (vM (v==·) l))∧w'=w):=by
 have C:=ad F;obtain⟨V,d⟩:∃V,vM (v==·) l=V:=⟨_,rfl⟩;rw[d];have H:=ad (fun h=>d.symm.t (zU (q:=(v==·)) (l:=l) h));have J:=ad (fun k a h m hq=>d.symm.t (zV (q:=(v==·)) (l:=l) (k:=k) (a:=a) h m hq));obtain⟨n,z⟩:∃n,l.length=n:=⟨_,rfl⟩;have D:=ad z;rw[z] at M C⊢;clear F d z;go_enter Tryz.func189,Tryz.ntmps189;go_upto_region 2 with fail
 go_loopw [8] (fun A wr=>∃i:Nat,i≤n∧A=.int .i64 i∧Hid (∀j:Nat,j<i→∀a,l[j]? =some a→(v==a)=false)∧wr=w) (fun A _=>n-(intOf A).toNat)
 case atStart=>exact⟨0,aH _,rfl,ad (fun j K=>by omega),rfl⟩
 case round=>
  obtain⟨i,R,rfl,s,rfl⟩:=hrel;by_cases N:i<n
  ·have T:(i:Int)<(n:Int):=by omega
   have S:(0:Int)≤(i:Int):=by omega
   obtain⟨a,x⟩:∃a,l[i]? =some a:=⟨_,cA (by rw[D.o];exact N)⟩;have B:=ad x;obtain⟨b,o,rfl,Q⟩:=C.o.Vg x;obtain⟨r,O⟩:∃r,(v==a)=r:=⟨_,rfl⟩;have E:=ad O;clear x;rcases r with _|_
   ·have I:=ad (fun(j:Nat) (K:j<i+1) (u:Bs) (y:l[j]? =some u)=>show(v==u)=false by
     by_cases L:j<i
     ·exact s.o j L u y
     ·obtain rfl:j=i:=by omega
      rw[B.o] at y;cases y;exact E.o)
    go_wp2_with fail
    go_roundw
    case rel=>exact⟨i+1,by omega,by go_num,I,by trivial⟩
    case measure=>(simp[intOf]<;>omega)
   ·have p:=ad (J.o i a s.o B.o E.o);go_wp2_with fail;go_ret;exact⟨by rw[p.o];rfl,rfl⟩
  ·obtain rfl:i=n:=by omega
   have p:=ad (H.o fun k a m=>s.o k (by rw[←D.o];exact(cH.1 m).1) a m);go_wp2_with fail;go_ret;exact⟨by rw[p.o];rfl,rfl⟩
theorem Zz(l:List Bs)(v:Bs)(i:l.length≤1000)(a:Option Addr)(c:Nat)(w:aaK)(b:cg w (.slice a l.length c) l):
 Calls Tryz.prog 158 #[.slice a l.length c,.string ⟨v.toArray⟩] w (fun e w'=>e=.returned (.bool (l.any (v==·)))∧w'=w):=by
 have h:=ad (MY l v i a c w b);have d:=ad (C7 (v==·) l);generalize vM (v==·) l=V at*;generalize l.any (v==·)=R at*;generalize l.length=n at*;clear b;go_enter Tryz.func158,Tryz.ntmps158;go_wp2_with fail;refine h.o.m ?_;rintro e j⟨rfl,rfl⟩;go_wp2_with fail;go_ret;exact⟨cq d.o,rfl⟩
theorem M5(l:List Bs)(v:Bs)(h:l.length≤1000)(a:Option Addr)(c:Nat)(w:aaK)(b:cg w (.slice a l.length c) l):
 Calls Tryz.prog 125 #[.slice a l.length c,.string ⟨v.toArray⟩] w (fun e w'=>e=.returned (.bool (l.any (v==·)))∧w'=w):=by
 have d:=ad (Zz l v h a c w b);generalize l.any (v==·)=R at*;generalize l.length=n at*;clear b;go_enter Tryz.func125,Tryz.ntmps125;go_wp2_with fail;refine d.o.m ?_;rintro e i⟨rfl,rfl⟩;go_wp2_with fail;go_ret;exact⟨rfl,rfl⟩
theorem wX(f:FuncId)(ca:Array aaL)(q:Bs→Bool)(l:List Bs)(Y:l.length≤1000000)(M:Option Addr)(c:Nat)(w:aaK)(he:∀(vs:Array aaL) (w:aaK),(callFunc f vs).run Tryz.prog w=.ok (.enter f vs) w)
 (L:∀a∈l,∀W,Below w.heap.size w W→Calls Tryz.prog f (#[.string ⟨a.toArray⟩]++ca) W (cN W (.bool (q a))))(d:cg w (.slice M l.length c) l):
 Calls Tryz.prog 190 #[.slice M l.length c,.func (.func f) #[] ca] w (cN w (.int .i64 (vM q l))):=by
 have N:=ad L;have H:=ad d;obtain⟨V,s⟩:∃V,vM q l=V:=⟨_,rfl⟩;rw[s];have O:=ad (fun h=>s.symm.t (zU (q:=q) (l:=l) h));have R:=ad (fun k a h d hq=>s.symm.t (zV (q:=q) (l:=l) (k:=k) (a:=a) h d hq));obtain⟨n,B⟩:∃n,l.length=n:=⟨_,rfl⟩;have I:=ad B;rw[B] at H Y⊢;clear L d s B;go_enter Tryz.func190,Tryz.ntmps190;go_upto_region 2 with fail
 go_loopw [8] (fun D wr=>∃i:Nat,i≤n∧D=.int .i64 i∧Hid (∀j:Nat,j<i→∀a,l[j]? =some a→q a=false)∧Hid (Below w.heap.size w wr)) (fun D _=>n-(intOf D).toNat)
 case atStart=>exact⟨0,aH _,rfl,ad (fun j T=>by omega),ad (ar _ _)⟩
 case round=>
  obtain⟨i,hi,rfl,y,p⟩:=hrel;by_cases Z:i<n
  ·have i1:(i:Int)<(n:Int):=by omega
   have i0:(0:Int)≤(i:Int):=by omega
   obtain⟨a,u⟩:∃a,l[i]? =some a:=⟨_,cA (by rw[I.o];exact Z)⟩;have E:=ad u;obtain⟨b,o,rfl,S⟩:=(H.o.below p.o).Vg u;have G:=ad (N.o a (eQ u) wr p.o);obtain⟨r,C⟩:∃r,q a=r:=⟨_,rfl⟩;rw[C] at G;have J:=ad C;clear u C;go_wp2_with fail;refine G.o.m ?_;rintro e w3⟨rfl,K⟩;have F:=ad (p.o.t (K.m p.o.size));clear K S;rcases r with _|_
   ·have Q:=ad (fun(j:Nat) (T:j<i+1) (z:Bs) (A:l[j]? =some z)=>show q z=false by
     by_cases X:j<i
     ·exact y.o j X z A
     ·obtain rfl:j=i:=by omega
      rw[E.o] at A;cases A;exact J.o)
    go_wp2_with fail
    go_roundw
    case rel=>exact⟨i+1,by omega,by go_num,Q,F⟩
    case measure=>(simp[intOf]<;>omega)
   ·have x:=ad (R.o i a y.o E.o J.o);go_wp2_with fail;go_ret;exact⟨by rw[x.o];rfl,F.o⟩
  ·obtain rfl:i=n:=by omega
   have x:=ad (O.o fun k a d=>y.o k (by rw[←I.o];exact(cH.1 d).1) a d);go_wp2_with fail;go_ret;exact⟨by rw[x.o];rfl,p.o⟩
theorem sh(f:FuncId)(ca:Array aaL)(q:Bs→Bool)(l:List Bs)(r:l.length≤1000000)(b:Option Addr)(c:Nat)(w:aaK)(h:∀(vs:Array aaL) (w:aaK),(callFunc f vs).run Tryz.prog w=.ok (.enter f vs) w)
 (d:∀a∈l,∀W,Below w.heap.size w W→Calls Tryz.prog f (#[.string ⟨a.toArray⟩]++ca) W (cN W (.bool (q a))))(i:cg w (.slice b l.length c) l):
 Calls Tryz.prog 159 #[.slice b l.length c,.func (.func f) #[] ca] w (cN w (.bool (l.any q))):=by
 have k:=ad (wX f ca q l r b c w h d i);have j:=ad (C7 q l);generalize vM q l=V at*;generalize l.any q=R at*;generalize l.length=n at*;clear d i h;go_enter Tryz.func159,Tryz.ntmps159;go_wp2_with fail;refine k.o.m ?_;rintro e s⟨rfl,p⟩;go_wp2_with fail;go_ret;exact⟨cq j.o,p⟩
theorem mI(s sub:Bs)(w:aaK)(c:Good w)(d:s.length≤1000000):Calls Tryz.prog 67 #[.string ⟨s.toArray⟩,.string ⟨sub.toArray⟩] w fun e w'=>e=.returned (.bool (Lib.contains s sub))∧w'=w:=by refine(nn ⟨s.toArray⟩ ⟨sub.toArray⟩ w c (by show s.toArray.size<_;simp;omega)).m ?_;rintro e w'⟨a,b⟩;exact⟨a,b.symm⟩
theorem BE(t b:Bs)(i:t.length≤1000000)(l:b.length≤100)(d:Nat)(w:aaK)(h:Good w)(n:w.cell? ⟨d,0,none⟩=some (.string ⟨t.toArray⟩)):
 Calls Tryz.prog 160 #[.string ⟨b.toArray⟩,.pointer (some ⟨d,0,none⟩)] w (cN w (.bool (Lib.contains t (jv++b)))):=by
 have a:=ad (mI t (jv++b) w h i);have k:(⟨#[60,33,45,45,101,115,105]⟩:aaM)++⟨b.toArray⟩=⟨(jv++b).toArray⟩:=Je jv b;have p:¬9223372036854775807<7+b.length:=by omega
 generalize jv++b=e at*;obtain⟨r,c⟩:∃r,Lib.contains t e=r:=⟨_,rfl⟩;rw[c] at a⊢;clear c;go_enter Tryz.func160,Tryz.ntmps160;go_wp2_with fail;refine a.o.m ?_;rintro j q⟨rfl,rfl⟩;go_wp2_with fail;go_ret;exact⟨rfl,ar _ _⟩
def pT:List Bs:=[[32],[9],[10],[13]]
theorem Kt(t:Bs):si t=((Lib.contains t eY||Lib.contains t bD)||pT.any fun b=>Lib.contains t (jv++b)):=rfl
theorem C8(t:Bs)(l:t.length≤1000000)(w:aaK)(D:Good w):Calls Tryz.prog 127 #[.string ⟨t.toArray⟩] w (cN w (.bool (si t))):=by
 have s:Below w.heap.size w (w.alloc (.cells #[.string ⟨t.toArray⟩] 9)):=(ar _ _).alloc (ag _) _;have n:=ad s;have r:=ad (D.next s);have z:=ad (au w (.cells #[.string ⟨t.toArray⟩] 9));have j:=ad (mI t eY _ r.o l);have p:=ad (mI t bD _ r.o l);have I:=ad l;have A:=ad (aO w (.cells #[.string ⟨t.toArray⟩] 9));rw[Kt];obtain⟨a,C⟩:∃a,Lib.contains t eY=a:=⟨_,rfl⟩;obtain⟨b,h⟩:∃b,Lib.contains t bD=b:=⟨_,rfl⟩;obtain⟨c,u⟩:∃c,(pT.any fun b=>Lib.contains t (jv++b))=c:=⟨_,rfl⟩;rw[C] at j⊢;rw[h] at p⊢;have G:=ad u;rw[u];clear s D l C h u;go_enter Tryz.func127,Tryz.ntmps127;go_upto_region 1 with fail;generalize w.alloc (.cells #[.string ⟨t.toArray⟩] 9)=d at*;have L:d.cell? ⟨w.heap.size,0,none⟩=_:=tH _ _ 0 _ _ _ z.o;generalize E:w.heap.size=sb at*;have k:=ad E;clear E;cases a
 ·cases b
  ·have hA2:Below d.heap.size d (d.alloc (.cells #[.string ⟨#[32]⟩,.string ⟨#[9]⟩,.string ⟨#[10]⟩,.string ⟨#[13]⟩] 9)):=(ar _ _).alloc (ag _) _;have y:=ad (n.o.t (hA2.m (by have:=A.o;omega)));have F:cg (d.alloc (.cells #[.string ⟨#[32]⟩,.string ⟨#[9]⟩,.string ⟨#[10]⟩,.string ⟨#[13]⟩] 9)) (.slice (some ⟨d.heap.size,0,none⟩) 4 4) pT:=kN d pT 4 (by decide);have x:=(hA2.block sb (by have:=A.o;omega)).t z.o;have q:=ad (sh 160 #[.pointer (some ⟨sb,0,none⟩)] (fun b=>Lib.contains t (jv++b)) pT (by decide) (some ⟨d.heap.size,0,none⟩) 4 _ (fun vs w=>cP Tryz.func160 (by kernel_rfl) rfl vs w)
    (fun b h J B=>BE t b I.o (by simp only[pT,bL,uK,or_false] at h;rcases h with rfl|rfl|rfl|rfl<;>decide) sb J ((r.o.next hA2).next B) (tH _ _ 0 _ _ _ ((B.block _ (aB.1 x).1).t x))) F)
   rw[G.o] at q;have H:=ad (show Calls Tryz.prog 159 #[.slice (some ⟨d.heap.size,0,none⟩) 4 4,.func (.func 160) #[] #[.pointer (some ⟨sb,0,none⟩)]] _ _ from q.o);have M:∀(fn:Fn) (first cap:Array aaL) (w:aaK),(Instr.makeFunc fn first cap).run Tryz.prog w=.ok (.func fn first cap) w:=fun _ _ _ _=>rfl;clear hA2 F x q;go_wp2_with fail;refine j.o.m ?_;rintro e i⟨rfl,rfl⟩;go_wp2_with fail;refine p.o.m ?_;rintro e i⟨rfl,rfl⟩;go_wp2_with fail;refine H.o.m ?_;rintro e i⟨rfl,K⟩;go_wp2_with fail;go_ret;exact⟨rfl,by rw[k.o];exact y.o.t (K.m (by have:=y.o.size;have:=k.o;omega))⟩
  ·go_wp2_with fail;refine j.o.m ?_;rintro e i⟨rfl,rfl⟩;go_wp2_with fail;refine p.o.m ?_;rintro e i⟨rfl,rfl⟩;go_wp2_with fail;go_ret;exact⟨rfl,by rw[k.o];exact n.o⟩
 ·go_wp2_with fail;refine j.o.m ?_;rintro e i⟨rfl,rfl⟩;go_wp2_with fail;go_ret;exact⟨rfl,by rw[k.o];exact n.o⟩
theorem zW{t:Bs}(h:t≠[]):t.isEmpty=false:=by
 cases t with
 |nil=>exact absurd rfl h
 |cons _ _=>rfl
theorem F7(k p:Int)(t:Bs){aa ka:Option Addr}{an ac kn kc:Nat}(hid:Bool)(N:t.length≤1000000)(w:aaK)(V:Good w):
 Calls Tryz.prog 87 #[.agg #[.int .i64 k,.int .i64 p,.string ⟨t.toArray⟩,.slice aa an ac,.slice ka kn kc],.bool hid] w (cN w (.bool (sj k t hid))):=by
 have J:Below w.heap.size w (w.alloc (.cells (eH k p t (.slice aa an ac) (.slice ka kn kc)).toArray 37)):=(ar _ _).alloc (ag _) _;have b:=ad J;have z:=ad (au w (.cells (eH k p t (.slice aa an ac) (.slice ka kn kc)).toArray 37));have S:=ad (V.next J);have G:=ad (fun W (h:Below _ _ W)=>C8 t N W (S.o.next h));have j:=ad (fun W (h:Below _ _ W) (sub:Bs)=>mI t sub W (S.o.next h) N);obtain⟨R,K⟩:∃R,sj k t hid=R:=⟨_,rfl⟩;have D:=ad (show(if k=2 then !t.isEmpty&& !si t&& !(hid&&Lib.contains t oJ)
  else if k=4 then !Lib.contains t (bD++cF)
  else if k=5 then !Lib.contains t (bD++bS)&& !Lib.contains t eY
  else t.isEmpty)=R from K)
 rw[K];clear J V N K;have q0:∀q:aaK,Below w.heap.size w q→True:=fun _ _=>trivial;clear q0;by_cases s:k=2
 ·have i:=ad ((ah s).symm.t D.o);have q2:=jY s;clear s D;by_cases B:t=[]
  ·have a:=ad (show R=false by rw[←i.o,B];rfl);subst B;clear i;go_enter Tryz.func87,Tryz.ntmps87;go_wp2_with fail;go_ret;exact⟨by rw[a.o];rfl,b.o⟩
  ·have X:t.isEmpty=false:=zW B;have q3:(t==[])=false:=aL.2 B;have Y:(t !=[])=true:=by rw[bne,q3];rfl
   obtain⟨F,O⟩:∃F,si t=F:=⟨_,rfl⟩;obtain⟨C,M⟩:∃C,Lib.contains t oJ=C:=⟨_,rfl⟩;have e:=ad (show(!F&& !(hid&&C))=R by rw[←i.o,X,O,M];rfl);rw[O] at G;have l:=ad (fun W (h:Below _ _ W)=>j.o W h oJ);rw[M] at l;clear i B X O M j;go_enter Tryz.func87,Tryz.ntmps87;go_upto_region 1 with fail;generalize w.alloc (.cells (eH k p t (.slice aa an ac) (.slice ka kn kc)).toArray 37)=q at*;obtain⟨H,I⟩:=qX2 (aj z.o) 0 2;go_wp2_with fail;refine(G.o q (ar _ _)).m ?_;rintro E Z⟨rfl,L⟩;have y:=ad L;have n2:=(L.block _ (aB.1 z.o).1).t z.o;have d2:=aj n2 2;clear L n2 H I;cases F
   ·cases hid
    ·have a:=ad (show R=true by rw[←e.o];rfl);go_wp2_with fail;go_ret;exact⟨by rw[a.o];rfl,b.o.t (y.o.m b.o.size)⟩
    ·have a:=ad (show R= !C by rw[←e.o];rfl);go_wp2_with fail;refine(l.o _ y.o).m ?_;rintro E w3⟨rfl,rfl⟩;cases C
     ·go_wp2_with fail;go_ret;exact⟨by rw[a.o];rfl,b.o.t (y.o.m b.o.size)⟩
     ·go_wp2_with fail;go_ret;exact⟨by rw[a.o];rfl,b.o.t (y.o.m b.o.size)⟩
   ·have a:=ad (show R=false by rw[←e.o];rfl);go_wp2_with fail;go_ret;exact⟨by rw[a.o];rfl,b.o.t (y.o.m b.o.size)⟩
 ·have i:=ad ((ae s).symm.t D.o);have q2:=eS s;clear s D G;by_cases u:k=4
  ·have e:=ad ((ah u).symm.t i.o);have Y:=jY u;have l:=ad (fun W (h:Below _ _ W)=>j.o W h (bD++cF));obtain⟨c,A⟩:∃c,Lib.contains t (bD++cF)=c:=⟨_,rfl⟩;rw[A] at l e;clear u i j A;go_enter Tryz.func87,Tryz.ntmps87;go_upto_region 1 with fail;generalize w.alloc (.cells (eH k p t (.slice aa an ac) (.slice ka kn kc)).toArray 37)=q at*;obtain⟨H,I⟩:=qX2 (aj z.o) 0 2;go_wp2_with fail;refine(l.o q (ar _ _)).m ?_;rintro E Z⟨rfl,rfl⟩;cases c
   ·go_wp2_with fail;go_ret;exact⟨by rw[←e.o];rfl,b.o⟩
   ·go_wp2_with fail;go_ret;exact⟨by rw[←e.o];rfl,b.o⟩
  ·have e:=ad ((ae u).symm.t i.o);have Y:=eS u;clear u i;by_cases x:k=5
   ·have n:=ad ((ah x).symm.t e.o);have q5:=jY x;have l:=ad (fun W (h:Below _ _ W)=>j.o W h (bD++bS));have Q:=ad (fun W (h:Below _ _ W)=>j.o W h eY);obtain⟨c,A⟩:∃c,Lib.contains t (bD++bS)=c:=⟨_,rfl⟩;obtain⟨d,T⟩:∃d,Lib.contains t eY=d:=⟨_,rfl⟩;rw[A] at l n;rw[T] at Q n;clear x e j A T;go_enter Tryz.func87,Tryz.ntmps87;go_upto_region 1 with fail;generalize w.alloc (.cells (eH k p t (.slice aa an ac) (.slice ka kn kc)).toArray 37)=q at*;obtain⟨H,I⟩:=qX2 (aj z.o) 0 2;go_wp2_with fail;refine(l.o q (ar _ _)).m ?_;rintro E Z⟨rfl,rfl⟩;cases c
    ·go_wp2_with fail;refine(Q.o _ (ar _ _)).m ?_;rintro E w3⟨rfl,rfl⟩;have a:=ad (show R= !d by rw[←n.o];rfl);cases d
     ·go_wp2_with fail;go_ret;exact⟨by rw[a.o];rfl,b.o⟩
     ·go_wp2_with fail;go_ret;exact⟨by rw[a.o];rfl,b.o⟩
    ·have a:=ad (show R=false by rw[←n.o];rfl);go_wp2_with fail;go_ret;exact⟨by rw[a.o];rfl,b.o⟩
   ·have n:=ad ((ae x).symm.t e.o);have q5:=eS x;have a:=ad (show R=(t==[]) by rw[←n.o];cases t<;>rfl);obtain⟨r,hr⟩:∃r,(t==[])=r:=⟨_,rfl⟩;rw[hr] at a;clear x e n j;cases r
    ·go_enter Tryz.func87,Tryz.ntmps87;go_wp2_with fail;go_ret;exact⟨by rw[a.o];rfl,b.o⟩
    ·go_enter Tryz.func87,Tryz.ntmps87;go_wp2_with fail;go_ret;exact⟨by rw[a.o];rfl,b.o⟩
theorem C9{c:Type}(q:c→Bool):∀l:List c,match l.findIdx? q with|none=>l.find? q=none|some k=>∃a,l[k]? =some a∧l.find? q=some a
 |[]=>rfl
 |x::r=>by
  have b:=C9 q r;rw[List.findIdx?_cons,uH];cases hq:q x with
  |true=>exact⟨x,rfl,rfl⟩
  |false=>
   revert b;cases h:r.findIdx? q with
   |none=>exact fun b=>b
   |some k=>exact fun⟨a,d,e⟩=>⟨a,by simpa using d,e⟩
theorem Ku(q:bQ→Bool)(l:List bQ):(∃(k:Nat) (a:bQ),tM q l=(k:Int)∧l[k]? =some a∧l.find? q=some a)∨(tM q l=-1∧l.find? q=none):=by
 have h:=C9 q l;unfold tM;cases b:l.findIdx? q with
 |none=>rw[b] at h;exact .inr ⟨rfl,h⟩
 |some k=>rw[b] at h;obtain⟨a,c,d⟩:=h;exact .inl ⟨k,a,rfl,c,d⟩
theorem F8(nm:Bs)(b:bQ)(a:Nat)(W:aaK)(d:W.cell? ⟨a,0,none⟩=some (.string ⟨nm.toArray⟩)):
 Calls Tryz.prog 93 #[Tk b,.pointer (some ⟨a,0,none⟩)] W (cN W (.bool (b.name==nm))):=by
 have c:Below W.heap.size W (W.alloc (.cells (BF b).toArray 159)):=(ar _ _).alloc (ag _) _;have e:=ad c;have h:(W.alloc (.cells (BF b).toArray 159)).cell? ⟨a,0,none⟩=some (.string ⟨nm.toArray⟩):=(c.cell (p:=⟨a,0,none⟩) (aV d)).t d;have i:=bH W (BF b).toArray 159 0 _ rfl;clear c d;go_enter Tryz.func93,Tryz.ntmps93;go_wp2_with fail;go_ret;exact⟨rfl,e.o⟩
theorem pU(k p:Int)(t nm:Bs){l:List bQ}{aa ka:Option Addr}{ac kn kc:Nat}{A:Nat→Prop}(w:aaK)(G:aP A w l (.slice aa l.length ac))(I:l.length≤1000000):
 Calls Tryz.prog 47 #[.agg #[.int .i64 k,.int .i64 p,.string ⟨t.toArray⟩,.slice aa l.length ac,.slice ka kn kc],.string ⟨nm.toArray⟩] w (cN w (.tuple #[.string ⟨((bG l nm).getD []).toArray⟩,.bool (bG l nm).isSome])):=by
 have y:Below w.heap.size w ((w.alloc (.cells (eH k p t (.slice aa l.length ac) (.slice ka kn kc)).toArray 37)).alloc (.cells #[.string ⟨nm.toArray⟩] 9)):=((ar _ _).alloc (ag _) _).alloc (by rw[aO];omega) _;have n:=ad y;have h:=ad (jX w (.cells (eH k p t (.slice aa l.length ac) (.slice ka kn kc)).toArray 37) (.cells #[.string ⟨nm.toArray⟩] 9));have x:=ad (iT w (.cells (eH k p t (.slice aa l.length ac) (.slice ka kn kc)).toArray 37) (.cells #[.string ⟨nm.toArray⟩] 9));have q:=ad (G.next y);have s:=ad (oK 93 #[.pointer (some ⟨w.heap.size+1,0,none⟩)] (fun a=>a.name==nm) l I aa ac _ (fun vs w=>cP Tryz.func93 (by kernel_rfl) rfl vs w)
  (fun a _ L O=>F8 nm a (w.heap.size+1) L (tH _ _ 0 _ _ _ ((O.block _ (aB.1 x.o).1).t x.o))) _ q.o)
 have e:=ad (Ku (fun a=>a.name==nm) l);have r:=ad (show bG l nm=(l.find? fun a=>a.name==nm).map (·.val) from rfl);obtain⟨N,z⟩:∃N,l.length=N:=⟨_,rfl⟩;have K:=ad z;rw[z] at n h x q s⊢;obtain⟨V,F⟩:∃V,tM (fun a=>a.name==nm) l=V:=⟨_,rfl⟩;rw[F] at e s;obtain⟨d,E⟩:∃d,bG l nm=d:=⟨_,rfl⟩;rw[E] at r⊢;have af:∀(fn:Fn) (first cap:Array aaL) (w:aaK),(Instr.makeFunc fn first cap).run Tryz.prog w=.ok (.func fn first cap) w:=fun _ _ _ _=>rfl;have ab:N≤1000000:=by omega
 clear y G I z F E;go_enter Tryz.func47,Tryz.ntmps47;go_upto_region 1 with fail;generalize(w.alloc (.cells (eH k p t (.slice aa N ac) (.slice ka kn kc)).toArray 37)).alloc (.cells #[.string ⟨nm.toArray⟩] 9)=X at*;have M:=aj h.o 3;go_wp2_with fail;refine s.o.m ?_;rintro Z R⟨rfl,j⟩;have D:=ad (n.o.t (j.m n.o.size));have J:=ad (q.o.next j);have n1:=(j.block _ (aB.1 h.o).1).t h.o;have Y:=aj n1 3;clear j n1 M;rcases e.o with⟨i,a,C,B,c⟩|⟨C,c⟩
 ·have u:=ad (show d=some a.val by rw[r.o,c];rfl);have Q:i<N:=by rw[←K.o];exact(cH.1 B).1
  obtain⟨b,o,rfl,-,-,-,H⟩:=J.o.get B;obtain⟨S,T,W⟩:=H ⟨R,ar _ _⟩;dsimp only at S T W;have i1:(i:Int)<(N:Int):=by omega
  have i0:(0:Int)≤(i:Int):=by omega
  subst C;clear B c H Q e;go_wp2_with fail;go_ret2;exact⟨by rw[u.o];rfl,D.o⟩
 ·have u:=ad (show d=none by rw[r.o,c];rfl);subst C;clear c e;go_wp2_with fail;go_ret2;exact⟨by rw[u.o];rfl,D.o⟩
end Go.Proofs.YtlemddnecmmfgaaGreatDoor
namespace Go.Proofs.YtlemddnecmmfgaaGreatDoor
open Go.Lib
structure ep where
 name:Bs
 XH:Bool
 may:Bs→Bool
def sn(v:Bs):Bool:= !v.isEmpty
def dM(k:Int):List ep:=
 if k=3 then[⟨lC,true,sn⟩,⟨lD,false,sn⟩,⟨dj,false,fun v=>[iJ].any (v==·)⟩]
 else if k=4 then[⟨kO,true,sn⟩,⟨eN,false,fun v=>[Da,Tm].any (v==·)⟩]
 else if k=6 then[⟨qH,true,fun _=>true⟩]
 else if k=11 then[⟨gT,true,sn⟩]
 else[]
def oL(r:ep)(a:bQ):Bool:=a.name==r.name&&(!r.may a.val||Dd a.val)
def jZ(l:List bQ):List ep→Nat→Option Nat
 |[],f=>some f
 |r::rs,f=>if l.any (oL r) then none else if 1<cr l r.name∨(cr l r.name=0∧r.XH=true) then none else jZ l rs (f+cr l r.name)
def so(rs:List ep)(l:List bQ):Bool:=match jZ l rs 0 with|none=>false|some n=>n==l.length
def kP(l:List bQ)(r:ep):Bool:= !l.any (oL r)&&decide (cr l r.name≤1)&&(!r.XH||decide (0<cr l r.name))
def ns(l:List bQ)(rs:List ep):Nat:=(rs.map fun r=>cr l r.name).sum
theorem zY(l:List bQ):∀(rs:List ep) (f:Nat),jZ l rs f=if rs.all (kP l) then some (f+ns l rs) else none
 |[],f=>by simp[jZ,ns]
 |r::rs,f=>by
  rw[jZ,zY l rs];have d:kP l r=(!l.any (oL r)&&decide (cr l r.name≤1)&&(!r.XH||decide (0<cr l r.name))):=rfl;rw[kf];by_cases c:l.any (oL r)=true
  ·rw[ah c];have:kP l r=false:=by rw[d,c];rfl
   rw[this];rfl
  ·rw[ae c];have e:l.any (oL r)=false:=by simpa using c
   by_cases a:1<cr l r.name∨(cr l r.name=0∧r.XH=true)
   ·rw[ah a];have:kP l r=false:=by
     rw[d,e];rcases a with a|⟨a,b⟩
     ·rw[cL (by omega)];rfl
     ·rw[a,b];rfl
    rw[this];rfl
   ·rw[ae a];have:kP l r=true:=by
     rw[d,e,bN (show cr l r.name≤1 by omega)];cases j:r.XH
     ·rfl
     ·have i:0<cr l r.name:=Nat.pos_of_ne_zero fun h=>a (.inr ⟨h,j⟩);rw[bN i];rfl
    rw[this,Bool.true_and];by_cases b:rs.all (kP l)=true
    ·rw[ah b,ah b];simp[ns,oh]
    ·rw[ae b,ae b]
theorem Nc(rs:List ep)(l:List bQ):so rs l=(rs.all (kP l)&&decide (ns l rs=l.length)):=by
 unfold so;rw[zY];by_cases h:rs.all (kP l)=true
 ·rw[ah h,h];simp only[dH,Bool.true_and];exact gf.2 (by simp)
 ·rw[ae h];have:rs.all (kP l)=false:=by simpa using h
  rw[this];rfl
theorem Di(a:bQ)(l:List bQ)(nm:Bs):cr (a::l) nm=cr l nm+if a.name==nm then 1 else 0:=by unfold cr;rw[List.filter_cons];split<;>simp
theorem tO(a:bQ)(l:List bQ):∀(rs:List ep),(rs.map (·.name)).Nodup→ns (a::l) rs=ns l rs+if rs.any (fun r=>a.name==r.name) then 1 else 0
 |[],_=>by simp[ns]
 |r::rs,h=>by
  have b:=lI.1 (show(r.name::rs.map (·.name)).Nodup from h);have o:=tO a l rs b.2;have c:ns (a::l) (r::rs)=cr (a::l) r.name+ns (a::l) rs:=by simp[ns]
  have d:ns l (r::rs)=cr l r.name+ns l rs:=by simp[ns]
  rw[c,d,o,Di,rZ];by_cases hq:a.name==r.name
  ·have j:rs.any (fun r=>a.name==r.name)=false:=by
    rw[List.any_eq_false];intro x m n;have e:a.name=r.name:=by simpa using hq
    have i:a.name=x.name:=by simpa using n
    exact b.1 (qE.2 ⟨x,m,by rw[←e,i]⟩)
   rw[hq,j];simp;omega
  ·have k:(a.name==r.name)=false:=by simpa using hq
   rw[k];simp;omega
theorem xf:∀rs:List ep,ns [] rs=0
 |[]=>rfl
 |r::rs=>by
  have a:ns [] (r::rs)=cr [] r.name+ns [] rs:=by simp[ns]
  rw[a,xf rs];rfl
theorem Jh{rs:List ep}(h:(rs.map (·.name)).Nodup):∀l:List bQ,ns l rs≤l.length
 |[]=>by rw[xf];exact aH _
 |a::l=>by have:=Jh h l;rw[tO a l rs h,bF];split<;>omega
theorem Dj{rs:List ep}(h:(rs.map (·.name)).Nodup):∀l:List bQ,decide (ns l rs=l.length)=l.all fun a=>rs.any fun r=>a.name==r.name
 |[]=>by rw[xf];rfl
 |a::l=>by
  have c:=Dj h l;rw[tO a l rs h,kf,←c,bF];have:=Jh h l;by_cases hq:rs.any (fun r=>a.name==r.name)=true
  ·rw[ah hq,hq,Bool.true_and];exact gf.2 (by simp)
  ·have b:rs.any (fun r=>a.name==r.name)=false:=by simpa using hq
   rw[ae hq,b,Bool.false_and];exact cL (by omega)
theorem uO(k:Int):(dM k).map (·.name)=(aE k).1:=by
 unfold dM aE
 repeat' split
 all_goals rfl
theorem Dk(k:Int):((dM k).map (·.name)).Nodup:=by
 rw[uO];unfold aE
 repeat' split
 all_goals decide
theorem zZ(k:Int):∀r∈dM k,∀v,lJ r.name v=r.may v:=by
 unfold dM;split
 ·intro r a v;simp only[bL,uK,or_false] at a;rcases a with rfl|rfl|rfl
  ·rfl
  ·rfl
  ·show _=([iJ].any (v==·));rw[rZ,List.any_nil,Bool.or_false];rfl
 ·split
  ·intro r a v;simp only[bL,uK,or_false] at a;rcases a with rfl|rfl
   ·rfl
   ·show _=([Da,Tm].any (v==·));rw[rZ,rZ,List.any_nil,Bool.or_false];rfl
  ·split
   ·intro r a v;rw[fj.1 a];rfl
   ·split
    ·intro r a v;rw[fj.1 a];rfl
    ·intro r a;cases a
theorem Gd(k:Int):(aE k).1.take (aE k).2=((dM k).filter (·.XH)).map (·.name):=by
 unfold dM aE
 repeat' split
 all_goals rfl
theorem xg(l:List bQ)(nm:Bs):decide (0<cr l nm)=l.any fun a=>a.name==nm:=by
 unfold cr;rw[gf,eM,lF];constructor
 ·intro h;obtain⟨a,b⟩:=List.exists_mem_of_length_pos h;exact⟨a,(List.mem_filter.1 b).1,(List.mem_filter.1 b).2⟩
 ·rintro⟨a,c,d⟩;exact List.length_pos_of_mem (List.mem_filter.2 ⟨c,d⟩)
theorem Gb(k:Int)(l:List bQ):sq k l=so (dM k) l:=by
 rw[Nc,Dj (Dk k)];unfold sq;rw[Gd,gf];simp only[cW,eV];have s:∀a:bQ,(aE k).1.contains a.name=true↔∃r∈dM k,a.name=r.name:=fun a=>by rw[←uO,r8,qE];exact⟨fun⟨r,c,h⟩=>⟨r,c,h.symm⟩,fun⟨r,c,h⟩=>⟨r,c,h.symm⟩⟩
 have o:∀r,kP l r=true↔(∀a∈l,a.name=r.name→r.may a.val=true∧Dd a.val=false)∧cr l r.name≤1∧(r.XH=true→l.any (fun a=>a.name==r.name)=true):=fun r=>by
  rw[kP,←xg];simp only[cW,Bool.not_eq_true',List.any_eq_false,eM,wH,oL,bZ];constructor
  ·rintro⟨⟨c,h⟩,i⟩;refine⟨fun a d b=> ?_,h,fun j=> ?_⟩
   ·have:=c a d;simp only[b] at this;revert this;cases r.may a.val<;>cases Dd a.val<;>simp
   ·rcases i with i|i
    ·rw[j] at i;cases i
    ·exact i
  ·rintro⟨c,h,i⟩;refine⟨⟨fun a d=> ?_,h⟩, ?_⟩
   ·by_cases b:a.name=r.name
    ·obtain⟨u,w⟩:=c a d b;simp[u,w]
    ·simp[b]
   ·cases j:r.XH
    ·exact .inl rfl
    ·exact .inr (i j)
 constructor
 ·rintro⟨c,h⟩;refine⟨fun r e=>(o r).2 ⟨fun a d b=> ?_, ?_,fun j=> ?_⟩,fun a d=> ?_⟩
  ·obtain⟨⟨⟨n,m⟩,p⟩,q⟩:=c a d;rw[b,zZ k r e] at m;exact⟨m,by simpa using p⟩
  ·by_cases y:cr l r.name=0
   ·omega
   ·have:=(xg l r.name).symm.t (bN (Nat.pos_of_ne_zero y));obtain⟨a,d,b⟩:=lF.1 this;have b:a.name=r.name:=by simpa using b
    have:=(c a d).2;rw[b] at this;simpa using this
  ·exact h r.name (qE.2 ⟨r,List.mem_filter.2 ⟨e,j⟩,rfl⟩)
  ·obtain⟨⟨⟨n,m⟩,p⟩,q⟩:=c a d;obtain⟨r,e,b⟩:=(s a).1 n;exact lF.2 ⟨r,e,by simpa using b⟩
 ·rintro⟨c,h⟩;refine⟨fun a d=> ?_,fun nm x=> ?_⟩
  ·obtain⟨r,e,b⟩:=lF.1 (h a d);have b:a.name=r.name:=by simpa using b
   obtain⟨n,m,p⟩:=(o r).1 (c r e);obtain⟨q,z⟩:=n a d b;refine⟨⟨⟨(s a).2 ⟨r,e,b⟩,by rw[b,zZ k r e];exact q⟩,by simpa using z⟩,by rw[b];exact bN m⟩
  ·obtain⟨r,e,rfl⟩:=qE.1 x;obtain⟨e,j⟩:=List.mem_filter.1 e;exact((o r).1 (c r e)).2.2 j
end Go.Proofs.YtlemddnecmmfgaaGreatDoor
namespace Go.Proofs.YtlemddnecmmfgaaGreatDoor
open Go.RowKit
def ZA(W:aaK)(a:aaL)(q:Bs→Bool):Prop:=∃(f:FuncId) (first:Array aaL),a=.func (.func f) first #[]∧(∀(vs:Array aaL) (w:aaK),(callFunc f vs).run Tryz.prog w=.ok (.enter f vs) w)∧
 ∀W',Below W.heap.size W W'→∀v:Bs,Calls Tryz.prog f (first.push (.string ⟨v.toArray⟩)) W' fun e w'=>e=.returned (.bool (q v))∧w'=W'
structure Tl (W:aaK) (b o:Nat) (r:ep):Prop where
 c0:W.cell? ⟨b,o,none⟩=some (.string ⟨r.name.toArray⟩)
 c1:W.cell? ⟨b,o+1,none⟩=some (.bool r.XH)
 c2:∃fv,W.cell? ⟨b,o+2,none⟩=some fv∧ZA W fv r.may
def gw(W:aaK)(v:aaL)(rs:List ep):Prop:=(rs=[]∧v=.slice none 0 0)∨∃b,v=.slice (some ⟨b,0,none⟩) rs.length rs.length∧b<W.heap.size∧∀(i:Nat) (r:ep),rs[i]? =some r→Tl W b (i*3) r
theorem gw.next{W W':aaK}{v:aaL}{rs:List ep}(h:gw W v rs)(a:Below W.heap.size W W'):gw W' v rs:=by
 rcases h with h|⟨b,n,c,o⟩
 ·exact .inl h
 ·refine .inr ⟨b,n,ej c a.size,fun i r x=> ?_⟩;obtain⟨e,j,l,k,f,first,q,s,u⟩:=o i r x;exact⟨(a.cell (p:=⟨b,i*3,none⟩) c).t e,(a.cell (p:=⟨b,i*3+1,none⟩) c).t j,l,(a.cell (p:=⟨b,i*3+2,none⟩) c).t k,f,first,q,s,fun d w=>u d (a.t (w.m a.size))⟩
def Na(w:aaK)(k:Int):Ending→aaK→Prop:=fun e w'=>Below w.heap.size w w'∧∃v,e=.returned v∧gw w' v (dM k)
theorem sk(W:aaK):ZA W (.func (.func 124) #[] #[]) sn:=⟨_,#[],rfl,fun vs w=>cP Tryz.func124 (by kernel_rfl) rfl vs w,fun W' _ v=>Kr v W'⟩
theorem Nb(W:aaK):ZA W (.func (.func 126) #[] #[]) (fun _=>true):=⟨_,#[],rfl,fun vs w=>cP Tryz.func126 (by kernel_rfl) rfl vs w,fun W' _ v=>MW v W'⟩
theorem Jf(W:aaK){ls:List Bs}{a:Option Addr}{c:Nat}(h:cg W (.slice a ls.length c) ls)(d:ls.length≤1000):ZA W (.func (.func 125) #[.slice a ls.length c] #[]) (fun v=>ls.any (v==·)):=
 ⟨_,#[.slice a ls.length c],rfl,fun vs w=>cP Tryz.func125 (by kernel_rfl) rfl vs w,fun W' b v=>M5 ls v d a c W' (h.below b)⟩
def qX:List (ep×aaL)→List aaL
 |[]=>[]
 |p::r=>[.string ⟨p.1.name.toArray⟩,.bool p.1.XH,p.2]++qX r
theorem wY:∀{l:List (ep×aaL)} {i:Nat} {p:ep×aaL},l[i]? =some p→(qX l)[i*3]? =some (.string ⟨p.1.name.toArray⟩)∧(qX l)[i*3+1]? =some (.bool p.1.XH)∧(qX l)[i*3+2]? =some p.2
 |[],_,_,h=>by simp at h
 |q::r,0,p,h=>by simp at h;subst h;exact⟨rfl,rfl,rfl⟩
 |q::r,i+1,p,h=>by
  obtain⟨a,b,c⟩:=wY (l:=r) (i:=i) (p:=p) (by simpa using h);rw[qX];refine⟨?_, ?_, ?_⟩
  ·rw[jL (by show 3≤_;omega)];rw[←a];congr 1;show(i+1)*3-3=_;omega
  ·rw[jL (by show 3≤_;omega)];rw[←b];congr 1;show(i+1)*3+1-3=_;omega
  ·rw[jL (by show 3≤_;omega)];rw[←c];congr 1;show(i+1)*3+2-3=_;omega
theorem pV(W:aaK)(T:TypeId)(l:List (ep×aaL)){rs:List ep}(j:l.map (·.1)=rs)(h:∀p∈l,ZA (W.alloc (.cells (qX l).toArray T)) p.2 p.1.may):gw (W.alloc (.cells (qX l).toArray T)) (.slice (some ⟨W.heap.size,0,none⟩) rs.length rs.length) rs:=by refine .inr ⟨W.heap.size,rfl,by rw[aO];omega,fun i r b=> ?_⟩;rw[←j,uI] at b;obtain⟨p,a,rfl⟩:=qG.1 b;obtain⟨c,d,e⟩:=wY a;exact⟨bH W _ _ _ _ (by simpa using c),bH W _ _ _ _ (by simpa using d),p.2,bH W _ _ _ _ (by simpa using e),h p (eQ a)⟩
theorem az(W:aaK)(O:Obj):Below W.heap.size W (W.alloc O):=(ar _ _).alloc (ag _) _
theorem F9(k:Int)(w:aaK):Calls Tryz.prog 86 #[.int .i64 k] w (Na w k):=by
 have r:∀(fn:Fn) (first cap:Array aaL) (w:aaK),(Instr.makeFunc fn first cap).run Tryz.prog w=.ok (.func fn first cap) w:=fun _ _ _ _=>rfl;by_cases b:k=3
 ·subst b;go_enter Tryz.func86,Tryz.ntmps86;go_wp2_with fail;go_ret;have i:=kN w [iJ] 1 (by decide);have h:=pV (w.alloc (.cells #[.string ⟨#[99,111,110,116,105,110,117,101]⟩] 9)) 191 [(⟨lC,true,sn⟩,.func (.func 124) #[] #[]),(⟨lD,false,sn⟩,.func (.func 124) #[] #[]),(⟨dj,false,fun v=>[iJ].any (v==·)⟩,.func (.func 125) #[.slice (some ⟨w.heap.size,0,none⟩) 1 1] #[])] (rs:=dM 3) rfl (fun p a=>by
   simp only[bL,uK,or_false] at a;rcases a with rfl|rfl|rfl
   ·exact sk _
   ·exact sk _
   ·exact Jf _ (ls:=[iJ]) (i.below (az _ _)) (by decide))
  rw[aO] at h;exact⟨(az _ _).t ((az _ _).m (by rw[aO];omega)),_,rfl,h⟩
 ·have j:=eS b;by_cases c:k=4
  ·subst c;clear b j;go_enter Tryz.func86,Tryz.ntmps86;go_wp2_with fail;go_ret;have i:=kN w [Da,Tm] 2 (by decide);have h:=pV (w.alloc (.cells #[.string ⟨#[121,101,115]⟩,.string ⟨#[110,111]⟩] 9)) 191 [(⟨kO,true,sn⟩,.func (.func 124) #[] #[]),(⟨eN,false,fun v=>[Da,Tm].any (v==·)⟩,.func (.func 125) #[.slice (some ⟨w.heap.size,0,none⟩) 2 2] #[])] (rs:=dM 4) rfl (fun p a=>by
    simp only[bL,uK,or_false] at a;rcases a with rfl|rfl
    ·exact sk _
    ·exact Jf _ (ls:=[Da,Tm]) (i.below (az _ _)) (by decide))
   rw[aO] at h;exact⟨(az _ _).t ((az _ _).m (by rw[aO];omega)),_,rfl,h⟩
  ·have l:=eS c;by_cases d:k=6
   ·subst d;clear b c j l;go_enter Tryz.func86,Tryz.ntmps86;go_wp2_with fail;go_ret;have h:=pV w 191 [(⟨qH,true,fun _=>true⟩,.func (.func 126) #[] #[])] (rs:=dM 6) rfl (fun p a=>by rw[fj.1 a];exact Nb _);exact⟨az _ _,_,rfl,h⟩
   ·have q:=eS d;by_cases e:k=11
    ·subst e;clear b c d j l q;go_enter Tryz.func86,Tryz.ntmps86;go_wp2_with fail;go_ret;have h:=pV w 191 [(⟨gT,true,sn⟩,.func (.func 124) #[] #[])] (rs:=dM 11) rfl (fun p a=>by rw[fj.1 a];exact sk _);exact⟨az _ _,_,rfl,h⟩
    ·have s:=eS e;have n:=ad (show dM k=[] by unfold dM;rw[ae b,ae c,ae d,ae e]);clear b c d e;go_enter Tryz.func86,Tryz.ntmps86;go_wp2_with fail;go_ret;exact⟨ar _ _,_,rfl,.inl ⟨n.o,rfl⟩⟩
