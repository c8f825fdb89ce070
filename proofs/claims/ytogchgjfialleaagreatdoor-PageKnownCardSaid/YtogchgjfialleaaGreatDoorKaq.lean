/- The walks of esitree's rules and keep. -/
import Derived.Test.YtogchgjfialleaaGreatDoorKap
set_option linter.unusedVariables false
set_option maxRecDepth 100000
set_option maxHeartbeats 4000000
namespace Go.Proofs.YtogchgjfialleaaGreatDoor
open Go.RowKit
def vM{a:Type}(q:a→Bool)(l:List a):Int:=match l.findIdx? q with|some k=>(k:Int)|none=>-1
theorem zU{b:Type}{q:b→Bool}{l:List b}(h:∀k:Nat,∀a,l[k]? =some a→q a=false):vM q l=-1:=by unfold vM;rw[zL.2];intro a c;obtain⟨k,d⟩:=zP.1 c;exact h k a d
theorem zV{b:Type}{q:b→Bool}{l:List b}{k:Nat}{a:b}(h:∀j:Nat,j<k→∀a,l[j]? =some a→q a=false)(c:l[k]? =some a)(hq:q a=true):vM q l=(k:Int):=by unfold vM;have e:=(cH.1 c).1;rw[zM.2 ⟨e,by rw[(cH.1 c).2];exact hq,fun j d=> ?_⟩];have:=h j d _ (cA (by omega));simpa using this
theorem C7{b:Type}(q:b→Bool)(l:List b):decide (0≤vM q l)=l.any q:=by
 unfold vM;cases h:l.findIdx? q with
 |none=>rw[zL] at h;rw[List.any_eq_false.2 fun a c=>by rw[h a c];decide];rfl
 |some k=>obtain⟨d,hq,_⟩:=zM.1 h;rw[lF.2 ⟨_,wI d,hq⟩];exact bN (Int.natCast_nonneg k)
theorem cg.Vg{W:World}{a:Option Addr}{n c i:Nat}{ls:List Bs}{x:Bs}(h:cg W (.slice a n c) ls)(j:ls[i]? =some x):∃b o,a=some ⟨b,o,none⟩∧W.cell? ⟨b,o+i,none⟩=some (.string ⟨x.toArray⟩):=by
 rcases h with⟨p,k,d,e⟩|⟨b,o,k,d,e,s,m⟩
 ·subst e;cases j
 ·injection d with l q r;exact⟨b,o,l,m i x j⟩
theorem MY(l:List Bs)(v:Bs)(L:l.length≤1000)(F:Option Addr)(c:Nat)(w:World)(E:cg w (.slice F l.length c) l):
 Calls Tryz.prog 174 #[.slice F l.length c,.string ⟨v.toArray⟩] w (fun e w'=>e=.returned (.int .i64 (vM (v==·) l))∧w'=w):=by
 have B:=ad E;obtain⟨V,d⟩:∃V,vM (v==·) l=V:=⟨_,rfl⟩;rw[d];have G:=ad (fun h=>d.symm.trans (zU (q:=(v==·)) (l:=l) h));have I:=ad (fun k a h m hq=>d.symm.trans (zV (q:=(v==·)) (l:=l) (k:=k) (a:=a) h m hq));obtain⟨n,y⟩:∃n,l.length=n:=⟨_,rfl⟩;have C:=ad y;rw[y] at L B⊢;clear E d y;go_enter Tryz.func174,Tryz.ntmps174;go_upto_region 2 with fail
 go_loopw [8] (fun z wr=>∃i:Nat,i≤n∧z=.int .i64 i∧Hid (∀j:Nat,j<i→∀a,l[j]? =some a→(v==a)=false)∧wr=w) (fun z _=>n-(intOf z).toNat)
 case atStart=>exact⟨0,aH _,rfl,ad (fun j J=>by omega),rfl⟩
 case round=>
  obtain⟨i,Q,rfl,s,rfl⟩:=hrel;by_cases M:i<n
  ·have S:(i:Int)<(n:Int):=by omega
   have R:(0:Int)≤(i:Int):=by omega
   obtain⟨a,u⟩:∃a,l[i]? =some a:=⟨_,cA (by rw[C.out];exact M)⟩;have A:=ad u;obtain⟨b,o,rfl,O⟩:=B.out.Vg u;obtain⟨r,N⟩:∃r,(v==a)=r:=⟨_,rfl⟩;have D:=ad N;clear u;rcases r with _|_
   ·have H:=ad (fun(j:Nat) (J:j<i+1) (t:Bs) (x:l[j]? =some t)=>show(v==t)=false by
     by_cases K:j<i
     ·exact s.out j K t x
     ·obtain rfl:j=i:=by omega
      rw[A.out] at x;cases x;exact D.out)
    go_wp2_with fail
    go_roundw
    case rel=>exact⟨i+1,by omega,by go_num,H,by trivial⟩
    case measure=>(simp[intOf]<;>omega)
   ·have p:=ad (I.out i a s.out A.out D.out);go_wp2_with fail;go_ret;exact⟨by rw[p.out];rfl,rfl⟩
  ·obtain rfl:i=n:=by omega
   have p:=ad (G.out fun k a m=>s.out k (by rw[←C.out];exact(cH.1 m).1) a m);go_wp2_with fail;go_ret;exact⟨by rw[p.out];rfl,rfl⟩
theorem M3(l:List Bs)(v:Bs)(i:l.length≤1000)(a:Option Addr)(c:Nat)(w:World)(b:cg w (.slice a l.length c) l):
 Calls Tryz.prog 135 #[.slice a l.length c,.string ⟨v.toArray⟩] w (fun e w'=>e=.returned (.bool (l.any (v==·)))∧w'=w):=by
 have h:=ad (MY l v i a c w b);have d:=ad (C7 (v==·) l);generalize vM (v==·) l=V at*;generalize l.any (v==·)=R at*;generalize l.length=n at*;clear b;go_enter Tryz.func135,Tryz.ntmps135;go_wp2_with fail;refine h.out.mono ?_;rintro e j⟨rfl,rfl⟩;go_wp2_with fail;go_ret;exact⟨cq d.out,rfl⟩
theorem M5(l:List Bs)(v:Bs)(h:l.length≤1000)(a:Option Addr)(c:Nat)(w:World)(b:cg w (.slice a l.length c) l):
 Calls Tryz.prog 96 #[.slice a l.length c,.string ⟨v.toArray⟩] w (fun e w'=>e=.returned (.bool (l.any (v==·)))∧w'=w):=by
 have d:=ad (M3 l v h a c w b);generalize l.any (v==·)=R at*;generalize l.length=n at*;clear b;go_enter Tryz.func96,Tryz.ntmps96;go_wp2_with fail;refine d.out.mono ?_;rintro e i⟨rfl,rfl⟩;go_wp2_with fail;go_ret;exact⟨rfl,rfl⟩
theorem wX(f:FuncId)(ca:Array Value)(q:Bs→Bool)(l:List Bs)(T:l.length≤1000000)(K:Option Addr)(c:Nat)(w:World)(Y:∀(vs:Array Value) (w:World),(callFunc f vs).run Tryz.prog w=.ok (.enter f vs) w)
 (J:∀a∈l,∀W,Below w.heap.size w W→Calls Tryz.prog f (#[.string ⟨a.toArray⟩]++ca) W (cN W (.bool (q a))))(d:cg w (.slice K l.length c) l):
 Calls Tryz.prog 175 #[.slice K l.length c,.func (.func f) #[] ca] w (cN w (.int .i64 (vM q l))):=by
 have L:=ad J;have F:=ad d;obtain⟨V,p⟩:∃V,vM q l=V:=⟨_,rfl⟩;rw[p];have M:=ad (fun h=>p.symm.trans (zU (q:=q) (l:=l) h));have O:=ad (fun k a h d hq=>p.symm.trans (zV (q:=q) (l:=l) (k:=k) (a:=a) h d hq));obtain⟨n,z⟩:∃n,l.length=n:=⟨_,rfl⟩;have G:=ad z;rw[z] at F T⊢;clear J d p z;go_enter Tryz.func175,Tryz.ntmps175;go_upto_region 2 with fail
 go_loopw [8] (fun B wr=>∃i:Nat,i≤n∧B=.int .i64 i∧Hid (∀j:Nat,j<i→∀a,l[j]? =some a→q a=false)∧Hid (Below w.heap.size w wr)) (fun B _=>n-(intOf B).toNat)
 case atStart=>exact⟨0,aH _,rfl,ad (fun j R=>by omega),ad (ar _ _)⟩
 case round=>
  obtain⟨i,Z,rfl,u,m⟩:=hrel;by_cases X:i<n
  ·have i1:(i:Int)<(n:Int):=by omega
   have i0:(0:Int)≤(i:Int):=by omega
   obtain⟨a,s⟩:∃a,l[i]? =some a:=⟨_,cA (by rw[G.out];exact X)⟩;have C:=ad s;obtain⟨b,o,rfl,Q⟩:=(F.out.below m.out).Vg s;have E:=ad (L.out a (eQ s) wr m.out);obtain⟨r,A⟩:∃r,q a=r:=⟨_,rfl⟩;rw[A] at E;have H:=ad A;clear s A;go_wp2_with fail;refine E.out.mono ?_;rintro e w3⟨rfl,I⟩;have D:=ad (m.out.trans (I.mono m.out.size));clear I Q;rcases r with _|_
   ·have N:=ad (fun(j:Nat) (R:j<i+1) (x:Bs) (y:l[j]? =some x)=>show q x=false by
     by_cases S:j<i
     ·exact u.out j S x y
     ·obtain rfl:j=i:=by omega
      rw[C.out] at y;cases y;exact H.out)
    go_wp2_with fail
    go_roundw
    case rel=>exact⟨i+1,by omega,by go_num,N,D⟩
    case measure=>(simp[intOf]<;>omega)
   ·have t:=ad (O.out i a u.out C.out H.out);go_wp2_with fail;go_ret;exact⟨by rw[t.out];rfl,D.out⟩
  ·obtain rfl:i=n:=by omega
   have t:=ad (M.out fun k a d=>u.out k (by rw[←G.out];exact(cH.1 d).1) a d);go_wp2_with fail;go_ret;exact⟨by rw[t.out];rfl,m.out⟩
theorem sh(f:FuncId)(ca:Array Value)(q:Bs→Bool)(l:List Bs)(o:l.length≤1000000)(b:Option Addr)(c:Nat)(w:World)(h:∀(vs:Array Value) (w:World),(callFunc f vs).run Tryz.prog w=.ok (.enter f vs) w)
 (d:∀a∈l,∀W,Below w.heap.size w W→Calls Tryz.prog f (#[.string ⟨a.toArray⟩]++ca) W (cN W (.bool (q a))))(i:cg w (.slice b l.length c) l):
 Calls Tryz.prog 136 #[.slice b l.length c,.func (.func f) #[] ca] w (cN w (.bool (l.any q))):=by
 have k:=ad (wX f ca q l o b c w h d i);have j:=ad (C7 q l);generalize vM q l=V at*;generalize l.any q=R at*;generalize l.length=n at*;clear d i h;go_enter Tryz.func136,Tryz.ntmps136;go_wp2_with fail;refine k.out.mono ?_;rintro e p⟨rfl,m⟩;go_wp2_with fail;go_ret;exact⟨cq j.out,m⟩
theorem mI(s sub:Bs)(w:World)(c:Good w)(d:s.length≤1000000):Calls Tryz.prog 92 #[.string ⟨s.toArray⟩,.string ⟨sub.toArray⟩] w fun e w'=>e=.returned (.bool (Lib.contains s sub))∧w'=w:=by refine(nn ⟨s.toArray⟩ ⟨sub.toArray⟩ w c (by show s.toArray.size<_;simp;omega)).mono ?_;rintro e w'⟨a,b⟩;exact⟨a,b.symm⟩
theorem BE(t b:Bs)(i:t.length≤1000000)(l:b.length≤100)(d:Nat)(w:World)(h:Good w)(m:w.cell? ⟨d,0,none⟩=some (.string ⟨t.toArray⟩)):
 Calls Tryz.prog 137 #[.string ⟨b.toArray⟩,.pointer (some ⟨d,0,none⟩)] w (cN w (.bool (Lib.contains t (jv++b)))):=by
 have a:=ad (mI t (jv++b) w h i);have k:(⟨#[60,33,45,45,101,115,105]⟩:ByteArray)++⟨b.toArray⟩=⟨(jv++b).toArray⟩:=Je jv b;have n:¬9223372036854775807<7+b.length:=by omega
 generalize jv++b=e at*;obtain⟨r,c⟩:∃r,Lib.contains t e=r:=⟨_,rfl⟩;rw[c] at a⊢;clear c;go_enter Tryz.func137,Tryz.ntmps137;go_wp2_with fail;refine a.out.mono ?_;rintro j o⟨rfl,rfl⟩;go_wp2_with fail;go_ret;exact⟨rfl,ar _ _⟩
def pT:List Bs:=[[32],[9],[10],[13]]
theorem Kt(t:Bs):si t=((Lib.contains t eY||Lib.contains t bD)||pT.any fun b=>Lib.contains t (jv++b)):=rfl
theorem C8(t:Bs)(l:t.length≤1000000)(w:World)(B:Good w):Calls Tryz.prog 98 #[.string ⟨t.toArray⟩] w (cN w (.bool (si t))):=by
 have q:Below w.heap.size w (w.alloc (.cells #[.string ⟨t.toArray⟩] 9)):=(ar _ _).alloc (ag _) _;have m:=ad q;have p:=ad (B.next q);have x:=ad (au w (.cells #[.string ⟨t.toArray⟩] 9));have j:=ad (mI t eY _ p.out l);have n:=ad (mI t bD _ p.out l);have G:=ad l;have y:=ad (aO w (.cells #[.string ⟨t.toArray⟩] 9));rw[Kt];obtain⟨a,A⟩:∃a,Lib.contains t eY=a:=⟨_,rfl⟩;obtain⟨b,h⟩:∃b,Lib.contains t bD=b:=⟨_,rfl⟩;obtain⟨c,r⟩:∃c,(pT.any fun b=>Lib.contains t (jv++b))=c:=⟨_,rfl⟩;rw[A] at j⊢;rw[h] at n⊢;have E:=ad r;rw[r];clear q B l A h r;go_enter Tryz.func98,Tryz.ntmps98;go_upto_region 1 with fail;generalize w.alloc (.cells #[.string ⟨t.toArray⟩] 9)=d at*;have J:d.cell? ⟨w.heap.size,0,none⟩=_:=aj 0 x.out;generalize C:w.heap.size=sb at*;have k:=ad C;clear C;cases a
 ·cases b
  ·have hA2:Below d.heap.size d (d.alloc (.cells #[.string ⟨#[32]⟩,.string ⟨#[9]⟩,.string ⟨#[10]⟩,.string ⟨#[13]⟩] 9)):=(ar _ _).alloc (ag _) _;have u:=ad (m.out.trans (hA2.mono (by have:=y.out;omega)));have D:cg (d.alloc (.cells #[.string ⟨#[32]⟩,.string ⟨#[9]⟩,.string ⟨#[10]⟩,.string ⟨#[13]⟩] 9)) (.slice (some ⟨d.heap.size,0,none⟩) 4 4) pT:=kN d pT 4 (by decide);have s:=(hA2.block sb (by have:=y.out;omega)).trans x.out;have o:=ad (sh 137 #[.pointer (some ⟨sb,0,none⟩)] (fun b=>Lib.contains t (jv++b)) pT (by decide) (some ⟨d.heap.size,0,none⟩) 4 _ (fun vs w=>cP Tryz.func137 (by kernel_rfl) rfl vs w)
    (fun b h H z=>BE t b G.out (by simp only[pT,bL,uK,or_false] at h;rcases h with rfl|rfl|rfl|rfl<;>decide) sb H ((p.out.next hA2).next z) (aj 0 ((z.block _ (aB.1 s).1).trans s))) D)
   rw[E.out] at o;have F:=ad (show Calls Tryz.prog 136 #[.slice (some ⟨d.heap.size,0,none⟩) 4 4,.func (.func 137) #[] #[.pointer (some ⟨sb,0,none⟩)]] _ _ from o.out);have K:∀(fn:Fn) (first cap:Array Value) (w:World),(Instr.makeFunc fn first cap).run Tryz.prog w=.ok (.func fn first cap) w:=fun _ _ _ _=>rfl;clear hA2 D s o;go_wp2_with fail;refine j.out.mono ?_;rintro e i⟨rfl,rfl⟩;go_wp2_with fail;refine n.out.mono ?_;rintro e i⟨rfl,rfl⟩;go_wp2_with fail;refine F.out.mono ?_;rintro e i⟨rfl,I⟩;go_wp2_with fail;go_ret;exact⟨rfl,by rw[k.out];exact u.out.trans (I.mono (by have:=u.out.size;have:=k.out;omega))⟩
  ·go_wp2_with fail;refine j.out.mono ?_;rintro e i⟨rfl,rfl⟩;go_wp2_with fail;refine n.out.mono ?_;rintro e i⟨rfl,rfl⟩;go_wp2_with fail;go_ret;exact⟨rfl,by rw[k.out];exact m.out⟩
 ·go_wp2_with fail;refine j.out.mono ?_;rintro e i⟨rfl,rfl⟩;go_wp2_with fail;go_ret;exact⟨rfl,by rw[k.out];exact m.out⟩
theorem zW{t:Bs}(h:t≠[]):t.isEmpty=false:=by
 cases t with
 |nil=>exact absurd rfl h
 |cons _ _=>rfl
theorem F7(k p:Int)(t:Bs){aa ka:Option Addr}{an ac kn kc:Nat}(hid:Bool)(L:t.length≤1000000)(w:World)(S:Good w):
 Calls Tryz.prog 51 #[.agg #[.int .i64 k,.int .i64 p,.string ⟨t.toArray⟩,.slice aa an ac,.slice ka kn kc],.bool hid] w (cN w (.bool (sj k t hid))):=by
 have H:Below w.heap.size w (w.alloc (.cells (eH k p t (.slice aa an ac) (.slice ka kn kc)).toArray 45)):=(ar _ _).alloc (ag _) _;have b:=ad H;have m:=ad (au w (.cells (eH k p t (.slice aa an ac) (.slice ka kn kc)).toArray 45));have O:=ad (S.next H);have E:=ad (fun W (h:Below _ _ W)=>C8 t L W (O.out.next h));have j:=ad (fun W (h:Below _ _ W) (sub:Bs)=>mI t sub W (O.out.next h) L);obtain⟨R,I⟩:∃R,sj k t hid=R:=⟨_,rfl⟩;have B:=ad (show(if k=2 then !t.isEmpty&& !si t&& !(hid&&Lib.contains t oJ)
  else if k=4 then !Lib.contains t (bD++cF)
  else if k=5 then !Lib.contains t (bD++bS)&& !Lib.contains t eY
  else t.isEmpty)=R from I)
 rw[I];clear H S L I;have Z:∀o:World,Below w.heap.size w o→True:=fun _ _=>trivial;clear Z;by_cases q:k=2
 ·have i:=ad ((ah q).symm.trans B.out);have q2:=jY q;clear q B;by_cases z:t=[]
  ·have a:=ad (show R=false by rw[←i.out,z];rfl);subst z;clear i;go_enter Tryz.func51,Tryz.ntmps51;go_wp2_with fail;go_ret;exact⟨by rw[a.out];rfl,b.out⟩
  ·have T:t.isEmpty=false:=zW z;have q3:(t==[])=false:=aL.2 z;have V:(t !=[])=true:=by rw[bne,q3];rfl
   obtain⟨D,M⟩:∃D,si t=D:=⟨_,rfl⟩;obtain⟨A,K⟩:∃A,Lib.contains t oJ=A:=⟨_,rfl⟩;have e:=ad (show(!D&& !(hid&&A))=R by rw[←i.out,T,M,K];rfl);rw[M] at E;have l:=ad (fun W (h:Below _ _ W)=>j.out W h oJ);rw[K] at l;clear i z T M K j;go_enter Tryz.func51,Tryz.ntmps51;go_upto_region 1 with fail;generalize w.alloc (.cells (eH k p t (.slice aa an ac) (.slice ka kn kc)).toArray 45)=o at*;have F:=aj 0 m.out;have G:=aj 2 m.out;go_wp2_with fail;refine(E.out o (ar _ _)).mono ?_;rintro C X⟨rfl,J⟩;have x:=ad J;have n2:=(J.block _ (aB.1 m.out).1).trans m.out;have d2:=aj 2 n2;clear J n2 F G;cases D
   ·cases hid
    ·have a:=ad (show R=true by rw[←e.out];rfl);go_wp2_with fail;go_ret;exact⟨by rw[a.out];rfl,b.out.trans (x.out.mono b.out.size)⟩
    ·have a:=ad (show R= !A by rw[←e.out];rfl);go_wp2_with fail;refine(l.out _ x.out).mono ?_;rintro C w3⟨rfl,rfl⟩;cases A
     ·go_wp2_with fail;go_ret;exact⟨by rw[a.out];rfl,b.out.trans (x.out.mono b.out.size)⟩
     ·go_wp2_with fail;go_ret;exact⟨by rw[a.out];rfl,b.out.trans (x.out.mono b.out.size)⟩
   ·have a:=ad (show R=false by rw[←e.out];rfl);go_wp2_with fail;go_ret;exact⟨by rw[a.out];rfl,b.out.trans (x.out.mono b.out.size)⟩
 ·have i:=ad ((ae q).symm.trans B.out);have q2:=eS q;clear q B E;by_cases s:k=4
  ·have e:=ad ((ah s).symm.trans i.out);have V:=jY s;have l:=ad (fun W (h:Below _ _ W)=>j.out W h (bD++cF));obtain⟨c,y⟩:∃c,Lib.contains t (bD++cF)=c:=⟨_,rfl⟩;rw[y] at l e;clear s i j y;go_enter Tryz.func51,Tryz.ntmps51;go_upto_region 1 with fail;generalize w.alloc (.cells (eH k p t (.slice aa an ac) (.slice ka kn kc)).toArray 45)=o at*;have F:=aj 0 m.out;have G:=aj 2 m.out;go_wp2_with fail;refine(l.out o (ar _ _)).mono ?_;rintro C X⟨rfl,rfl⟩;cases c
   ·go_wp2_with fail;go_ret;exact⟨by rw[←e.out];rfl,b.out⟩
   ·go_wp2_with fail;go_ret;exact⟨by rw[←e.out];rfl,b.out⟩
  ·have e:=ad ((ae s).symm.trans i.out);have V:=eS s;clear s i;by_cases u:k=5
   ·have n:=ad ((ah u).symm.trans e.out);have q5:=jY u;have l:=ad (fun W (h:Below _ _ W)=>j.out W h (bD++bS));have N:=ad (fun W (h:Below _ _ W)=>j.out W h eY);obtain⟨c,y⟩:∃c,Lib.contains t (bD++bS)=c:=⟨_,rfl⟩;obtain⟨d,Q⟩:∃d,Lib.contains t eY=d:=⟨_,rfl⟩;rw[y] at l n;rw[Q] at N n;clear u e j y Q;go_enter Tryz.func51,Tryz.ntmps51;go_upto_region 1 with fail;generalize w.alloc (.cells (eH k p t (.slice aa an ac) (.slice ka kn kc)).toArray 45)=o at*;have F:=aj 0 m.out;have G:=aj 2 m.out;go_wp2_with fail;refine(l.out o (ar _ _)).mono ?_;rintro C X⟨rfl,rfl⟩;cases c
    ·go_wp2_with fail;refine(N.out _ (ar _ _)).mono ?_;rintro C w3⟨rfl,rfl⟩;have a:=ad (show R= !d by rw[←n.out];rfl);cases d
     ·go_wp2_with fail;go_ret;exact⟨by rw[a.out];rfl,b.out⟩
     ·go_wp2_with fail;go_ret;exact⟨by rw[a.out];rfl,b.out⟩
    ·have a:=ad (show R=false by rw[←n.out];rfl);go_wp2_with fail;go_ret;exact⟨by rw[a.out];rfl,b.out⟩
   ·have n:=ad ((ae u).symm.trans e.out);have q5:=eS u;have a:=ad (show R=(t==[]) by rw[←n.out];cases t<;>rfl);obtain⟨r,Y⟩:∃r,(t==[])=r:=⟨_,rfl⟩;rw[Y] at a;clear u e n j;cases r
    ·go_enter Tryz.func51,Tryz.ntmps51;go_wp2_with fail;go_ret;exact⟨by rw[a.out];rfl,b.out⟩
    ·go_enter Tryz.func51,Tryz.ntmps51;go_wp2_with fail;go_ret;exact⟨by rw[a.out];rfl,b.out⟩
theorem C9{c:Type}(q:c→Bool):∀l:List c,match l.findIdx? q with|none=>l.find? q=none|some k=>∃a,l[k]? =some a∧l.find? q=some a
 |[]=>rfl
 |x::r=>by
  have b:=C9 q r;rw[List.findIdx?_cons,uH];cases hq:q x with
  |true=>exact⟨x,rfl,rfl⟩
  |false=>
   revert b;cases h:r.findIdx? q with
   |none=>exact fun b=>b
   |some k=>exact fun⟨a,d,e⟩=>⟨a,by simpa using d,e⟩
theorem Ku(q:bQ→Bool)(l:List bQ):(∃(k:Nat) (a:bQ),tM q l=(k:Int)∧l[k]? =some a∧l.find? q=some a)∨(tM q l=-1∧l.find? q=none):=by
 have h:=C9 q l;unfold tM;cases b:l.findIdx? q with
 |none=>rw[b] at h;exact .inr ⟨rfl,h⟩
 |some k=>rw[b] at h;obtain⟨a,c,d⟩:=h;exact .inl ⟨k,a,rfl,c,d⟩
theorem F8(nm:Bs)(b:bQ)(a:Nat)(W:World)(d:W.cell? ⟨a,0,none⟩=some (.string ⟨nm.toArray⟩)):
 Calls Tryz.prog 57 #[Tk b,.pointer (some ⟨a,0,none⟩)] W (cN W (.bool (b.name==nm))):=by
 have c:Below W.heap.size W (W.alloc (.cells (BF b).toArray 124)):=(ar _ _).alloc (ag _) _;have e:=ad c;have h:(W.alloc (.cells (BF b).toArray 124)).cell? ⟨a,0,none⟩=some (.string ⟨nm.toArray⟩):=(c.cell (p:=⟨a,0,none⟩) (aV d)).trans d;have i:=bH W (BF b).toArray 124 0 _ rfl;clear c d;go_enter Tryz.func57,Tryz.ntmps57;go_wp2_with fail;go_ret;exact⟨rfl,e.out⟩
theorem pU(k p:Int)(t nm:Bs){l:List bQ}{aa ka:Option Addr}{ac kn kc:Nat}{A:Nat→Prop}(w:World)(F:aP A w l (.slice aa l.length ac))(H:l.length≤1000000):
 Calls Tryz.prog 28 #[.agg #[.int .i64 k,.int .i64 p,.string ⟨t.toArray⟩,.slice aa l.length ac,.slice ka kn kc],.string ⟨nm.toArray⟩] w (cN w (.tuple #[.string ⟨((bG l nm).getD []).toArray⟩,.bool (bG l nm).isSome])):=by
 have x:Below w.heap.size w ((w.alloc (.cells (eH k p t (.slice aa l.length ac) (.slice ka kn kc)).toArray 45)).alloc (.cells #[.string ⟨nm.toArray⟩] 9)):=((ar _ _).alloc (ag _) _).alloc (by rw[aO];omega) _;have m:=ad x;have h:=ad (jX w (.cells (eH k p t (.slice aa l.length ac) (.slice ka kn kc)).toArray 45) (.cells #[.string ⟨nm.toArray⟩] 9));have u:=ad (iT w (.cells (eH k p t (.slice aa l.length ac) (.slice ka kn kc)).toArray 45) (.cells #[.string ⟨nm.toArray⟩] 9));have n:=ad (F.next x);have r:=ad (oK 57 #[.pointer (some ⟨w.heap.size+1,0,none⟩)] (fun a=>a.name==nm) l H aa ac _ (fun vs w=>cP Tryz.func57 (by kernel_rfl) rfl vs w)
  (fun a _ K M=>F8 nm a (w.heap.size+1) K (aj 0 ((M.block _ (aB.1 u.out).1).trans u.out))) _ n.out)
 have e:=ad (Ku (fun a=>a.name==nm) l);have q:=ad (show bG l nm=(l.find? fun a=>a.name==nm).map (·.val) from rfl);obtain⟨N,y⟩:∃N,l.length=N:=⟨_,rfl⟩;have J:=ad y;rw[y] at m h u n r⊢;obtain⟨V,E⟩:∃V,tM (fun a=>a.name==nm) l=V:=⟨_,rfl⟩;rw[E] at e r;obtain⟨d,D⟩:∃d,bG l nm=d:=⟨_,rfl⟩;rw[D] at q⊢;have ab:∀(fn:Fn) (first cap:Array Value) (w:World),(Instr.makeFunc fn first cap).run Tryz.prog w=.ok (.func fn first cap) w:=fun _ _ _ _=>rfl;have Z:N≤1000000:=by omega
 clear x F H y E D;go_enter Tryz.func28,Tryz.ntmps28;go_upto_region 1 with fail;generalize(w.alloc (.cells (eH k p t (.slice aa N ac) (.slice ka kn kc)).toArray 45)).alloc (.cells #[.string ⟨nm.toArray⟩] 9)=W at*;have L:=aj 3 h.out;go_wp2_with fail;refine r.out.mono ?_;rintro Y Q⟨rfl,j⟩;have C:=ad (m.out.trans (j.mono m.out.size));have I:=ad (n.out.next j);have n1:=(j.block _ (aB.1 h.out).1).trans h.out;have X:=aj 3 n1;clear j n1 L;rcases e.out with⟨i,a,B,z,c⟩|⟨B,c⟩
 ·have s:=ad (show d=some a.val by rw[q.out,c];rfl);have O:i<N:=by rw[←J.out];exact(cH.1 z).1
  obtain⟨b,o,rfl,-,-,-,G⟩:=I.out.get z;obtain⟨R,S,T⟩:=G ⟨Q,ar _ _⟩;dsimp only at R S T;have i1:(i:Int)<(N:Int):=by omega
  have i0:(0:Int)≤(i:Int):=by omega
  subst B;clear z c G O e;go_wp2_with fail;go_ret2;exact⟨by rw[s.out];rfl,C.out⟩
 ·have s:=ad (show d=none by rw[q.out,c];rfl);subst B;clear c e;go_wp2_with fail;go_ret2;exact⟨by rw[s.out];rfl,C.out⟩
end Go.Proofs.YtogchgjfialleaaGreatDoor
namespace Go.Proofs.YtogchgjfialleaaGreatDoor
open Go.Lib
structure ep where
 name:Bs
 nr:Bool
 may:Bs→Bool
def sn(v:Bs):Bool:= !v.isEmpty
def dM(k:Int):List ep:=
 if k=3 then[⟨lC,true,sn⟩,⟨lD,false,sn⟩,⟨dj,false,fun v=>[iJ].any (v==·)⟩]
 else if k=4 then[⟨kO,true,sn⟩,⟨eN,false,fun v=>[Da,Tm].any (v==·)⟩]
 else if k=6 then[⟨qH,true,fun _=>true⟩]
 else if k=11 then[⟨gT,true,sn⟩]
 else[]
def oL(r:ep)(a:bQ):Bool:=a.name==r.name&&(!r.may a.val||Dd a.val)
def jZ(l:List bQ):List ep→Nat→Option Nat
 |[],f=>some f
 |r::rs,f=>if l.any (oL r) then none else if 1<cr l r.name∨(cr l r.name=0∧r.nr=true) then none else jZ l rs (f+cr l r.name)
def so(rs:List ep)(l:List bQ):Bool:=match jZ l rs 0 with|none=>false|some n=>n==l.length
def kP(l:List bQ)(r:ep):Bool:= !l.any (oL r)&&decide (cr l r.name≤1)&&(!r.nr||decide (0<cr l r.name))
def ns(l:List bQ)(rs:List ep):Nat:=(rs.map fun r=>cr l r.name).sum
theorem zY(l:List bQ):∀(rs:List ep) (f:Nat),jZ l rs f=if rs.all (kP l) then some (f+ns l rs) else none
 |[],f=>by simp[jZ,ns]
 |r::rs,f=>by
  rw[jZ,zY l rs];have d:kP l r=(!l.any (oL r)&&decide (cr l r.name≤1)&&(!r.nr||decide (0<cr l r.name))):=rfl;rw[kf];by_cases c:l.any (oL r)=true
  ·rw[ah c];have:kP l r=false:=by rw[d,c];rfl
   rw[this];rfl
  ·rw[ae c];have e:l.any (oL r)=false:=by simpa using c
   by_cases a:1<cr l r.name∨(cr l r.name=0∧r.nr=true)
   ·rw[ah a];have:kP l r=false:=by
     rw[d,e];rcases a with a|⟨a,b⟩
     ·rw[cL (by omega)];rfl
     ·rw[a,b];rfl
    rw[this];rfl
   ·rw[ae a];have:kP l r=true:=by
     rw[d,e,bN (show cr l r.name≤1 by omega)];cases j:r.nr
     ·rfl
     ·have i:0<cr l r.name:=Nat.pos_of_ne_zero fun h=>a (.inr ⟨h,j⟩);rw[bN i];rfl
    rw[this,Bool.true_and];by_cases b:rs.all (kP l)=true
    ·rw[ah b,ah b];simp[ns,oh]
    ·rw[ae b,ae b]
theorem Nc(rs:List ep)(l:List bQ):so rs l=(rs.all (kP l)&&decide (ns l rs=l.length)):=by
 unfold so;rw[zY];by_cases h:rs.all (kP l)=true
 ·rw[ah h,h];simp only[dH,Bool.true_and];exact gf.2 (by simp)
 ·rw[ae h];have:rs.all (kP l)=false:=by simpa using h
  rw[this];rfl
theorem Di(a:bQ)(l:List bQ)(nm:Bs):cr (a::l) nm=cr l nm+if a.name==nm then 1 else 0:=by unfold cr;rw[List.filter_cons];split<;>simp
theorem tO(a:bQ)(l:List bQ):∀(rs:List ep),(rs.map (·.name)).Nodup→ns (a::l) rs=ns l rs+if rs.any (fun r=>a.name==r.name) then 1 else 0
 |[],_=>by simp[ns]
 |r::rs,h=>by
  have b:=lI.1 (show(r.name::rs.map (·.name)).Nodup from h);have o:=tO a l rs b.2;have c:ns (a::l) (r::rs)=cr (a::l) r.name+ns (a::l) rs:=by simp[ns]
  have d:ns l (r::rs)=cr l r.name+ns l rs:=by simp[ns]
  rw[c,d,o,Di,rZ];by_cases hq:a.name==r.name
  ·have j:rs.any (fun r=>a.name==r.name)=false:=by
    rw[List.any_eq_false];intro x m n;have e:a.name=r.name:=by simpa using hq
    have i:a.name=x.name:=by simpa using n
    exact b.1 (qE.2 ⟨x,m,by rw[←e,i]⟩)
   rw[hq,j];simp;omega
  ·have k:(a.name==r.name)=false:=by simpa using hq
   rw[k];simp;omega
theorem xf:∀rs:List ep,ns [] rs=0
 |[]=>rfl
 |r::rs=>by
  have a:ns [] (r::rs)=cr [] r.name+ns [] rs:=by simp[ns]
  rw[a,xf rs];rfl
theorem Jh{rs:List ep}(h:(rs.map (·.name)).Nodup):∀l:List bQ,ns l rs≤l.length
 |[]=>by rw[xf];exact aH _
 |a::l=>by have:=Jh h l;rw[tO a l rs h,bF];split<;>omega
theorem Dj{rs:List ep}(h:(rs.map (·.name)).Nodup):∀l:List bQ,decide (ns l rs=l.length)=l.all fun a=>rs.any fun r=>a.name==r.name
 |[]=>by rw[xf];rfl
 |a::l=>by
  have c:=Dj h l;rw[tO a l rs h,kf,←c,bF];have:=Jh h l;by_cases hq:rs.any (fun r=>a.name==r.name)=true
  ·rw[ah hq,hq,Bool.true_and];exact gf.2 (by simp)
  ·have b:rs.any (fun r=>a.name==r.name)=false:=by simpa using hq
   rw[ae hq,b,Bool.false_and];exact cL (by omega)
theorem uO(k:Int):(dM k).map (·.name)=(aE k).1:=by
 unfold dM aE
 repeat' split
 all_goals rfl
theorem Dk(k:Int):((dM k).map (·.name)).Nodup:=by
 rw[uO];unfold aE
 repeat' split
 all_goals decide
theorem zZ(k:Int):∀r∈dM k,∀v,lJ r.name v=r.may v:=by
 unfold dM;split
 ·intro r a v;simp only[bL,uK,or_false] at a;rcases a with rfl|rfl|rfl
  ·rfl
  ·rfl
  ·show _=([iJ].any (v==·));rw[rZ,List.any_nil,Bool.or_false];rfl
 ·split
  ·intro r a v;simp only[bL,uK,or_false] at a;rcases a with rfl|rfl
   ·rfl
   ·show _=([Da,Tm].any (v==·));rw[rZ,rZ,List.any_nil,Bool.or_false];rfl
  ·split
   ·intro r a v;rw[fj.1 a];rfl
   ·split
    ·intro r a v;rw[fj.1 a];rfl
    ·intro r a;cases a
theorem Gd(k:Int):(aE k).1.take (aE k).2=((dM k).filter (·.nr)).map (·.name):=by
 unfold dM aE
 repeat' split
 all_goals rfl
theorem xg(l:List bQ)(nm:Bs):decide (0<cr l nm)=l.any fun a=>a.name==nm:=by
 unfold cr;rw[gf,eM,lF];constructor
 ·intro h;obtain⟨a,b⟩:=List.exists_mem_of_length_pos h;exact⟨a,(List.mem_filter.1 b).1,(List.mem_filter.1 b).2⟩
 ·rintro⟨a,c,d⟩;exact List.length_pos_of_mem (List.mem_filter.2 ⟨c,d⟩)
theorem Gb(k:Int)(l:List bQ):sq k l=so (dM k) l:=by
 rw[Nc,Dj (Dk k)];unfold sq;rw[Gd,gf];simp only[cW,eV];have s:∀a:bQ,(aE k).1.contains a.name=true↔∃r∈dM k,a.name=r.name:=fun a=>by rw[←uO,r8,qE];exact⟨fun⟨r,c,h⟩=>⟨r,c,h.symm⟩,fun⟨r,c,h⟩=>⟨r,c,h.symm⟩⟩
 have o:∀r,kP l r=true↔(∀a∈l,a.name=r.name→r.may a.val=true∧Dd a.val=false)∧cr l r.name≤1∧(r.nr=true→l.any (fun a=>a.name==r.name)=true):=fun r=>by
  rw[kP,←xg];simp only[cW,Bool.not_eq_true',List.any_eq_false,eM,wH,oL,bZ];constructor
  ·rintro⟨⟨c,h⟩,i⟩;refine⟨fun a d b=> ?_,h,fun j=> ?_⟩
   ·have:=c a d;simp only[b] at this;revert this;cases r.may a.val<;>cases Dd a.val<;>simp
   ·rcases i with i|i
    ·rw[j] at i;cases i
    ·exact i
  ·rintro⟨c,h,i⟩;refine⟨⟨fun a d=> ?_,h⟩, ?_⟩
   ·by_cases b:a.name=r.name
    ·obtain⟨t,u⟩:=c a d b;simp[t,u]
    ·simp[b]
   ·cases j:r.nr
    ·exact .inl rfl
    ·exact .inr (i j)
 constructor
 ·rintro⟨c,h⟩;refine⟨fun r e=>(o r).2 ⟨fun a d b=> ?_, ?_,fun j=> ?_⟩,fun a d=> ?_⟩
  ·obtain⟨⟨⟨n,m⟩,p⟩,q⟩:=c a d;rw[b,zZ k r e] at m;exact⟨m,by simpa using p⟩
  ·by_cases x:cr l r.name=0
   ·omega
   ·have:=(xg l r.name).symm.trans (bN (Nat.pos_of_ne_zero x));obtain⟨a,d,b⟩:=lF.1 this;have b:a.name=r.name:=by simpa using b
    have:=(c a d).2;rw[b] at this;simpa using this
  ·exact h r.name (qE.2 ⟨r,List.mem_filter.2 ⟨e,j⟩,rfl⟩)
  ·obtain⟨⟨⟨n,m⟩,p⟩,q⟩:=c a d;obtain⟨r,e,b⟩:=(s a).1 n;exact lF.2 ⟨r,e,by simpa using b⟩
 ·rintro⟨c,h⟩;refine⟨fun a d=> ?_,fun nm w=> ?_⟩
  ·obtain⟨r,e,b⟩:=lF.1 (h a d);have b:a.name=r.name:=by simpa using b
   obtain⟨n,m,p⟩:=(o r).1 (c r e);obtain⟨q,y⟩:=n a d b;refine⟨⟨⟨(s a).2 ⟨r,e,b⟩,by rw[b,zZ k r e];exact q⟩,by simpa using y⟩,by rw[b];exact bN m⟩
  ·obtain⟨r,e,rfl⟩:=qE.1 w;obtain⟨e,j⟩:=List.mem_filter.1 e;exact((o r).1 (c r e)).2.2 j
end Go.Proofs.YtogchgjfialleaaGreatDoor
namespace Go.Proofs.YtogchgjfialleaaGreatDoor
open Go.RowKit
def M7(W:World)(a:Value)(q:Bs→Bool):Prop:=∃(f:FuncId) (first:Array Value),a=.func (.func f) first #[]∧(∀(vs:Array Value) (w:World),(callFunc f vs).run Tryz.prog w=.ok (.enter f vs) w)∧
 ∀W',Below W.heap.size W W'→∀v:Bs,Calls Tryz.prog f (first.push (.string ⟨v.toArray⟩)) W' fun e w'=>e=.returned (.bool (q v))∧w'=W'
structure Tl (W:World) (b o:Nat) (r:ep):Prop where
 c0:W.cell? ⟨b,o,none⟩=some (.string ⟨r.name.toArray⟩)
 c1:W.cell? ⟨b,o+1,none⟩=some (.bool r.nr)
 c2:∃fv,W.cell? ⟨b,o+2,none⟩=some fv∧M7 W fv r.may
def gw(W:World)(v:Value)(rs:List ep):Prop:=(rs=[]∧v=.slice none 0 0)∨∃b,v=.slice (some ⟨b,0,none⟩) rs.length rs.length∧b<W.heap.size∧∀(i:Nat) (r:ep),rs[i]? =some r→Tl W b (i*3) r
theorem gw.next{W W':World}{v:Value}{rs:List ep}(h:gw W v rs)(a:Below W.heap.size W W'):gw W' v rs:=by
 rcases h with h|⟨b,m,c,n⟩
 ·exact .inl h
 ·refine .inr ⟨b,m,ej c a.size,fun i r u=> ?_⟩;obtain⟨e,j,l,k,f,first,o,q,s⟩:=n i r u;exact⟨(a.cell (p:=⟨b,i*3,none⟩) c).trans e,(a.cell (p:=⟨b,i*3+1,none⟩) c).trans j,l,(a.cell (p:=⟨b,i*3+2,none⟩) c).trans k,f,first,o,q,fun d t=>s d (a.trans (t.mono a.size))⟩
def Na(w:World)(k:Int):Ending→World→Prop:=fun e w'=>Below w.heap.size w w'∧∃v,e=.returned v∧gw w' v (dM k)
theorem sk(W:World):M7 W (.func (.func 95) #[] #[]) sn:=⟨_,#[],rfl,fun vs w=>cP Tryz.func95 (by kernel_rfl) rfl vs w,fun W' _ v=>Kr v W'⟩
theorem Nb(W:World):M7 W (.func (.func 97) #[] #[]) (fun _=>true):=⟨_,#[],rfl,fun vs w=>cP Tryz.func97 (by kernel_rfl) rfl vs w,fun W' _ v=>MW v W'⟩
theorem Jf(W:World){ls:List Bs}{a:Option Addr}{c:Nat}(h:cg W (.slice a ls.length c) ls)(d:ls.length≤1000):M7 W (.func (.func 96) #[.slice a ls.length c] #[]) (fun v=>ls.any (v==·)):=
 ⟨_,#[.slice a ls.length c],rfl,fun vs w=>cP Tryz.func96 (by kernel_rfl) rfl vs w,fun W' b v=>M5 ls v d a c W' (h.below b)⟩
def qX:List (ep×Value)→List Value
 |[]=>[]
 |p::r=>[.string ⟨p.1.name.toArray⟩,.bool p.1.nr,p.2]++qX r
theorem wY:∀{l:List (ep×Value)} {i:Nat} {p:ep×Value},l[i]? =some p→(qX l)[i*3]? =some (.string ⟨p.1.name.toArray⟩)∧(qX l)[i*3+1]? =some (.bool p.1.nr)∧(qX l)[i*3+2]? =some p.2
 |[],_,_,h=>by simp at h
 |q::r,0,p,h=>by simp at h;subst h;exact⟨rfl,rfl,rfl⟩
 |q::r,i+1,p,h=>by
  obtain⟨a,b,c⟩:=wY (l:=r) (i:=i) (p:=p) (by simpa using h);rw[qX];refine⟨?_, ?_, ?_⟩
  ·rw[jL (by show 3≤_;omega)];rw[←a];congr 1;show(i+1)*3-3=_;omega
  ·rw[jL (by show 3≤_;omega)];rw[←b];congr 1;show(i+1)*3+1-3=_;omega
  ·rw[jL (by show 3≤_;omega)];rw[←c];congr 1;show(i+1)*3+2-3=_;omega
theorem pV(W:World)(T:TypeId)(l:List (ep×Value)){rs:List ep}(j:l.map (·.1)=rs)(h:∀p∈l,M7 (W.alloc (.cells (qX l).toArray T)) p.2 p.1.may):gw (W.alloc (.cells (qX l).toArray T)) (.slice (some ⟨W.heap.size,0,none⟩) rs.length rs.length) rs:=by refine .inr ⟨W.heap.size,rfl,by rw[aO];omega,fun i r b=> ?_⟩;rw[←j,uI] at b;obtain⟨p,a,rfl⟩:=qG.1 b;obtain⟨c,d,e⟩:=wY a;exact⟨bH W _ _ _ _ (by simpa using c),bH W _ _ _ _ (by simpa using d),p.2,bH W _ _ _ _ (by simpa using e),h p (eQ a)⟩
theorem az(W:World)(O:Obj):Below W.heap.size W (W.alloc O):=(ar _ _).alloc (ag _) _
theorem F9(k:Int)(w:World):Calls Tryz.prog 50 #[.int .i64 k] w (Na w k):=by
 have o:∀(fn:Fn) (first cap:Array Value) (w:World),(Instr.makeFunc fn first cap).run Tryz.prog w=.ok (.func fn first cap) w:=fun _ _ _ _=>rfl;by_cases b:k=3
 ·subst b;go_enter Tryz.func50,Tryz.ntmps50;go_wp2_with fail;go_ret;have i:=kN w [iJ] 1 (by decide);have h:=pV (w.alloc (.cells #[.string ⟨#[99,111,110,116,105,110,117,101]⟩] 9)) 163 [(⟨lC,true,sn⟩,.func (.func 95) #[] #[]),(⟨lD,false,sn⟩,.func (.func 95) #[] #[]),(⟨dj,false,fun v=>[iJ].any (v==·)⟩,.func (.func 96) #[.slice (some ⟨w.heap.size,0,none⟩) 1 1] #[])] (rs:=dM 3) rfl (fun p a=>by
   simp only[bL,uK,or_false] at a;rcases a with rfl|rfl|rfl
   ·exact sk _
   ·exact sk _
   ·exact Jf _ (ls:=[iJ]) (i.below (az _ _)) (by decide))
  rw[aO] at h;exact⟨(az _ _).trans ((az _ _).mono (by rw[aO];omega)),_,rfl,h⟩
 ·have j:=eS b;by_cases c:k=4
  ·subst c;clear b j;go_enter Tryz.func50,Tryz.ntmps50;go_wp2_with fail;go_ret;have i:=kN w [Da,Tm] 2 (by decide);have h:=pV (w.alloc (.cells #[.string ⟨#[121,101,115]⟩,.string ⟨#[110,111]⟩] 9)) 163 [(⟨kO,true,sn⟩,.func (.func 95) #[] #[]),(⟨eN,false,fun v=>[Da,Tm].any (v==·)⟩,.func (.func 96) #[.slice (some ⟨w.heap.size,0,none⟩) 2 2] #[])] (rs:=dM 4) rfl (fun p a=>by
    simp only[bL,uK,or_false] at a;rcases a with rfl|rfl
    ·exact sk _
    ·exact Jf _ (ls:=[Da,Tm]) (i.below (az _ _)) (by decide))
   rw[aO] at h;exact⟨(az _ _).trans ((az _ _).mono (by rw[aO];omega)),_,rfl,h⟩
  ·have l:=eS c;by_cases d:k=6
   ·subst d;clear b c j l;go_enter Tryz.func50,Tryz.ntmps50;go_wp2_with fail;go_ret;have h:=pV w 163 [(⟨qH,true,fun _=>true⟩,.func (.func 97) #[] #[])] (rs:=dM 6) rfl (fun p a=>by rw[fj.1 a];exact Nb _);exact⟨az _ _,_,rfl,h⟩
   ·have n:=eS d;by_cases e:k=11
    ·subst e;clear b c d j l n;go_enter Tryz.func50,Tryz.ntmps50;go_wp2_with fail;go_ret;have h:=pV w 163 [(⟨gT,true,sn⟩,.func (.func 95) #[] #[])] (rs:=dM 11) rfl (fun p a=>by rw[fj.1 a];exact sk _);exact⟨az _ _,_,rfl,h⟩
    ·have q:=eS e;have m:=ad (show dM k=[] by unfold dM;rw[ae b,ae c,ae d,ae e]);clear b c d e;go_enter Tryz.func50,Tryz.ntmps50;go_wp2_with fail;go_ret;exact⟨ar _ _,_,rfl,.inl ⟨m.out,rfl⟩⟩
