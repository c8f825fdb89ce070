/- The tests' trees and the parser's box in memory. -/
import Derived.Test.YtlemddnecmmfgaaGreatDoorJae
import Derived.Deep.RegionHeld3
import Derived.Deep.DrawnRows
import Derived.StillTail
set_option linter.unusedVariables false
set_option maxRecDepth 100000
set_option maxHeartbeats 4000000
namespace Go.Proofs.YtlemddnecmmfgaaGreatDoor
open Go.Lib
variable{w:List dQ}
theorem Ie(s key:Bs)(n:Nat)(b:10≤n)(c:s.length≤n):(gX s key).1.length≤n:=by
 unfold gX;cases key==lg
 ·cases key==mU
  ·cases key==VE
   ·exact aH _
   ·show(Us s).length≤n;unfold Us;cases Lib.contains s mV<;>cases Lib.contains s Lq<;>cases(Lib.contains s Lr||Lib.contains s uk)<;>simp<;>omega
  ·show((s.drop (kq s)).takeWhile vd).length≤n;have a:=iV vd (s.drop (kq s));unfold lead at a;rw[bK] at a;omega
 ·show(jS s).length≤n;unfold jS;cases Lib.contains s iq<;>cases Lib.hasPrefix s sL<;>simp<;>omega
theorem UC{key p v:Bs}(h:vQ key p=some v):v.length≤p.length:=by
 unfold vQ at h;split at h
 ·obtain rfl:=iS h;exact bP (ij _ _) (sJ p)
 ·cases h
theorem UD{key p v:Bs}(h:uh key p=some v):v.length≤p.length:=by
 unfold uh at h;split at h
 ·obtain rfl:=iS h;exact ij _ _
 ·cases h
theorem A4{f:Bs→Option Bs}{l:List Bs}{n:Nat}(a:∀p v,f p=some v→v.length≤p.length)(b:∀p∈l,p.length≤n):(pd (l.findSome? f)).1.length≤n:=by
 cases h:l.findSome? f with
 |none=>exact aH _
 |some v=>obtain⟨p,c,d⟩:=List.exists_of_findSome?_eq_some h;exact bP (a p v d) (b p c)
theorem wA(a:rX w)(name:Bs):(jz w name).1.length≤100002000:=oX (a.values name) [44,32] (by decide)
theorem O8{h t:Bs}(name key:Bs)(has:Bool)(a:rX w)(d:h.length≤100002000)(k:t.length≤100000):(dK h t w name key has).1.length≤100002000:=by
 have c:(fe w).1.length≤100002000:=oX (a.values bA) [59,32] (by decide);rcases nJ name with rfl|rfl|rfl|rfl|rfl|rfl|e
 ·cases has
  ·exact d
  ·unfold dK;cases fJ key<;>exact aH _
 ·cases has
  ·exact wA a _
  ·unfold dK;cases fJ key<;>exact aH _
 ·cases has
  ·exact wA a _
  ·show(bif fJ key then Ls w key else([],false)).1.length≤_;cases fJ key
   ·exact aH _
   ·show(Ls w key).1.length≤_;unfold Ls;cases(jz w agentName).2
    ·exact aH _
    ·exact Ie _ _ _ (by omega) (wA a _)
 ·cases has
  ·exact c
  ·show(bif fJ key then pd (nL w key) else([],false)).1.length≤_;cases fJ key
   ·exact aH _
   ·exact A4 (fun p v h=>UC h) (fun p b=>bP (iO 59 _ _ (ag _) p b) c)
 ·cases has
  ·show(pd (rD t)).1.length≤_;unfold rD;split
   ·have:=ij 63 t;show(past 63 t).length≤_;omega
   ·exact aH _
  ·show(bif fJ key then pd (bif t.contains 63 then kZ t key else none) else([],false)).1.length≤_;cases fJ key
   ·exact aH _
   ·cases t.contains 63
    ·exact aH _
    ·refine A4 (fun p v h=>UD h) (fun p b=> ?_);have i:=iO 38 _ _ (ag _) p b;have j:=ij 63 t;omega
 ·cases has
  ·exact wA a _
  ·show(bif fJ key then(vk (mS w key),mS w key) else([],false)).1.length≤_;cases fJ key
   ·exact aH _
   ·show(vk (mS w key)).length≤_;cases mS w key<;>simp[vk]
 ·rw[AO e];exact aH _
theorem O9{h t:Bs}{fs:List dQ}(u:iZ)(c:rX fs)(b:h.length≤100002000)(d:t.length≤100000)(a:u.cK.length≤100002000):(jD h t fs u).1.length≤100002000:=by
 unfold jD;cases(dK h t fs u.name u.key u.hk).2
 ·cases u.hd
  ·exact aH _
  ·exact a
 ·exact O8 _ _ _ c b d
end Go.Proofs.YtlemddnecmmfgaaGreatDoor
namespace Go.Proofs.YtlemddnecmmfgaaGreatDoor
open Go.RowKit
theorem GW(name:aaM)(w:aaK):Calls Tryz.prog 231 #[.string name] w (cN w (.bool (cD name.data.toList))):=by
 rcases nJ name.data.toList with c|c|c|c|c|c|c
 ·obtain rfl:=dn c;have d:=ad (show cD (⟨kX.toArray⟩:aaM).data.toList=true from rfl);clear c;go_enter Tryz.func231,Tryz.ntmps231;go_wp2_with fail;refine(bO _).m ?_;rintro e n⟨b,j,k,l,rfl,h,a⟩;have i:=wi h;go_wp2;go_ret;rw[d.o];exact⟨rfl,a.alloc a.size _⟩
 ·obtain rfl:=dn c;have d:=ad (show cD (⟨dZ.toArray⟩:aaM).data.toList=true from rfl);clear c;go_enter Tryz.func231,Tryz.ntmps231;go_wp2_with fail;refine(bO _).m ?_;rintro e n⟨b,j,k,l,rfl,h,a⟩;have i:=wj h;go_wp2;go_ret;rw[d.o];exact⟨rfl,a.alloc a.size _⟩
 ·obtain rfl:=dn c;have d:=ad (show cD (⟨iE.toArray⟩:aaM).data.toList=true from rfl);clear c;go_enter Tryz.func231,Tryz.ntmps231;go_wp2_with fail;refine(bO _).m ?_;rintro e n⟨b,j,k,l,rfl,h,a⟩;have i:=wk h;go_wp2;go_ret;rw[d.o];exact⟨rfl,a.alloc a.size _⟩
 ·obtain rfl:=dn c;have d:=ad (show cD (⟨eU.toArray⟩:aaM).data.toList=true from rfl);clear c;go_enter Tryz.func231,Tryz.ntmps231;go_wp2_with fail;refine(bO _).m ?_;rintro e n⟨b,j,k,l,rfl,h,a⟩;have i:=wm h;go_wp2;go_ret;rw[d.o];exact⟨rfl,a.alloc a.size _⟩
 ·obtain rfl:=dn c;have d:=ad (show cD (⟨iF.toArray⟩:aaM).data.toList=true from rfl);clear c;go_enter Tryz.func231,Tryz.ntmps231;go_wp2_with fail;refine(bO _).m ?_;rintro e n⟨b,j,k,l,rfl,h,a⟩;have i:=wo h;go_wp2;go_ret;rw[d.o];exact⟨rfl,a.alloc a.size _⟩
 ·obtain rfl:=dn c;have d:=ad (show cD (⟨kY.toArray⟩:aaM).data.toList=true from rfl);clear c;go_enter Tryz.func231,Tryz.ntmps231;go_wp2_with fail;refine(bO _).m ?_;rintro e n⟨b,j,k,l,rfl,h,a⟩;have i:=wu h;go_wp2;go_ret;rw[d.o];exact⟨rfl,a.alloc a.size _⟩
 ·have d:=ad c;clear c;go_enter Tryz.func231,Tryz.ntmps231;go_wp2_with fail;refine(bO _).m ?_;rintro e n⟨b,j,k,l,rfl,h,a⟩;have i:=JJ h d.o;go_wp2;go_ret;rw[d.o];exact⟨rfl,a.alloc a.size _⟩
end Go.Proofs.YtlemddnecmmfgaaGreatDoor
namespace Go.Proofs.YtlemddnecmmfgaaGreatDoor
open Go.RowKit
variable{e i:Bool}{b l X n:Bs}{a:Nat}{d s:aaK}
attribute[local go_sem↓] Go.wp_at_zero Go.wp_at_succ
def ak(p:Nat)(W W':aaK):Prop:=W.grownBy W' (some p)
theorem ak.refl(p:Nat)(W:aaK):ak p W W:=World.grownBy.refl _ _
theorem ak.t{p:Nat}{W c d:aaK}(a:ak p W c)(b:ak p c d):ak p W d:=
 ⟨b.os.t a.os,b.tape.t a.tape,b.output.t a.output,bP a.size b.size,fun k e h=>(b.block k (ej e a.size) h).t (a.block k e h)⟩
theorem ak.ai{p:Nat}{W W':aaK}(h:Below W.heap.size W W'):ak p W W':=⟨h.os,h.tape,h.output,h.size,fun k a _=>h.block k a⟩
theorem ak.set{p j:Nat}{W W':aaK}{v:aaL}(h:ak p W W'):ak p W (W'.setCell ⟨p,j,none⟩ v):=
 h.t ⟨rfl,rfl,rfl,by rw[show(W'.setCell ⟨p,j,none⟩ v).heap.size=W'.heap.size by simp[World.setCell]];exact ag _,fun k _ a=>dy W' ⟨p,j,none⟩ v k (fun e=>a (by rw[e]))⟩
theorem ak.below{p n:Nat}{W W':aaK}(h:ak p W W')(c:n≤p)(b:n≤W.heap.size):Below n W W':=⟨h.os,h.tape,h.output,h.size,fun k a=>h.block k (by omega) (by intro e;cases e;omega)⟩
theorem Good.aN{W W':aaK}(h:Good W)(c:ak a W W')(b:0<a):Good W':=h.below (c.below (n:=min a W.heap.size) (Nat.min_le_left _ _) (Nat.min_le_right _ _)) (Nat.lt_min.2 ⟨b,h.lt⟩)
def RB(W:aaK)(p:Nat)(r nm k d:Bs)(b a:Bool):Prop:=
 W.heap[p]? =some (.cells #[.string ⟨r.toArray⟩,.int .i64 0,.int .i64 0,.string ⟨nm.toArray⟩,.string ⟨k.toArray⟩,.string ⟨d.toArray⟩,.bool b,.bool a] 261)
structure RC (W:aaK) (p:Nat) (r nm k d:Bs) (hk hd:Bool):Prop where
 c0:W.cell? ⟨p,0,none⟩=some (.string ⟨r.toArray⟩)
 c3:W.cell? ⟨p,3,none⟩=some (.string ⟨nm.toArray⟩)
 c4:W.cell? ⟨p,4,none⟩=some (.string ⟨k.toArray⟩)
 c5:W.cell? ⟨p,5,none⟩=some (.string ⟨d.toArray⟩)
 c6:W.cell? ⟨p,6,none⟩=some (.bool hk)
 c7:W.cell? ⟨p,7,none⟩=some (.bool hd)
 f0:W.frozen? ⟨p,0,none⟩=false
 f3:W.frozen? ⟨p,3,none⟩=false
 f4:W.frozen? ⟨p,4,none⟩=false
 f5:W.frozen? ⟨p,5,none⟩=false
 f6:W.frozen? ⟨p,6,none⟩=false
 f7:W.frozen? ⟨p,7,none⟩=false
theorem RB.rc(h:RB d a b l X n e i):RC d a b l X n e i:=
 ⟨tH _ _ 0 _ _ _ h,tH _ _ 3 _ _ _ h,tH _ _ 4 _ _ _ h,tH _ _ 5 _ _ _ h,tH _ _ 6 _ _ _ h,tH _ _ 7 _ _ _ h,
  aF _ _ 0 _ _ h,aF _ _ 3 _ _ h,aF _ _ 4 _ _ h,aF _ _ 5 _ _ h,aF _ _ 6 _ _ h,aF _ _ 7 _ _ h⟩
theorem RB.lt(h:RB d a b l X n e i):a<d.heap.size:=aV h.rc.c0
theorem RB.next{W W':aaK}(h:RB W a b l X n e i)(c:Below W.heap.size W W'):RB W' a b l X n e i:=(c.block a h.lt).t h
theorem RB.zG(h:RB d a b l X n e i)(x:Bs):RB (d.setCell ⟨a,0,none⟩ (.string ⟨x.toArray⟩)) a x l X n e i:=aw (j:=0) h
theorem RB.Gp(h:RB d a b l X n e i)(x:Bs):RB (d.setCell ⟨a,3,none⟩ (.string ⟨x.toArray⟩)) a b x X n e i:=aw (j:=3) h
theorem RB.WN(h:RB d a b l X n e i)(x:Bs):RB (d.setCell ⟨a,4,none⟩ (.string ⟨x.toArray⟩)) a b l x n e i:=aw (j:=4) h
theorem RB.xh(h:RB d a b l X n e i)(x:Bs):RB (d.setCell ⟨a,5,none⟩ (.string ⟨x.toArray⟩)) a b l X x e i:=aw (j:=5) h
theorem RB.WO(h:RB d a b l X n e i)(x:Bool):RB (d.setCell ⟨a,6,none⟩ (.bool x)) a b l X n x i:=aw (j:=6) h
theorem RB.WQ(h:RB d a b l X n e i)(x:Bool):RB (d.setCell ⟨a,7,none⟩ (.bool x)) a b l X n e x:=aw (j:=7) h
theorem Cl(r a:Bs)(q:UInt8→Bool)(h:(fun c=>a.contains c)=q):Lib.trimLeftS r a=r.dropWhile q:=by subst h;rfl
theorem Ph(r:Bs)(q:UInt8→Bool):(r.dropWhile q).length≤r.length∧((r.length:Int)-(r.dropWhile q).length).toNat=lead q r∧(r.length:Int)-(r.dropWhile q).length=lead q r∧lead q r≤r.length:=by
 have b:=iV q r;have a:=cz q r;have c:(r.dropWhile q).length=r.length-lead q r:=by rw[←a,bK]
 omega
theorem yt(r:Bs)(n:Nat):((⟨r.toArray⟩:aaM).extract 0 n)=⟨(r.take n).toArray⟩:=by apply uG;apply Array.ext';rw[cf];simp
theorem ic(r:Bs)(n m:Nat)(h:r.length≤m):((⟨r.toArray⟩:aaM).extract n m)=⟨(r.drop n).toArray⟩:=by apply uG;apply Array.ext';rw[cf];simp;rw[oe (by rw[bK];omega)]
theorem Pj(p:Nat)(r nm k d:Bs)(B A:Bool)(a:aaM)(q:UInt8→Bool)(w:aaK)(hq:(fun c=>a.data.toList.contains c)=q)(J:a.size<4294967281)(z:∀(j:Nat) b,a.data.toList[j]? =some b→b.toNat<128)(M:r.length≤100000000)(n:RB w p r nm k d B A):
 Calls Tryz.prog 230 #[.pointer (some ⟨p,0,none⟩),.string a] w fun e w'=>e=.returned (.string ⟨(r.takeWhile q).toArray⟩)∧RB w' p (r.dropWhile q) nm k d B A∧ak p w w':=by
 obtain⟨n1,n2,C,N⟩:=Ph r q;have l:=n.rc.c0;have x:=ad n;have F:=ad hq;have D:=ad z;have i:=ad (show w.drew.cell? ⟨p,0,none⟩=some (.string ⟨r.toArray⟩) from l);clear n hq z;have K:IntKind.i64.wrap ((r.length:Int)-(r.dropWhile q).length)=lead q r:=by rw[C];exact IntWalk.i64_in _ (by omega)
 clear n2 C;go_enter Tryz.func230,Tryz.ntmps230;go_wp2_with fail;clear l
 go_region_held3 (fun w'=>w'.cell? ⟨p,0,none⟩=some (.string ⟨r.toArray⟩)) (first|with_reducible exact y.o|with_reducible exact i.o)
  (first
   |(go_at_call 79;refine(fw _ a _ J D.o).m ?_;rintro e O⟨rfl,u⟩;rw[Cl _ _ q F.o];have y:=ad ((((eR u).1 _ 0 (aV i.o))).t i.o)))
 have s:=kt u;have h:=x.o.next s;have l:=h.rc.c0;have L:=h.rc.f0;have G:=ad (ak.ai (p:=p) s);have E:=ad h;clear y i u s h x K;go_wp2;go_ret;have I:=G.o;have H:=E.o;rw[yt,cU,ic _ _ _ (ag _),cz];exact⟨rfl,H.zG _,I.set⟩
theorem Pk(p:Nat)(r nm k d:Bs)(x s:Bool)(c:UInt8)(w:aaK)(t:Good w)(B:r.length≤100000000)(h:RB w p r nm k d x s):
 Calls Tryz.prog 233 #[.pointer (some ⟨p,0,none⟩),.string ⟨#[c]⟩] w fun e w'=>e=.returned (.tuple #[.string ⟨(upto c r).toArray⟩,.bool (r.contains c)])∧RB w' p (bif r.contains c then past c r else r) nm k d x s∧ak p w w':=by
 have y:=h.rc.c0;have j:=ad h;clear h;go_enter Tryz.func233,Tryz.ntmps233;go_wp2_with fail;refine(fI ⟨r.toArray⟩ c _ t (by simp[ByteArray.size];omega)).m ?_;rintro e D⟨rfl,i⟩;have a:=j.o.next i;have A:=a.rc.f0;have C:=a.rc.c0;have n:=ad (ak.ai (p:=p) i);have l:=ad a;have u:hasB c (⟨r.toArray⟩:aaM).data.toList=r.contains c:=rfl;rw[u];clear u y j i a t;rcases q:r.contains c with _|_
 ·have b:=ad q;go_wp2;go_ret2;rw[b.o];exact⟨rfl,l.o,n.o⟩
 ·have b:=ad q;go_wp2;go_ret2;have z:=n.o;rw[b.o];exact⟨rfl,l.o.zG _,z.set⟩
theorem Sz(p:Nat)(r nm k d:Bs)(h c:Bool)(w:aaK)(s:r.length≤100000000)(l:RB w p r nm k d h c):
 Calls Tryz.prog 191 #[.pointer (some ⟨p,0,none⟩)] w fun e w'=>e=.returned (.bool (cD (r.takeWhile dt)))∧RB w' p (r.dropWhile dt) (r.takeWhile dt) k d h c∧ak p w w':=by
 have i:=ad l;clear l;go_enter Tryz.func191,Tryz.ntmps191;go_wp2_with fail;refine(Pj p r nm k d h c ⟨Pg.toArray⟩ dt _ LO (by decide) (ascii_of_all (by decide)) s i.o).m ?_;rintro e u⟨rfl,a,b⟩;have x:=a.rc.f3;have z:=a.rc.c3;have j:=ad a;have q:=ad b;clear a b i;have y:(u.setCell ⟨p,3,none⟩ (.string ⟨(r.takeWhile dt).toArray⟩)).cell? ⟨p,3,none⟩=some (.string ⟨(r.takeWhile dt).toArray⟩):=(j.o.Gp (r.takeWhile dt)).rc.c3;go_wp2_with fail;refine(GW ⟨(r.takeWhile dt).toArray⟩ _).m ?_;rintro e A⟨rfl,n⟩;go_wp2;go_ret;have b:=q.o;exact⟨rfl,(j.o.Gp _).next n,b.set.t (ak.ai n)⟩
def qk(p:Nat)(r nm d:Bs)(a:Bool)(w:aaK)(e:Ending)(w':aaK):Prop:=
 match ey r with
 |none=>e=.returned (.bool false)∧ak p w w'
 |some (k,b,c)=>e=.returned (.bool true)∧RB w' p c nm k d b a∧ak p w w'
theorem Ys(h:ey b=none)(c:ak a d s):qk a b l X e d (.returned (.bool false)) s:=by unfold qk;rw[h];exact⟨rfl,c⟩
theorem vz{c:Bs}(h:ey b=some (n,i,c))(j:RB s a c l n X i e)(m:ak a d s):qk a b l X e d (.returned (.bool true)) s:=by unfold qk;rw[h];exact⟨rfl,j,m⟩
theorem Ip(h:Lib.hasPrefix b [123]=false):ey b=some ([],false,b):=by unfold ey;rw[h];rfl
theorem Iq(h:Lib.hasPrefix b [123]=true)(a:(Lib.trimPrefix b [123]).contains 125=false):ey b=none:=by unfold ey;rw[h,a];rfl
theorem LQ(h:Lib.hasPrefix b [123]=true)(a:fJ (upto 125 (Lib.trimPrefix b [123]))=false):ey b=none:=by unfold ey;rw[h,a,CU];rfl
theorem Ir(h:Lib.hasPrefix b [123]=true)(a:(Lib.trimPrefix b [123]).contains 125=true)(c:fJ (upto 125 (Lib.trimPrefix b [123]))=true):ey b=some (upto 125 (Lib.trimPrefix b [123]),true,past 125 (Lib.trimPrefix b [123])):=by unfold ey;rw[h,a,c];rfl
theorem rd_key(p:Nat)(r nm d:Bs)(z:Bool)(w:aaK)(L:Good w)(M:0<p)(hr:r.length≤100000000)(c:RB w p r nm [] d false z):
 Calls Tryz.prog 192 #[.pointer (some ⟨p,0,none⟩)] w (qk p r nm d z w):=by
 have O:=c.rc.c0;have R:=c.rc.f0;have S:=c.rc.f6;have k:=ad c;have D:=ad L;clear c L;go_enter Tryz.func192,Tryz.ntmps192;go_wp2_with fail;refine(il ⟨r.toArray⟩ ⟨#[123]⟩ _).m ?_;rintro e w1⟨rfl,rfl⟩;have b:Lib.hasPrefix (⟨r.toArray⟩:aaM).data.toList (⟨#[123]⟩:aaM).data.toList=Lib.hasPrefix r [123]:=rfl;have H:Lib.trimPrefix (⟨r.toArray⟩:aaM).data.toList (⟨#[123]⟩:aaM).data.toList=Lib.trimPrefix r [123]:=rfl;rw[b,H];clear b H;rcases l:Lib.hasPrefix r [123] with _|_
 ·have a:=ad l;go_wp2;go_ret;exact vz (Ip a.o) k.o (ak.refl _ _)
 ·have a:=ad l;have Z:=fK l;have T:=(k.o.zG (Lib.trimPrefix r [123])).rc.f6;have V:=(k.o.zG (Lib.trimPrefix r [123])).rc.c6;clear l;go_wp2_with fail;have A:=(k.o.zG (Lib.trimPrefix r [123])).WO true;have u:ak p w ((w.setCell ⟨p,0,none⟩ (.string ⟨(Lib.trimPrefix r [123]).toArray⟩)).setCell ⟨p,6,none⟩ (.bool true)):=(ak.refl p w).set.set;generalize(w.setCell ⟨p,0,none⟩ (.string ⟨(Lib.trimPrefix r [123]).toArray⟩)).setCell ⟨p,6,none⟩ (.bool true)=X at*;have F:=ad u;have E:=ad (D.o.aN u M);clear u O R S T V;refine(Pk p (Lib.trimPrefix r [123]) nm [] d true z 125 _ E.o (by omega) A).m ?_;rintro e w3⟨rfl,h,x⟩;have Y:=h.rc.f4;have k4:=h.rc.c4;have s:=ad (F.o.t x);have W:=ad (D.o.aN (F.o.t x) M);have B:=ad h;clear A h x E;rcases I:(Lib.trimPrefix r [123]).contains 125 with _|_
  ·have i:=ad I;go_wp2;go_ret;exact Ys (Iq a.o i.o) (s.o.set)
  ·have i:=ad I;have hu:=oZ 125 (Lib.trimPrefix r [123]);have n:=B.o.WN (upto 125 (Lib.trimPrefix r [123]));have Q:=n.rc.c4;have C:=ad n;clear n;go_wp2_with fail;refine(yv ⟨(upto 125 (Lib.trimPrefix r [123])).toArray⟩ _ (by simp[ByteArray.size];omega)).m ?_;rintro e w5⟨rfl,y⟩;have b:fJ (⟨(upto 125 (Lib.trimPrefix r [123])).toArray⟩:aaM).data.toList=fJ (upto 125 (Lib.trimPrefix r [123])):=rfl;rw[b];clear b;have G:=ad ((s.o.set (j:=4) (v:=.string ⟨(upto 125 (Lib.trimPrefix r [123])).toArray⟩)).t (ak.ai y));have N:=ad (C.o.next y);clear y Q s B C;rcases J:fJ (upto 125 (Lib.trimPrefix r [123])) with _|_
   ·have q:=ad J;go_wp2;go_ret;exact Ys (LQ a.o q.o) G.o
   ·have q:=ad J;go_wp2;go_ret;have K:=N.o;rw[i.o] at K;exact vz (Ir a.o i.o q.o) K G.o
end Go.Proofs.YtlemddnecmmfgaaGreatDoor
namespace Go.Proofs.YtlemddnecmmfgaaGreatDoor
open Go.RowKit
variable{e i:Bool}{b l X n:Bs}{a:Nat}{d s:aaK}
attribute[local go_sem↓] Go.wp_at_zero Go.wp_at_succ
theorem UH(p:Nat)(r nm k d:Bs)(i h:Bool)(w:aaK)(a:RB w p r nm k d i h):
 Calls Tryz.prog 194 #[.pointer (some ⟨p,0,none⟩)] w fun e w'=>e=.returned (.bool (Lib.hasPrefix r [41]))∧RB w' p (Lib.trimPrefix r [41]) nm k d i h∧ak p w w':=by
 have l:=a.rc.c0;have n:=a.rc.f0;have j:=ad a;clear a;go_enter Tryz.func194,Tryz.ntmps194;go_wp2_with fail;refine(il ⟨r.toArray⟩ ⟨#[41]⟩ _).m ?_;rintro e q⟨rfl,rfl⟩;have b:Lib.hasPrefix (⟨r.toArray⟩:aaM).data.toList (⟨#[41]⟩:aaM).data.toList=Lib.hasPrefix r [41]:=rfl;have c:Lib.trimPrefix (⟨r.toArray⟩:aaM).data.toList (⟨#[41]⟩:aaM).data.toList=Lib.trimPrefix r [41]:=rfl;rw[b,c];clear b c;go_wp2;go_ret;exact⟨rfl,j.o.zG _,(ak.refl _ _).set⟩
def ql(p:Nat)(r nm k:Bs)(b:Bool)(w:aaK)(e:Ending)(w':aaK):Prop:=
 match gm r with
 |none=>e=.returned (.bool false)∧ak p w w'
 |some (d,a,c)=>e=.returned (.bool true)∧RB w' p c nm k d b a∧ak p w w'
theorem yw(h:gm b=none)(c:ak a d s):ql a b l X e d (.returned (.bool false)) s:=by unfold ql;rw[h];exact⟨rfl,c⟩
theorem pA{c:Bs}(h:gm b=some (X,e,c))(j:RB s a c l n X i e)(m:ak a d s):ql a b l n i d (.returned (.bool true)) s:=by unfold ql;rw[h];exact⟨rfl,j,m⟩
theorem Is(h:Lib.hasPrefix b [124]=false):gm b=some ([],false,b):=by unfold gm;rw[h];rfl
theorem ZJ(h:Lib.hasPrefix b [124]=true):gm b=lp (Lib.trimPrefix b [124]):=by unfold gm;rw[h];rfl
theorem It(h:Lib.hasPrefix b [39]=true)(a:(Lib.trimPrefix b [39]).contains 39=false):lp b=none:=by unfold lp;rw[h,a];rfl
theorem Iu(h:Lib.hasPrefix b [39]=true)(a:(Lib.trimPrefix b [39]).contains 39=true):lp b=some (upto 39 (Lib.trimPrefix b [39]),true,past 39 (Lib.trimPrefix b [39])):=by unfold lp;rw[h,a];rfl
theorem Iv(h:Lib.hasPrefix b [39]=false)(a:(b.takeWhile XC).isEmpty=true):lp b=none:=by unfold lp;rw[h,a];rfl
theorem Iw(h:Lib.hasPrefix b [39]=false)(a:(b.takeWhile XC).isEmpty=false):lp b=some (b.takeWhile XC,true,b.dropWhile XC):=by unfold lp;rw[h,a];rfl
theorem Pf(p:Nat)(r nm k:Bs)(A:Bool)(w:aaK)(M:Good w)(N:0<p)(hr:r.length≤100000000)(z:RB w p r nm k [] A false):
 Calls Tryz.prog 193 #[.pointer (some ⟨p,0,none⟩)] w (ql p r nm k A w):=by
 have T:=z.rc.c0;have V:=z.rc.f0;have i:=ad z;have D:=ad M;clear z M;go_enter Tryz.func193,Tryz.ntmps193;go_wp2_with fail;refine(il ⟨r.toArray⟩ ⟨#[124]⟩ _).m ?_;rintro e w1⟨rfl,rfl⟩;have l:Lib.hasPrefix (⟨r.toArray⟩:aaM).data.toList (⟨#[124]⟩:aaM).data.toList=Lib.hasPrefix r [124]:=rfl;have n:Lib.trimPrefix (⟨r.toArray⟩:aaM).data.toList (⟨#[124]⟩:aaM).data.toList=Lib.trimPrefix r [124]:=rfl;rw[l,n];clear l n;rcases y:Lib.hasPrefix r [124] with _|_
 ·have d:=ad y;go_wp2;go_ret;exact pA (Is d.o) i.o (ak.refl _ _)
 ·have d:=ad (ZJ y);have hl:=fK y;have Y:=(i.o.zG (Lib.trimPrefix r [124])).rc.f7;have Z:=(i.o.zG (Lib.trimPrefix r [124])).rc.c7;clear y;go_wp2_with fail;have x:=(i.o.zG (Lib.trimPrefix r [124])).WQ true;have B:ak p w ((w.setCell ⟨p,0,none⟩ (.string ⟨(Lib.trimPrefix r [124]).toArray⟩)).setCell ⟨p,7,none⟩ (.bool true)):=(ak.refl p w).set.set;generalize(w.setCell ⟨p,0,none⟩ (.string ⟨(Lib.trimPrefix r [124]).toArray⟩)).setCell ⟨p,7,none⟩ (.bool true)=W2 at*;have F:=ad B;have aa:=ad (D.o.aN B N);have O:=x.rc.c0;have Q:=x.rc.f0;have C:=ad x;clear B T V Y Z x i;generalize Lib.trimPrefix r [124]=q at*;refine(il ⟨q.toArray⟩ ⟨#[39]⟩ _).m ?_;rintro e w1⟨rfl,rfl⟩;have l:Lib.hasPrefix (⟨q.toArray⟩:aaM).data.toList (⟨#[39]⟩:aaM).data.toList=Lib.hasPrefix q [39]:=rfl;have n:Lib.trimPrefix (⟨q.toArray⟩:aaM).data.toList (⟨#[39]⟩:aaM).data.toList=Lib.trimPrefix q [39]:=rfl;rw[l,n];clear l n;rcases s:Lib.hasPrefix q [39] with _|_
  ·have h:=ad s;clear s;go_wp2_with fail;refine(Pj p q nm k [] A true ⟨JY.toArray⟩ XC _ Il (by decide) (ascii_of_all (by decide)) (by omega) C.o).m ?_;rintro e w3⟨rfl,c,J⟩;have W:=c.rc.c5;have X:=c.rc.f5;have a:=c.xh (q.takeWhile XC);have n5:=a.rc.c5;have H:=ad ((F.o.t J).set (j:=5) (v:=.string ⟨(q.takeWhile XC).toArray⟩));have R:=ad a;clear c J a O Q;rcases u:(q.takeWhile XC).isEmpty with _|_
   ·have b:=ad u;go_wp2;go_ret;exact pA (d.o.t (Iw h.o b.o)) R.o H.o
   ·have b:=ad u;go_wp2;go_ret;exact yw (d.o.t (Iv h.o b.o)) H.o
  ·have h:=ad s;have ab:=fK s;clear s;go_wp2_with fail;have c:=C.o.zG (Lib.trimPrefix q [39]);have G:=ad (F.o.set (j:=0) (v:=.string ⟨(Lib.trimPrefix q [39]).toArray⟩));have E:=ad (D.o.aN G.o N);refine(Pk p (Lib.trimPrefix q [39]) nm k [] A true 39 _ E.o (by omega) c).m ?_;rintro e w4⟨rfl,a,K⟩;have W:=a.rc.c5;have X:=a.rc.f5;have I:=ad ((G.o.t K).set (j:=5) (v:=.string ⟨(upto 39 (Lib.trimPrefix q [39])).toArray⟩));have S:=ad (a.xh (upto 39 (Lib.trimPrefix q [39])));clear c a K O Q E;rcases u:(Lib.trimPrefix q [39]).contains 39 with _|_
   ·have b:=ad u;go_wp2;go_ret;exact yw (d.o.t (It h.o b.o)) I.o
   ·have b:=ad u;go_wp2;go_ret;have L:=S.o;rw[b.o] at L;exact pA (d.o.t (Iu h.o b.o)) L I.o
theorem index_none:∀(s:Bs),Lib.index s [36,40]=-1→∀i,gI (s.drop i)=false
 |[],h,i=>by rw[List.drop_nil];rfl
 |c::s,h,i=>by
  unfold Lib.index at h;by_cases a:([36,40]:Bs).isPrefixOf (c::s)=true
  ·rw[ah a] at h;cases h
  ·rw[ae a] at h;cases i with
   |zero=>rw[Bool.not_eq_true] at a;exact a
   |succ i=>
    refine index_none s ?_ i;by_cases b:(Lib.index s [36,40]==-1)=true
    ·exact eq_of_beq b
    ·rw[ae b] at h;have:=Lib.index_ge s [36,40];omega
theorem yx:∀(s:Bs) (j:Nat),Lib.index s [36,40]=(j:Int)→gI (s.drop j)=true∧∀i,i<j→gI (s.drop i)=false
 |[],j,h=>by unfold Lib.index at h;rw[ae (by decide)] at h;omega
 |c::s,j,h=>by
  unfold Lib.index at h;by_cases a:([36,40]:Bs).isPrefixOf (c::s)=true
  ·rw[ah a] at h;obtain rfl:j=0:=by omega
   exact⟨a,fun i l=>by omega⟩
  ·rw[ae a] at h;by_cases b:(Lib.index s [36,40]==-1)=true
   ·rw[ah b] at h;omega
   ·rw[ae b] at h;have m:=Lib.index_ge s [36,40];have n:Lib.index s [36,40]≠-1:=fun e=>b (by rw[e];rfl);cases j with
    |zero=>omega
    |succ j=>
     obtain⟨d,k⟩:=yx s j (by omega);refine⟨d,fun i l=> ?_⟩;cases i with
     |zero=>rw[Bool.not_eq_true] at a;exact a
     |succ i=>exact k i (by omega)
theorem rJ{s:Bs}{i:Nat}:∀(j:Nat),(∀m,m<j→gI (s.drop (i+m))=false)→cv s i=cv s (i+j)
 |0,_=>rfl
 |j+1,h=>by rw[rJ j (fun m a=>h m (by omega)),nO (py (h j (by omega)))];rfl
theorem yp(h:Lib.index (b.drop a) [36,40]=-1):cv b a=none:=by have:=rJ (s:=b) (i:=a) b.length (fun m _=>by rw[←fh];exact index_none _ h m);rw[this];exact yq (by omega)
theorem zF{i j:Nat}(h:Lib.index (b.drop i) [36,40]=(j:Int)):cv b i=cv b (i+j)∧gI (b.drop (i+j))=true∧i+j+2≤b.length:=by obtain⟨a,c⟩:=yx _ _ h;rw[fh] at a;refine⟨rJ j (fun m d=>by have:=c m d;rw[fh] at this;exact this),a, ?_⟩;have:=gL a;rw[bK] at this;simp at this;omega
end Go.Proofs.YtlemddnecmmfgaaGreatDoor
namespace Go.Proofs.YtlemddnecmmfgaaGreatDoor
open Go.RowKit
variable{b:Bs}{K:Ex}{h:Int}{F:List Ex}{r:List aaL}{a e:Nat}{d:Nat→Prop}{n:TypeId}{q:aaL}
abbrev dC(k:Int)(t:Bs)(u:bc)(kv:aaL):List aaL:=[.int .i64 k,.string ⟨t.toArray⟩,.int .i64 u.src,.int .i64 u.bJ,.string ⟨u.name.toArray⟩,.string ⟨u.key.toArray⟩,.string ⟨u.cK.toArray⟩,.bool u.hk,.bool u.hd,kv]
abbrev dY(k:Int)(t:Bs)(u:bc)(kv:aaL):aaL:=.agg #[.int .i64 k,.string ⟨t.toArray⟩,.int .i64 u.src,.int .i64 u.bJ,.string ⟨u.name.toArray⟩,.string ⟨u.key.toArray⟩,.string ⟨u.cK.toArray⟩,.bool u.hk,.bool u.hd,kv]
def eI(W:aaK)(b o:Nat)(l:List aaL):Prop:=∀(j:Nat) (u:aaL),l[j]? =some u→W.cell? ⟨b,o+j,none⟩=some u
theorem eI.cO{W W':aaK}(h:eI W a e r)(c:W'.heap[a]? =W.heap[a]?):eI W' a e r:=fun j u d=>by have:=h j u d;unfold World.cell? at this⊢;show(match W'.heap[a]? with|_=>_)=_;rw[c];exact this
mutual
def dR (A:Nat→Prop) (W:aaK):Ex→aaL→Prop
 |.mk k t u l,v=>∃kv,v=dY k t u kv∧((l=[]∧∃a c,kv=.slice a 0 c)∨∃b o c,kv=.slice (some ⟨b,o,none⟩) l.length c∧l.length≤c∧A b∧b<W.heap.size∧gn A W l b o)
def gn (A:Nat→Prop) (W:aaK):List Ex→Nat→Nat→Prop
 |[],_,_=>True
 |x::r,b,o=>(∃cs,dR A W x (.agg cs)∧eI W b o cs.toList)∧gn A W r b (o+10)
end
def PH(A:Nat→Prop)(W:aaK)(l:List Ex)(kv:aaL):Prop:=(l=[]∧∃a c,kv=.slice a 0 c)∨∃b o c,kv=.slice (some ⟨b,o,none⟩) l.length c∧l.length≤c∧A b∧b<W.heap.size∧gn A W l b o
theorem pH{W:aaK}{u:bc}{v:aaL}:dR d W (.mk h b u F) v↔∃kv,v=dY h b u kv∧PH d W F kv:=by rw[dR];rfl
theorem lr{W:aaK}:gn d W (K::F) a e↔(∃c,dR d W K (.agg c)∧eI W a e c.toList)∧gn d W F a (e+10):=by rw[gn]
theorem Bc{W:aaK}:gn d W [] a e:=by rw[gn];trivial
mutual
theorem kG {A:Nat→Prop} {W W':aaK} (hs:W.heap.size≤W'.heap.size) (hk:∀b,A b→b<W.heap.size→W'.heap[b]? =W.heap[b]?):∀(x:Ex) (v:aaL),dR A W x v→dR A W' x v
 |.mk k t u l,v,h=>by
  rw[dR] at h⊢;obtain⟨kv,hv,h⟩:=h;refine⟨kv,hv, ?_⟩;rcases h with h|⟨b,o,c,h1,h2,h3,h4,h5⟩
  ·exact .inl h
  ·exact .inr ⟨b,o,c,h1,h2,h3,ej h4 hs,yF hs hk l b o h3 h4 h5⟩
theorem yF {A:Nat→Prop} {W W':aaK} (hs:W.heap.size≤W'.heap.size) (hk:∀b,A b→b<W.heap.size→W'.heap[b]? =W.heap[b]?):∀(l:List Ex) (b o:Nat),A b→b<W.heap.size→gn A W l b o→gn A W' l b o
 |[],_,_,_,_,_=>by rw[gn];trivial
 |x::r,b,o,h1,h2,h=>by rw[gn] at h⊢;obtain⟨⟨cs,h3,h4⟩,h5⟩:=h;exact⟨⟨cs,kG hs hk x _ h3,h4.cO (hk b h1 h2)⟩,yF hs hk r b (o+10) h1 h2 h5⟩
end
theorem dR.next{W W':aaK}{v:aaL}(h:dR d W K v)(a:Below W.heap.size W W'):dR d W' K v:=kG a.size (fun b _ h=>a.block b h) K v h
theorem dR.aN{p:Nat}{W W':aaK}{v:aaL}(h:dR d W K v)(a:ak p W W')(j:¬d p):dR d W' K v:=
 kG a.size (fun b c i=>a.block b i (by intro e;cases e;exact j c)) K v h
mutual
theorem jJ {A A':Nat→Prop} {W:aaK} (hl:∀b,b<W.heap.size→A b→A' b):∀(x:Ex) (v:aaL),dR A W x v→dR A' W x v
 |.mk k t u l,v,h=>by
  rw[dR] at h⊢;obtain⟨kv,hv,h⟩:=h;refine⟨kv,hv, ?_⟩;rcases h with h|⟨b,o,c,h1,h2,h3,h4,h5⟩
  ·exact .inl h
  ·exact .inr ⟨b,o,c,h1,h2,hl b h4 h3,h4,Fb hl l b o h5⟩
theorem Fb {A A':Nat→Prop} {W:aaK} (hl:∀b,b<W.heap.size→A b→A' b):∀(l:List Ex) (b o:Nat),gn A W l b o→gn A' W l b o
 |[],_,_,_=>by rw[gn];trivial
 |x::r,b,o,h=>by rw[gn] at h⊢;obtain⟨⟨cs,h3,h4⟩,h5⟩:=h;exact⟨⟨cs,jJ hl x _ h3,h4⟩,Fb hl r b (o+10) h5⟩
end
theorem XD(A:Nat→Prop)(W:aaK)(k:Int)(t:Bs)(u:bc):dR A W (.mk k t u []) (dY k t u (.slice none 0 0)):=pH.2 ⟨_,rfl,.inl ⟨rfl,_,_,rfl⟩⟩
theorem Cr(A:Nat→Prop)(W:aaK):dR A W sF (dY 0 [] aC (.slice none 0 0)):=XD A W 0 [] aC
def Cs(v:aaL):Prop:=∃k t u a n c,v=dY k t u (.slice a n c)
theorem dR.F4{W:aaK}{v:aaL}(h:dR d W K v):Cs v:=by
 obtain⟨k,t,u,l⟩:=K;obtain⟨kv,rfl,e⟩:=pH.1 h;rcases e with⟨_,a,c,rfl⟩|⟨b,o,c,rfl,_⟩
 ·exact⟨_,_,_,_,_,_,rfl⟩
 ·exact⟨_,_,_,_,_,_,rfl⟩
theorem pI{W:aaK}{c:Array aaL}(h:W.heap[a]? =some (.cells c n))(d:∀j u,r[j]? =some u→c[e+j]? =some u):eI W a e r:=fun j u i=>(tH _ _ _ _ _ _ h).t (d j u i)
theorem PI{W:aaK}{u1:bc}(k:Int)(i:dR d W K (dY h b u1 q))(a:d W.heap.size):
 dR d (W.alloc (.cells (dC h b u1 q).toArray n)) (ry k K) (dY k [] aC (.slice (some ⟨W.heap.size,0,none⟩) 1 1)):=by
 have c:=au W (.cells (dC h b u1 q).toArray n);refine pH.2 ⟨_,rfl,.inr ⟨W.heap.size,0,1,rfl,ag _,a,by rw[aO];omega, ?_⟩⟩;rw[lr];exact⟨⟨_,i.next ((ar _ _).alloc (ag _) _),pI c (fun j u e=>by simpa using e)⟩,Bc⟩
theorem Fc{W:aaK}{y:Ex}{c:Int}{i:Bs}{u1 u2:bc}{e:aaL}{T:TypeId}(k:Int)(o:dR d W K (dY h b u1 q))(p:dR d W y (dY c i u2 e))(n:d W.heap.size):
 dR d (W.alloc (.cells (dC h b u1 q++dC c i u2 e).toArray T)) (oA k K y) (dY k [] aC (.slice (some ⟨W.heap.size,0,none⟩) 2 2)):=by
 have m:=au W (.cells (dC h b u1 q++dC c i u2 e).toArray T);have l:=(ar W.heap.size W).alloc (ag _) (.cells (dC h b u1 q++dC c i u2 e).toArray T);refine pH.2 ⟨_,rfl,.inr ⟨W.heap.size,0,2,rfl,ag _,n,by rw[aO];omega, ?_⟩⟩;rw[lr,lr];refine⟨⟨_,o.next l,pI m (fun j u a=> ?_)⟩,⟨_,p.next l,pI m (fun j u a=> ?_)⟩,Bc⟩
 ·rw[List.getElem?_toArray,dH,qC (cH.1 a).1];exact a
 ·rw[List.getElem?_toArray,dH,jL (by simp)];simpa using a
def PB(W:aaK)(p:Nat)(s:Bs)(i op:Nat)(bad:Int):Prop:=W.heap[p]? =some (.cells #[.string ⟨s.toArray⟩,.int .i64 (i:Int),.int .i64 (op:Int),.int .i64 bad] 199)
structure PC (W:aaK) (p:Nat) (s:Bs) (i op:Nat) (bad:Int):Prop where
 c0:W.cell? ⟨p,0,none⟩=some (.string ⟨s.toArray⟩)
 c1:W.cell? ⟨p,1,none⟩=some (.int .i64 (i:Int))
 c2:W.cell? ⟨p,2,none⟩=some (.int .i64 (op:Int))
 c3:W.cell? ⟨p,3,none⟩=some (.int .i64 bad)
 f0:W.frozen? ⟨p,0,none⟩=false
 f1:W.frozen? ⟨p,1,none⟩=false
 f2:W.frozen? ⟨p,2,none⟩=false
 f3:W.frozen? ⟨p,3,none⟩=false
section
variable{W W':aaK}{p:Nat}{s:Bs}{i op:Nat}{bad:Int}
theorem PB.pc(h:PB W p s i op bad):PC W p s i op bad:=
 ⟨tH _ _ 0 _ _ _ h,tH _ _ 1 _ _ _ h,tH _ _ 2 _ _ _ h,tH _ _ 3 _ _ _ h,aF _ _ 0 _ _ h,aF _ _ 1 _ _ h,aF _ _ 2 _ _ h,aF _ _ 3 _ _ h⟩
theorem PB.lt(h:PB W p s i op bad):p<W.heap.size:=aV h.pc.c0
theorem PB.next(h:PB W p s i op bad)(a:Below W.heap.size W W'):PB W' p s i op bad:=(a.block p h.lt).t h
theorem PB.iD(h:PB W p s i op bad)(x:Nat):PB (W.setCell ⟨p,1,none⟩ (.int .i64 (x:Int))) p s x op bad:=aw (j:=1) h
theorem PB.Dz(h:PB W p s i op bad)(x:Nat):PB (W.setCell ⟨p,2,none⟩ (.int .i64 (x:Int))) p s i x bad:=aw (j:=2) h
theorem PB.Gp(h:PB W p s i op bad)(x:Int):PB (W.setCell ⟨p,3,none⟩ (.int .i64 x)) p s i op x:=aw (j:=3) h
end
end Go.Proofs.YtlemddnecmmfgaaGreatDoor
namespace Go.Proofs.YtlemddnecmmfgaaGreatDoor
open Go.RowKit
variable{K:Ex}{F:List Ex}{p j:Nat}{e:Nat→Prop}{d s:aaK}{q:aaL}
abbrev VW(u:bc):aaL:=.agg #[.int .i64 u.src,.int .i64 u.bJ,.string ⟨u.name.toArray⟩,.string ⟨u.key.toArray⟩,.string ⟨u.cK.toArray⟩,.bool u.hk,.bool u.hd]
structure BW (W:aaK) where
 val:aaK
 below:Below W.heap.size W val
theorem bwX{a:Array aaL}{t:TypeId}{c:Nat×Nat}(b:d.heap[p]? =some (.cells a t c))(j:Nat):∀B:BW d,B.val.cell? ⟨p,j,none⟩=a[j]? :=fun B=>tH _ _ j _ _ _ ((B.below.block _ (aB.1 b).1).t b)
theorem Bb{A:Nat→Prop}{W:aaK}:∀{l:List Ex} {b o i:Nat} {x:Ex},gn A W l b o→l[i]? =some x→∃a,dR A W x (.agg a)∧eI W b (o+i*10) a.toList
 |[],_,_,_,_,_,h=>by simp at h
 |y::r,b,o,0,x,h,c=>by simp at c;subst c;rw[lr] at h;exact h.1
 |y::r,b,o,i+1,x,h,c=>by rw[lr] at h;obtain⟨a,d,e⟩:=Bb h.2 (by simpa using c);exact⟨a,d,by rw[show o+(i+1)*10=o+10+i*10 by omega];exact e⟩
theorem fS{k:Int}{t:Bs}{u:bc}(h:eI d p j (dC k t u q)):
 d.cell? ⟨p,j,none⟩=some (.int .i64 k)∧d.cell? ⟨p,j+1,none⟩=some (.string ⟨t.toArray⟩)∧d.cell? ⟨p,j+2,none⟩=some (.int .i64 u.src)∧d.cell? ⟨p,j+3,none⟩=some (.int .i64 u.bJ)∧d.cell? ⟨p,j+4,none⟩=some (.string ⟨u.name.toArray⟩)∧d.cell? ⟨p,j+5,none⟩=some (.string ⟨u.key.toArray⟩)∧d.cell? ⟨p,j+6,none⟩=some (.string ⟨u.cK.toArray⟩)∧d.cell? ⟨p,j+7,none⟩=some (.bool u.hk)∧d.cell? ⟨p,j+8,none⟩=some (.bool u.hd)∧d.cell? ⟨p,j+9,none⟩=some q:=
 ⟨h 0 _ rfl,h 1 _ rfl,h 2 _ rfl,h 3 _ rfl,h 4 _ rfl,h 5 _ rfl,h 6 _ rfl,h 7 _ rfl,h 8 _ rfl,h 9 _ rfl⟩
theorem BW.next(B:BW d)(a:Below B.val.heap.size B.val s):Below d.heap.size d s:=B.below.t (a.m B.below.size)
structure VX (W:aaK) (b o:Nat) (x:Ex) (k:Int) (t:Bs) (u:bc) (a:Option Addr) (n c:Nat):Prop where
 ex:∀B:BW W,dR (fun _=>True) B.val x (dY k t u (.slice a n c))
 c0:∀B:BW W,B.val.cell? ⟨b,o,none⟩=some (.int .i64 k)
 c1:∀B:BW W,B.val.cell? ⟨b,o+1,none⟩=some (.string ⟨t.toArray⟩)
 c2:∀B:BW W,B.val.cell? ⟨b,o+2,none⟩=some (.int .i64 u.src)
 c3:∀B:BW W,B.val.cell? ⟨b,o+3,none⟩=some (.int .i64 u.bJ)
 c4:∀B:BW W,B.val.cell? ⟨b,o+4,none⟩=some (.string ⟨u.name.toArray⟩)
 c5:∀B:BW W,B.val.cell? ⟨b,o+5,none⟩=some (.string ⟨u.key.toArray⟩)
 c6:∀B:BW W,B.val.cell? ⟨b,o+6,none⟩=some (.string ⟨u.cK.toArray⟩)
 c7:∀B:BW W,B.val.cell? ⟨b,o+7,none⟩=some (.bool u.hk)
 c8:∀B:BW W,B.val.cell? ⟨b,o+8,none⟩=some (.bool u.hd)
 c9:∀B:BW W,B.val.cell? ⟨b,o+9,none⟩=some (.slice a n c)
theorem dR.any{v:aaL}(h:dR e d K v):dR (fun _=>True) d K v:=jJ (fun _ _ _=>trivial) _ _ h
theorem nS{i:Nat}(h:gn e d F p j)(E:F[i]? =some K)(q:Below d.heap.size d s)(y:p<d.heap.size):
 ∃k t u a n c,VX s p (j+i*10) K k t u a n c:=by
 obtain⟨z,r,C⟩:=Bb h E;obtain⟨k,t,u,a,n,c,D⟩:=r.F4;obtain rfl:z=(dC k t u (.slice a n c)).toArray:=by injection D
 have m:∀B:BW s,eI B.val p (j+i*10) (dC k t u (.slice a n c)):=fun B=>C.cO ((B.below.block p (ej y q.size)).t (q.block p y));exact⟨k,t,u,a,n,c,fun B=>((r.any).next q).next B.below,fun B=>(fS (m B)).1,fun B=>(fS (m B)).2.1,fun B=>(fS (m B)).2.2.1,fun B=>(fS (m B)).2.2.2.1,fun B=>(fS (m B)).2.2.2.2.1,fun B=>(fS (m B)).2.2.2.2.2.1,fun B=>(fS (m B)).2.2.2.2.2.2.1,fun B=>(fS (m B)).2.2.2.2.2.2.2.1,fun B=>(fS (m B)).2.2.2.2.2.2.2.2.1,fun B=>(fS (m B)).2.2.2.2.2.2.2.2.2⟩
theorem PG(h:PH e d F q)(n:F[p]? =some K):∃b o c,q=.slice (some ⟨b,o,none⟩) F.length c∧F.length≤c∧b<d.heap.size∧gn e d F b o:=by
 rcases h with⟨rfl,_⟩|⟨b,o,c,a,j,r,k,m⟩
 ·simp at n
 ·exact⟨b,o,c,a,j,k,m⟩
end Go.Proofs.YtlemddnecmmfgaaGreatDoor
namespace Go.Proofs.YtlemddnecmmfgaaGreatDoor
open Go.RowKit
variable{K:Ex}{F:List Ex}{p j:Nat}{e:Nat→Prop}{d s:aaK}{q:aaL}
theorem yE{P:Program}(w:aaK)(base:Nat)(t m e:TypeId)(i:TypeInfo)(z:aaL)(size bytes:Nat)(r:P.underlying t=some (.slice e))(o:P.info? e=some i)(D:i.zero=some z)
 (C:i.size=size)(A:i.bytes=bytes)(I:z.cells.size=size)(H:0<size)
 (v:aaL)(n:Nat)(xs:List aaL)(l:w.ownsRow base e size v n xs)
 (a:Addr)(c:Nat)(news:List aaL)(h:news.length=1*size)(p:∀j u,news[j]? =some u→w.cell? (a.add j)=some u)(x:∀u∈news,u.oneCell'=true)
 (y:n+1≤maxLen)(B:(n+1)*bytes≤140737488355328)(L:base≤w.heap.size):
 ∃v' w',(Builtin.append_ #[t,t] m #[v,.slice (some a) 1 c]).run P w=.ok v' w'∧w'.ownsRow base e size v' (n+1) (xs++news)∧w.grownBy w' v.ownBlock∧(v'.ownBlock=v.ownBlock∨∃k,v'.ownBlock=some k∧w.heap.size≤k):=by
 obtain⟨v',w',q,J,K,R⟩:=run_append_own (P:=P) w base t m e i z size bytes r o D C A I H v n xs l a 1 c news h p x y B L;refine⟨v',w',q,J,K, ?_⟩;rcases l.2 with⟨rfl,rfl⟩|⟨g,cap,E,rfl,S,O,V,T,M,W⟩
 ·have Q:xs=[]:=jn (by simpa using l.1);subst Q;obtain⟨v2,X,b,F,_,_⟩:=run_append_own (P:=P) w w.heap.size t m e i z size bytes r o D C A I H (.slice none 0 0) 0 [] (jO w _ _ _) a 1 c news h p x y B (ag _);rw[q] at b;injection b with d s;subst d s;obtain⟨g,cap,rfl⟩:=se F;exact .inr ⟨g,rfl,(F.lt g rfl).1⟩
 ·subst C;subst A;by_cases G:n+1≤cap
  ·have N:n*i.size+news.length≤E.size:=by rw[h,M,←Nat.add_mul];exact Nat.mul_le_mul_right _ G
   have b:=run_append_room (P:=P) w t m e i r o g n cap E O a 1 c news h p x G N;rw[q] at b;injection b with d s;subst d;exact .inl rfl
  ·have holds:∀j u,xs[j]? =some u→w.cell? ((⟨g,0,none⟩:Addr).add j)=some u:=l.cells (g:=g) rfl;have b:=run_append_grow (P:=P) w t m e i z r o D ⟨g,0,none⟩ n cap xs l.1 holds a 1 c news h p (by omega) (by simp only[maxLen] at y;omega) (growslice_fits (by omega) B);rw[q] at b;injection b with d s;subst d;exact .inr ⟨w.heap.size,rfl,ag _⟩
theorem gM{P:Program}{ops:Array Oper}{o:Oper}{a:Act}{K:Act→aaK→Prop}{Q:Exit→Act→aaK→Prop}{E:Prop}(B:o.guard=none)(s x:Operand)(t:TypeId)
 (I:o.op=.call {callee:=.builtin .append,args:=#[s,x],argTypes:=#[t,t]})
 (e:TypeId)(z:aaL)(size bytes:Nat)(R:P.underlying t=some (.slice e))(D:(P.info? e).map (fun i=>(i.zero,i.size,i.bytes))=some (some z,size,bytes))
 (X:z.cells.size=size)(O:0<size)(base:Nat)(w:aaK)
 (v:aaL)(n:Nat)(xs:List aaL)(M:a.eval s=v)(J:w.ownsRow base e size v n xs)
 (b:List aaL)(S:d=w.alloc (.cells b.toArray e))(hl:b.length=size)(T:a.eval x=.slice (some ⟨w.heap.size,0,none⟩) 1 1)(p:∀u∈b,u.oneCell'=true)
 (A:(n+1)*bytes≤140737488355328)(Y:n+1≤140737488355328)(Z:base≤w.heap.size)
 (h:∀g cap w',w'.ownsRow base e size (.slice (some ⟨g,0,none⟩) (n+1) cap) (n+1) (xs++b)→(w.alloc (.cells b.toArray e)).grownBy w' v.ownBlock→(some g=v.ownBlock∨w.heap.size+1≤g)→
  K (a.put o.dst (.slice (some ⟨g,0,none⟩) (n+1) cap)) w'):
 if Region.wanted o (yielded ops a.tmps)=true then Oper.wp P o a d K Q else E:=by
 subst S;rw[ah (show Region.wanted o (yielded ops a.tmps)=true by simp[Region.wanted,B])];obtain⟨i,C,V,N,y⟩:=info_parts D;obtain⟨v',w',L,m,q,c⟩:=yE (P:=P) (w.alloc (.cells b.toArray e)) base t o.type e i z size bytes R C V N y X O v n xs (J.alloc _) ⟨w.heap.size,0,none⟩ 1 b (by omega) (by
  intro j u F;have G:b.toArray[j]? =some u:=by simpa using F
  have H:(w.alloc (.cells b.toArray e)).heap[w.heap.size]? =some (.cells b.toArray e):=au w _;have:((⟨w.heap.size,0,none⟩:Addr).add j)=⟨w.heap.size,j,none⟩:=by
   unfold Addr.add;by_cases l:j=0
   ·subst l;rfl
   ·rw[ae l];simp
  rw[this];unfold World.cell?;rw[show(w.alloc (.cells b.toArray e)).heap[(⟨w.heap.size,j,none⟩:Addr).block]? =_ from H];simpa using G) p (by unfold maxLen;omega) A (by simp;omega)
 unfold Oper.wp execOp;simp only[I,resolve,invoke,builtin,Sem.run_bind,Sem.run_pure,Result.andThen_ok,List.map_toArray,kg,List.map_nil,M,T,L];obtain⟨g,cap,rfl⟩:=se m;refine h g cap w' m q ?_;rcases c with c|⟨k,c,r⟩
 ·exact .inl c
 ·right;have:g=k:=by simpa[Value.ownBlock] using c
  subst this;rw[aO] at r;omega
end Go.Proofs.YtlemddnecmmfgaaGreatDoor
namespace Go.Proofs.YtlemddnecmmfgaaGreatDoor
open Go.RowKit
variable{K:Ex}{F:List Ex}{p j:Nat}{e:Nat→Prop}{d s:aaK}{q:aaL}
structure dX (W w':aaK) (b:Nat) (av av':aaL):Prop where
 size:W.heap.size≤w'.heap.size
 block:∀k,k<W.heap.size→k≠b→some k≠av.ownBlock→w'.heap[k]? =W.heap[k]?
 own:av'.ownBlock=av.ownBlock∨∃g,av'.ownBlock=some g∧W.heap.size≤g
theorem dX.refl(W:aaK)(b:Nat)(av:aaL):dX W W b av av:=⟨ag _,fun _ _ _ _=>rfl,.inl rfl⟩
theorem dX.next{a:aaK}{c:aaL}(H:dX d s p q c)(h:Below s.heap.size s a):dX d a p q c:=
 ⟨bP H.size h.size,fun k e i j=>(h.block k (ej e H.size)).t (H.block k e i j),H.own⟩
theorem dX.t{W c d:aaK}{b:Nat}{av h i:aaL}(H:dX W c b av h)(a:dX c d b h i):dX W d b av i:=by
 refine⟨bP H.size a.size,fun k j l m=> ?_, ?_⟩
 ·refine(a.block k (ej j H.size) l ?_).t (H.block k j l m);rcases H.own with e|⟨g,e,n⟩
  ·rw[e];exact m
  ·rw[e];intro o;cases o;omega
 ·rcases a.own with e|⟨g,e,n⟩
  ·rw[e];exact H.own
  ·exact .inr ⟨g,e,bP H.size n⟩
end Go.Proofs.YtlemddnecmmfgaaGreatDoor
namespace Go.Proofs.YtlemddnecmmfgaaGreatDoor
variable{D:Act}{a:Array Bool}{d:Exit→Act→aaK→Prop}{x:List Oper}{p:Nat}{N:Oper}{e:aaK}
section
variable{P:Program}{ops:Array Oper}{md:Region.Mode}{C:aaK→Prop}{n:Nat}{T:Act→Prop}
def US(md:Region.Mode)(ops:Array Oper)(n:Nat)(listed:Array Bool):Prop:=Region.ready md ops listed=[n]∧Region.ready md ops (listed.setIfInBounds n true)=[]
def XU(P:Program)(md:Region.Mode)(ops:Array Oper)(C:aaK→Prop)(n:Nat)(T:Act→Prop):Nat→Array Bool→Act→Prop
 |0,listed,a=>US md ops n listed∧T a
 |f+1,listed,a=>n∉Region.ready md ops listed∧Region.ready md ops listed≠[]∧∀i∈Region.ready md ops listed,qOp P ops C i (XU P md ops C n T f (listed.setIfInBounds i true)) a
theorem vC{Q:Exit→Act→aaK→Prop}(j:∀a w,T a→C w→wpOp P ops Q n (fun b w'=>Q .normal b w') a w):∀(f:Nat) (listed:Array Bool) (a:Act) (w:aaK),C w→XU P md ops C n T f listed a→wpAny P md ops Q (f+1) listed a w
 |0,listed,a,w,e,h=>by
  refine⟨fun c=>(by rw[h.1.1] at c;cases c),fun i d=> ?_⟩;rw[h.1.1] at d;obtain rfl:i=n:=by simpa using d
  exact wpOp_mono (fun b w' hq=>⟨h.1.2,hq⟩) (j a w h.2 e)
 |f+1,listed,a,w,e,h=>⟨fun c=>absurd c h.2.1,fun i d=>wpOp_of_qOp e (fun b w' l k=>vC j f _ b w' l k) (h.2.2 i d)⟩
def yI(md:Region.Mode)(ops:Array Oper)(listed:Array Bool):Prop:=∀j a,ops[j]? =some a→listed.getD j false=true→∀e∈a.after,Region.binds md e=true→listed.getD e.on false=true
theorem yI.set(h:yI md ops a)(o:p∈Region.ready md ops a):yI md ops (a.setIfInBounds p true):=by
 obtain⟨_,r,q,n⟩:=mem_ready.1 o;intro j m k l e c b;by_cases d:p=j
 ·subst d;obtain rfl:m=r:=iS (k.symm.t q);exact getD_set_true (n e c b)
 ·rw[getD_set_ne false d] at l;exact getD_set_true (h j m k l e c b)
theorem SI{j:Nat}(h:a.getD j false=true):a.getD j true=true:=by
 by_cases b:j<a.size
 ·simp[b] at h⊢;exact h
 ·simp[Kl (Nat.le_of_not_lt b)] at h
theorem LY(m:Region.sinkB md ops n=true)(q:yI md ops a)(w:n∈Region.ready md ops a):∀(d j:Nat),n-j=d→j<n→a.getD j false=true:=by
 obtain⟨_,on,x,p⟩:=mem_ready.1 w;intro d;induction d using Nat.strongRecOn with
 |_ d y=>
  intro j z r;unfold Region.sinkB at m;have o:=eV.1 m j (List.mem_range.2 r);obtain⟨k,s,b⟩:=lF.1 o;rw[cW,eM] at b;have B:k<n+1:=List.mem_range.1 s;obtain⟨ok,l,e,h,c,i⟩:=Region.waitsFor_spec b.2;rcases aaN k n with u|A
  ·have:=q k ok l (y (n-k) (by omega) k rfl u) e h c;rw[i] at this;exact this
  ·obtain rfl:k=n:=by omega
   obtain rfl:ok=on:=iS (l.symm.t x);have:=p e h c;rw[i] at this;exact this
theorem II{v:aaL}(x:ops[p]? =some N)(G:∀(j:Nat) (o:Oper) s b,ops[j]? =some o→o.op≠.select s b)(Q:p<n)
 (V:Region.sinkB md ops n=true):
 ∀(f:Nat) (listed:Array Bool) (a:Act),yI md ops listed→
  (∀j q,ops[j]? =some q→j≠p→listed.getD j true=false→(∀e∈q.after,Region.binds md e=true→e.on≠p)→N.apart ops q=true)→
  p∈Region.ready md ops listed→YieldsIn P ops C N v a→
  XU P md ops C n T f (listed.setIfInBounds p true) (a.put N.dst v)→XU P md ops C n T (f+1) listed a:=by
 have z:∀listed,yI md ops listed→p∈Region.ready md ops listed→n∉Region.ready md ops listed:=fun listed m c W=>by have u:=SI (LY V m W _ p rfl Q);rw[(mem_ready.1 c).1] at u;cases u
 intro f;induction f with
 |zero=>
  intro listed a m _ c w H;refine⟨z listed m c,fun h=>(by rw[h] at c;cases c),fun j r=> ?_⟩;by_cases d:j=p
  ·subst d;exact w.qOp x H
  ·have F:=ready_mono r d;rw[H.1.1] at F;obtain rfl:j=n:=by simpa using F
   exact absurd r (z listed m c)
 |succ f Z=>
  intro listed a m A c w H;refine⟨z listed m c,fun h=>(by rw[h] at c;cases c),fun j r=> ?_⟩;by_cases d:j=p
  ·subst d;exact w.qOp x H
  ·have u:=H.2.2 j (ready_mono r d);obtain⟨D,q,y,K⟩:=mem_ready.1 r;have I:=(mem_ready.1 c).1;have Y:∀e∈q.after,Region.binds md e=true→e.on≠p:=fun e M L O=>by
    have l:=K e M L;rw[O] at l;by_cases t:p<listed.size
    ·simp[t] at I l;rw[I] at l;cases l
    ·simp[Kl (Nat.le_of_not_lt t)] at l
   have l:=qOp_put y (A j q y d D Y) (fun s b=>G p N s b x) (fun s b=>G j q s b y) w u;refine qOp_mono (fun J t=>Z (listed.setIfInBounds j true) J (m.set r) (fun k ok R S E X=>A k ok R S ?_ X) (ready_mono c (eo d)) t.1 ?_) l
   ·by_cases B:j=k
    ·subst B;exact D
    ·rw[getD_set_ne true B] at E;exact E
   ·rw[Array.setIfInBounds_comm _ _ d];exact t.2
def qm(md:Region.Mode)(ops:Array Oper)(n:Nat):Nat→Nat→Array Bool→Bool
 |0,_,listed=>decide (Region.ready md ops listed=[n])&&decide (Region.ready md ops (listed.setIfInBounds n true)=[])
 |f+1,k,listed=>(Region.ready md ops listed).contains k&&Region.free md ops listed k&&decide (k<n)&&qm md ops n f (k+1) (listed.setIfInBounds k true)
theorem Ff(p:Region.noSelect ops=true)(e:Region.sinkB md ops n=true):∀(l:List Oper) (k:Nat) (listed:Array Bool) (a:Act),yI md ops listed→(∀j,j<l.length→l[j]? =ops[k+j]?)→
 qm md ops n l.length k listed=true→wpQuiet P ops C T l a→XU P md ops C n T l.length listed a
 |[],_,listed,a,_,_,b,h=>by simp only[lH,qm,cW,eM] at b;exact⟨⟨b.1,b.2⟩,h⟩
 |o::l,k,listed,a,d,i,b,h=>by
  have c:ops[k]? =some o:=by have:=i 0 (by simp);simpa using this.symm
  simp only[bF,qm,cW,eM] at b;obtain⟨⟨⟨m,s⟩,u⟩,q⟩:=b;have w:qOp P ops C k (wpQuiet P ops C T l) a:=by unfold qOp;simp only[c];exact h
  obtain⟨v,x,r⟩:=yieldsIn_of_qOp c w;exact II c (Region.noSelect_spec p) u e l.length listed a d (Region.free_spec c s) (by simpa using m) x
   (Ff p e l (k+1) _ _ (d.set (by simpa using m)) (fun j t=>by have:=i (j+1) (by simpa using t);simpa[oh,Nat.add_comm 1 j] using this) q r)
theorem yJ(t:P.follows .mixedOrders=true)(C:aaK→Prop)(q:C e.drew)
 (y:Region.noSelect (x++[N]).toArray=true)(A:Region.sinkB .any (x++[N]).toArray x.length=true)(c:qm .any (x++[N]).toArray x.length x.length 0 (Array.replicate (x++[N]).toArray.size false)=true)
 (h:wpQuiet P (x++[N]).toArray C (fun b=>∀w',C w'→if Region.wanted N (yielded (x++[N]).toArray b.tmps)=true then Oper.wp P N b w' (fun m E=>d .normal m E) d else d .normal (b.put N.dst undef) w') x D):(Code.region p (x++[N]).toArray true).wp P d D e:=by
 refine wp_region_any t ?_;have z:(x++[N]).toArray.size=x.length+1:=by simp
 rw[z] at c⊢;refine vC (C:=C) (n:=x.length) (fun b w' r B=> ?_) x.length _ D _ q (Ff y A x 0 _ D (fun j F _ i=>by rw[getD_replicate_false] at i;cases i) (fun j s=>by simp[qC s]) c h);have:=r w' B;have u:(x++[N]).toArray[x.length]? =some N:=by simp
 unfold wpOp;simp only[u];by_cases k:Region.wanted N (yielded (x++[N]).toArray b.tmps)=true
 ·rw[ah k] at this⊢;exact .inl this
 ·rw[ae k] at this⊢;exact this
theorem aY{j:Type}(n:Nat)(f:j→aaK)(i:j)(r:e.drew=f i)(t:P.follows .mixedOrders=true)
 (u:(x.take n).length=n)(s:x.drop n=[N])(y:Region.noSelect x.toArray=true)(z:Region.sinkB .any x.toArray n=true)(m:qm .any x.toArray n n 0 (Array.replicate x.toArray.size false)=true)
 (h:wpQuiet P x.toArray (fun w'=>∃b,w'=f b) (fun c=>∀w',(∃b,w'=f b)→if Region.wanted N (yielded x.toArray c.tmps)=true then Oper.wp P N c w' (fun k A=>d .normal k A) d else d .normal (c.put N.dst undef) w') (x.take n) D):(Code.region p x.toArray true).wp P d D e:=by
 have q:x=x.take n++[N]:=by rw[←s,List.take_append_drop]
 generalize x.take n=l at*;subst q;subst u;exact yJ t (fun w'=>∃b,w'=f b) ⟨i,r⟩ y z m h
end
end Go.Proofs.YtlemddnecmmfgaaGreatDoor
namespace Go.Proofs.YtlemddnecmmfgaaGreatDoor
open Go.RowKit
variable{D:Act}{a:Array Bool}{d:Exit→Act→aaK→Prop}{x:List Oper}{p:Nat}{N:Oper}{e:aaK}
theorem gp(w:aaK)(p:Nat)(s:Bs)(i op:Nat)(bad a:Int)(h:PB w p s i op bad):
 Calls Tryz.prog 141 #[.pointer (some ⟨p,0,none⟩),.int .i64 a] w fun e w'=>e=.returned (.tuple #[])∧PB w' p s i op (if bad=0 then a else bad)∧ak p w w':=by
 have c:=ad h;obtain⟨-,-,-,j,-,-,-,k⟩:=h.pc;clear h;rcases dT (bad=0) with rfl|b
 ·go_enter Tryz.func141,Tryz.ntmps141;go_wp2_with fail
  go_end0
  exact⟨rfl,c.o.Gp a,(ak.refl p w).set⟩
 ·have q:(bad==0)=false:=aL.2 b;have d:=ad b;clear b;go_enter Tryz.func141,Tryz.ntmps141;go_wp2_with fail
  go_end0
  exact⟨rfl,c.o,ak.refl p w⟩
theorem Ds:∀(j:Nat) (b:UInt8),(⟨#[32,9,10,13]⟩:aaM).data.toList[j]? =some b→b.toNat<128:=by intro j b h;have:b∈([32,9,10,13]:Bs):=eQ h;simp only[bL,uK,or_false] at this;rcases this with rfl|rfl|rfl|rfl<;>decide
theorem Dt(d:Bs):Lib.trimLeftS (⟨d.toArray⟩:aaM).data.toList (⟨#[32,9,10,13]⟩:aaM).data.toList=d.dropWhile mE:=Cl d G5 mE An
structure PW (w:aaK) (p:Nat) (s:Bs) (i op:Nat) where
 val:aaK
 pb:PB val p s i op 0
 aN:ak p w val
theorem LZ(s:Bs)(a:p≤s.length):∃(d r:Bs) (n:Nat),(⟨s.toArray⟩:aaM).extract p s.length=⟨d.toArray⟩∧d.length+p=s.length∧d.dropWhile mE=r∧rs s p=r∧r.length≤d.length∧pa s p=n∧(p:Int)+((d.length:Int)-(r.length:Int))=(n:Int):=by
 refine⟨s.drop p,rs s p,pa s p,ic s p s.length (ag _),by rw[bK];omega,rfl,rfl, ?_,rfl, ?_⟩
 ·exact cB mE (s.drop p)
 ·have b:=nP s a;have c:=cY s p;have e:=jP s a;rw[bK];omega
theorem dF(w:aaK)(p:Nat)(s:Bs)(i op:Nat)(z:i≤s.length)(V:s.length≤100000)(h:PB w p s i op 0):
 Calls Tryz.prog 140 #[.pointer (some ⟨p,0,none⟩)] w fun e w'=>e=.returned (.string ⟨(rs s i).toArray⟩)∧PB w' p s (pa s i) op 0∧ak p w w':=by
 have k:=ad (show PB w.drew p s i op 0 from h);obtain⟨c,j,-,E,-,F,-,-⟩:=h.pc;have G:w.drew.cell? ⟨p,0,none⟩=some (.string ⟨s.toArray⟩):=c;have H:w.drew.cell? ⟨p,1,none⟩=some (.int .i64 (i:Int)):=j;obtain⟨d,r,n,I,R,y,B,T,A,C⟩:=LZ s z;have D:=ad y;have q:=ad B;have b:=ad A;have X:(0:Int)≤(i:Int):=by omega
 have Y:(i:Int)≤(s.length:Int):=by omega
 have N:IntKind.i64.wrap ((d.length:Int)-(r.length:Int))=(d.length:Int)-(r.length:Int):=IntWalk.i64_in _ (by omega);have O:IntKind.i64.wrap ((i:Int)+((d.length:Int)-(r.length:Int)))=(n:Int):=by rw[C];exact IntWalk.i64_in _ (by omega)
 clear h y B A C;go_enter Tryz.func140,Tryz.ntmps140;go_wp2_with fail;have K:∀W:PW w p s i op,W.val.cell? ⟨p,0,none⟩=some (.string ⟨s.toArray⟩):=fun W=>W.pb.pc.c0;have L:∀W:PW w p s i op,W.val.cell? ⟨p,1,none⟩=some (.int .i64 (i:Int)):=fun W=>W.pb.pc.c1;have M:∀W:PW w p s i op,W.val.frozen? ⟨p,1,none⟩=false:=fun W=>W.pb.pc.f1
 haveI:Nonempty (PW w p s i op):=⟨⟨w.drew,k.o,⟨rfl,rfl,rfl,ag _,fun _ _ _=>rfl⟩⟩⟩
 clear c j E F G H;refine aY 29 (fun W:PW w p s i op=>W.val) ⟨w.drew,k.o,⟨rfl,rfl,rfl,ag _,fun _ _ _=>rfl⟩⟩ rfl (by kernel_rfl) (by rfl) (by rfl) (by kernel_rfl) (by kernel_rfl) (by kernel_rfl) ?_;simp only[ki,kL];repeat(quiet_step ((go_at_call 79;refine(fw ⟨d.toArray⟩ ⟨#[32,9,10,13]⟩ _ (by decide) Ds).m ?_;rintro e v1⟨rfl,u⟩;rw[Dt,D.o];exact⟨rfl,⟨v1,PB.next (PW.pb _) u,(PW.aN _).t (ak.ai u)⟩,rfl⟩)))
 refine wpQuiet_nil ?_;rintro w'⟨W,rfl⟩;rw[ah (by rfl)];have l:=ad (W.pb.iD n);have a:=ad (show ak p w (W.val.setCell ⟨p,1,none⟩ (.int .i64 (n:Int))) from W.aN.set);have S:n≤s.length:=by rw[←b.o];exact cY s i
 have x:s.drop n=r:=by rw[←b.o,sZ s z,q.o]
 have J:=ic s n s.length (ag _);rw[x] at J;have Z:(0:Int)≤(n:Int):=by omega
 have n1:(n:Int)≤(s.length:Int):=by omega
 clear N O x I;go_simp;generalize W.val.setCell ⟨p,1,none⟩ (.int .i64 (n:Int))=Q at*;clear K L M;obtain⟨c,j,-,-,-,-,-,-⟩:=l.o.pc;go_wp2_with fail
 go_quiet (fail)
 go_wp2_with fail;go_ret;exact⟨by rw[q.o];rfl,by rw[b.o];exact l.o,⟨a.o.os,a.o.tape,a.o.output,a.o.size,a.o.block⟩⟩
end Go.Proofs.YtlemddnecmmfgaaGreatDoor
namespace Go.Proofs.YtlemddnecmmfgaaGreatDoor
open Go.RowKit
variable{D:Act}{a:Array Bool}{d:Exit→Act→aaK→Prop}{x:List Oper}{p:Nat}{N:Oper}{e:aaK}
theorem iQ(w:aaK)(p:Nat)(s:Bs)(i op:Nat)(bad:Int)(k:i≤s.length)(l:s.length≤100000)(a:bad≠0)(h:PB w p s i op bad):
 Calls Tryz.prog 140 #[.pointer (some ⟨p,0,none⟩)] w fun e w'=>e=.returned (.string ⟨(s.drop i).toArray⟩)∧PB w' p s i op bad∧ak p w w':=by
 have b:=ad h;obtain⟨c,d,-,j,-,-,-,-⟩:=h.pc;have q:(bad==0)=false:=aL.2 a;have m:=ic s i s.length (ag _);have n:(0:Int)≤(i:Int):=by omega
 have r:(i:Int)≤(s.length:Int):=by omega
 clear h a;go_enter Tryz.func140,Tryz.ntmps140;go_wp2_with fail
 go_quiet (fail)
 go_wp2_with fail;go_ret;exact⟨rfl,b.o,⟨rfl,rfl,rfl,ag _,fun _ _ _=>rfl⟩⟩
theorem qo(w:aaK)(p:Nat)(s:Bs)(i op:Nat)(bad:Int)(t:aaM)(a:bad≠0)(h:PB w p s i op bad):
 Calls Tryz.prog 209 #[.pointer (some ⟨p,0,none⟩),.string t] w fun e w'=>e=.returned (.bool false)∧PB w' p s i op bad∧ak p w w':=by
 have b:=ad h;obtain⟨-,-,-,c,-,-,-,-⟩:=h.pc;have q:(bad==0)=false:=aL.2 a;have d:(bad !=0)=true:=by rw[bne,q];rfl
 clear h a;go_enter Tryz.func209,Tryz.ntmps209;go_wp2_with fail;go_ret;exact⟨rfl,b.o,ak.refl p w⟩
theorem fM(w:aaK)(p:Nat)(s:Bs)(i op:Nat)(t:Bs)(A:i≤s.length)(C:s.length≤100000)(G:t.length≤100)(h:PB w p s i op 0):
 Calls Tryz.prog 209 #[.pointer (some ⟨p,0,none⟩),.string ⟨t.toArray⟩] w fun e w'=>e=.returned (.bool (Lib.hasPrefix (rs s i) t))∧PB w' p s (bif Lib.hasPrefix (rs s i) t then pa s i+t.length else pa s i) op 0∧ak p w w':=by
 have k:=ad h;obtain⟨-,-,-,z,-,-,-,-⟩:=h.pc;have B:=cY s i;clear h;go_enter Tryz.func209,Tryz.ntmps209;go_wp2_with fail;refine(dF w p s i op A C k.o).m ?_;rintro e D⟨rfl,x,y⟩;have a:=ad x;have u:=ad y;clear x y z k;obtain⟨r,j⟩:∃r,rs s i=r:=⟨_,rfl⟩;rw[j];have q:=ad j;obtain⟨n,d⟩:∃n,pa s i=n:=⟨_,rfl⟩;rw[d] at a B;have l:=ad d;clear j d;obtain⟨-,E,-,-,-,F,-,-⟩:=a.o.pc;go_wp2_with fail;refine(cj ⟨r.toArray⟩ ⟨t.toArray⟩ D).m ?_;rintro e H⟨rfl,rfl⟩;rw[show Lib.hasPrefix (⟨r.toArray⟩:aaM).data.toList (⟨t.toArray⟩:aaM).data.toList=Lib.hasPrefix r t from rfl];cases b:Lib.hasPrefix r t
 ·have c:=ad b;clear b;go_wp2_with fail;go_ret;rw[q.o,c.o,l.o];exact⟨rfl,a.o,u.o⟩
 ·have c:=ad b;clear b;go_wp2_with fail;go_ret;rw[q.o,c.o,l.o];exact⟨rfl,a.o.iD (n+t.length),u.o.set⟩
theorem tf(w:aaK)(p:Nat)(s:Bs)(i op:Nat)(bad:Int)(j:op<16)(h:PB w p s i op bad):
 Calls Tryz.prog 210 #[.pointer (some ⟨p,0,none⟩)] w fun e w'=>e=.returned (.tuple #[])∧PB w' p s i (op+1) bad∧ak p w w':=by
 have b:=ad h;obtain⟨-,-,c,-,-,-,d,-⟩:=h.pc;have k:=(h.Dz (op+1)).pc.c2;have a:=ad (h.Dz (op+1));have o1:¬(16:Int)<(op:Int)+1:=by omega
 clear h;go_enter Tryz.func210,Tryz.ntmps210;go_wp2_with fail
 go_end0
 exact⟨rfl,a.o,(ak.refl p w).set⟩
theorem pL(w:aaK)(p:Nat)(s:Bs)(i op:Nat)(B:1≤i)(C:i≤1000000)(n:op=16)(h:PB w p s i op 0):
 Calls Tryz.prog 210 #[.pointer (some ⟨p,0,none⟩)] w fun e w'=>e=.returned (.tuple #[])∧PB w' p s (i-1) (op+1) 3∧ak p w w':=by
 subst n;have q:=ad h;obtain⟨-,x,y,-,-,z,A,-⟩:=h.pc;have r:=ad (h.Dz 17);have a:=(h.Dz 17).iD (i-1);rw[show((i-1:Nat):Int)=(i:Int)-1 by omega] at a;have c:=gp _ p s (i-1) 17 0 3 a;have u:=ad a;have k:=ad c;clear c;clear h a;go_enter Tryz.func210,Tryz.ntmps210;go_wp2_with fail;refine k.o.m ?_;rintro e D⟨rfl,b,d⟩;have j:=ad b;have l:=ad (((ak.refl p w).set.set).t d);clear b d;go_wp2_with fail
 go_end0
 exact⟨rfl,j.o,l.o⟩
end Go.Proofs.YtlemddnecmmfgaaGreatDoor
