/- The walk of Find. -/
import Derived.Test.YtogchgjfialleaaGreatDoorKag
set_option linter.unusedVariables false
set_option maxRecDepth 100000
set_option maxHeartbeats 1000000
namespace Go.Proofs.YtogchgjfialleaaGreatDoor
open Go.RowKit
attribute[local go_sem↓] Go.wp_at_zero Go.wp_at_succ
def j8(i:Int)(n:Nat):Nat:=min i.toNat n
def UF(u:iZ):Value:=.agg #[.int .i64 u.src,.int .i64 u.to,.string ⟨u.name.toArray⟩,.string ⟨u.key.toArray⟩,.string ⟨u.cK.toArray⟩,.bool u.hk,.bool u.hd]
def me:iZ:=⟨0,0,[],[],[],false,false⟩
def pv(o:Option iZ):Value:=.tuple #[UF (o.getD me),.bool o.isSome]
theorem Pc(i:Int)(n:Nat):min (max 0 i) (n:Int)=(j8 i n:Int):=by unfold j8;omega
theorem Pd(i:Int)(n:Nat):j8 i n≤n:=Nat.min_le_right _ _
theorem uu(s:ByteArray)(n:Nat):(s.extract n s.size)=⟨(s.data.toList.drop n).toArray⟩:=by have:=ic s.data.toList n s.size (by rw[bj];exact ag _);exact this
theorem EY:pv none=.tuple #[.agg #[.int .i64 0,.int .i64 0,.string ⟨#[]⟩,.string ⟨#[]⟩,.string ⟨#[]⟩,.bool false,.bool false],.bool false]:=rfl
theorem Ih(s:ByteArray)(k:Nat)(a:s.size≤100000000):(⟨(s.data.toList.drop k).toArray⟩:ByteArray).size<4294967281:=by show(s.data.toList.drop k).length<4294967281;rw[bK,bj];omega
def yo(W:World)(b:Nat):Prop:=W.heap[b]? =some (.cells #[.int .i64 0,.int .i64 0,.string ⟨#[]⟩,.string ⟨#[]⟩,.string ⟨#[]⟩,.bool false,.bool false] 133)
theorem vw{W:World}{b:Nat}(h:yo W b):(W.cell? ⟨b,0,none⟩=some (.int .i64 0)∧W.cell? ⟨b,1,none⟩=some (.int .i64 0)∧W.cell? ⟨b,2,none⟩=some (.string ⟨#[]⟩)∧W.cell? ⟨b,3,none⟩=some (.string ⟨#[]⟩)∧W.cell? ⟨b,4,none⟩=some (.string ⟨#[]⟩)∧W.cell? ⟨b,5,none⟩=some (.bool false)∧W.cell? ⟨b,6,none⟩=some (.bool false))∧
 W.frozen? ⟨b,0,none⟩=false∧W.frozen? ⟨b,1,none⟩=false∧W.frozen? ⟨b,2,none⟩=false∧W.frozen? ⟨b,3,none⟩=false∧W.frozen? ⟨b,4,none⟩=false∧W.frozen? ⟨b,5,none⟩=false∧W.frozen? ⟨b,6,none⟩=false:=
 ⟨⟨aj 0 h,aj 1 h,aj 2 h,aj 3 h,aj 4 h,aj 5 h,aj 6 h⟩,
  aF _ _ 0 _ _ h,aF _ _ 1 _ _ h,aF _ _ 2 _ _ h,aF _ _ 3 _ _ h,aF _ _ 4 _ _ h,aF _ _ 5 _ _ h,aF _ _ 6 _ _ h⟩
theorem VM{W:World}{b:Nat}{T:TypeId}{p a1 a2 a3 a4 d a:Value}(v0 v1 v2 c e i o:Value)(h:W.heap[b]? =some (.cells #[p,a1,a2,a3,a4,d,a] T)):
 (((((((W.setCell ⟨b,0,none⟩ v0).setCell ⟨b,1,none⟩ v1).setCell ⟨b,2,none⟩ v2).setCell ⟨b,3,none⟩ c).setCell ⟨b,4,none⟩ e).setCell ⟨b,5,none⟩ i).setCell ⟨b,6,none⟩ o).heap[b]? =some (.cells #[v0,v1,v2,c,e,i,o] T):=by
 have q:(W.setCell ⟨b,0,none⟩ v0).heap[b]? =some (.cells #[v0,a1,a2,a3,a4,d,a] T):=aw (j:=0) h;generalize W.setCell ⟨b,0,none⟩ v0=W0 at*;have r:(W0.setCell ⟨b,1,none⟩ v1).heap[b]? =some (.cells #[v0,v1,a2,a3,a4,d,a] T):=aw (j:=1) q;generalize W0.setCell ⟨b,1,none⟩ v1=k at*;have s:(k.setCell ⟨b,2,none⟩ v2).heap[b]? =some (.cells #[v0,v1,v2,a3,a4,d,a] T):=aw (j:=2) r;generalize k.setCell ⟨b,2,none⟩ v2=l at*;have t:(l.setCell ⟨b,3,none⟩ c).heap[b]? =some (.cells #[v0,v1,v2,c,a4,d,a] T):=aw (j:=3) s;generalize l.setCell ⟨b,3,none⟩ c=m at*;have u:(m.setCell ⟨b,4,none⟩ e).heap[b]? =some (.cells #[v0,v1,v2,c,e,d,a] T):=aw (j:=4) t;generalize m.setCell ⟨b,4,none⟩ e=n at*;have w:(n.setCell ⟨b,5,none⟩ i).heap[b]? =some (.cells #[v0,v1,v2,c,e,i,a] T):=aw (j:=5) u;generalize n.setCell ⟨b,5,none⟩ i=x at*;exact aw (j:=6) w
theorem VN{w W:World}{b n:Nat}(v0 v1 v2 a c d e:Value)(j:Below n w W)(i:n≤b)(h:yo W b):
 ((((((((W.setCell ⟨b,0,none⟩ v0).setCell ⟨b,1,none⟩ v1).setCell ⟨b,2,none⟩ v2).setCell ⟨b,3,none⟩ a).setCell ⟨b,4,none⟩ c).setCell ⟨b,5,none⟩ d).setCell ⟨b,6,none⟩ e).cell? ⟨b,0,none⟩=some v0∧
 (((((((W.setCell ⟨b,0,none⟩ v0).setCell ⟨b,1,none⟩ v1).setCell ⟨b,2,none⟩ v2).setCell ⟨b,3,none⟩ a).setCell ⟨b,4,none⟩ c).setCell ⟨b,5,none⟩ d).setCell ⟨b,6,none⟩ e).cell? ⟨b,1,none⟩=some v1∧
 (((((((W.setCell ⟨b,0,none⟩ v0).setCell ⟨b,1,none⟩ v1).setCell ⟨b,2,none⟩ v2).setCell ⟨b,3,none⟩ a).setCell ⟨b,4,none⟩ c).setCell ⟨b,5,none⟩ d).setCell ⟨b,6,none⟩ e).cell? ⟨b,2,none⟩=some v2∧
 (((((((W.setCell ⟨b,0,none⟩ v0).setCell ⟨b,1,none⟩ v1).setCell ⟨b,2,none⟩ v2).setCell ⟨b,3,none⟩ a).setCell ⟨b,4,none⟩ c).setCell ⟨b,5,none⟩ d).setCell ⟨b,6,none⟩ e).cell? ⟨b,3,none⟩=some a∧
 (((((((W.setCell ⟨b,0,none⟩ v0).setCell ⟨b,1,none⟩ v1).setCell ⟨b,2,none⟩ v2).setCell ⟨b,3,none⟩ a).setCell ⟨b,4,none⟩ c).setCell ⟨b,5,none⟩ d).setCell ⟨b,6,none⟩ e).cell? ⟨b,4,none⟩=some c∧
 (((((((W.setCell ⟨b,0,none⟩ v0).setCell ⟨b,1,none⟩ v1).setCell ⟨b,2,none⟩ v2).setCell ⟨b,3,none⟩ a).setCell ⟨b,4,none⟩ c).setCell ⟨b,5,none⟩ d).setCell ⟨b,6,none⟩ e).cell? ⟨b,5,none⟩=some d∧
 (((((((W.setCell ⟨b,0,none⟩ v0).setCell ⟨b,1,none⟩ v1).setCell ⟨b,2,none⟩ v2).setCell ⟨b,3,none⟩ a).setCell ⟨b,4,none⟩ c).setCell ⟨b,5,none⟩ d).setCell ⟨b,6,none⟩ e).cell? ⟨b,6,none⟩=some e)∧
 Below n w (((((((W.setCell ⟨b,0,none⟩ v0).setCell ⟨b,1,none⟩ v1).setCell ⟨b,2,none⟩ v2).setCell ⟨b,3,none⟩ a).setCell ⟨b,4,none⟩ c).setCell ⟨b,5,none⟩ d).setCell ⟨b,6,none⟩ e):=by
 have r:=VM v0 v1 v2 a c d e h;exact⟨⟨aj 0 r,aj 1 r,aj 2 r,aj 3 r,aj 4 r,aj 5 r,aj 6 r⟩,
  ((((((j.setCell (p:=⟨b,0,none⟩) i _).setCell (p:=⟨b,1,none⟩) i _).setCell (p:=⟨b,2,none⟩) i _).setCell (p:=⟨b,3,none⟩) i _).setCell (p:=⟨b,4,none⟩) i _).setCell (p:=⟨b,5,none⟩) i _).setCell (p:=⟨b,6,none⟩) i _⟩
def We(k p:Nat):Value:=.func (.func k) #[.pointer (some ⟨p,0,none⟩)] #[]
def EZ(W:World)(b p:Nat):Prop:=W.heap[b]? =some (.cells #[We 176 p,We 177 p,We 178 p,We 179 p] 52)
theorem mf{W:World}{b p:Nat}(h:EZ W b p):W.cell? ⟨b,0,none⟩=some (.func (.func 176) #[.pointer (some ⟨p,0,none⟩)] #[])∧W.cell? ⟨b,1,none⟩=some (.func (.func 177) #[.pointer (some ⟨p,0,none⟩)] #[])∧W.cell? ⟨b,2,none⟩=some (.func (.func 178) #[.pointer (some ⟨p,0,none⟩)] #[])∧W.cell? ⟨b,3,none⟩=some (.func (.func 179) #[.pointer (some ⟨p,0,none⟩)] #[]):=
 ⟨aj 0 h,aj 1 h,aj 2 h,aj 3 h⟩
theorem ll{W:World}{b:Nat}{o:Obj}(h:W.heap[b]? =some o):b<W.heap.size:=by
 by_cases a:b<W.heap.size
 ·exact a
 ·rw[Kl (by omega)] at h;cases h
theorem EZ.aN{W W':World}{b p:Nat}(h:EZ W b p)(T:ak p W W')(a:b≠p):EZ W' b p:=(T.block b (ll h) (by intro e;cases e;exact a rfl)).trans h
structure VO (w W:World) (b p:Nat):Prop where
 below:Below w.heap.size w W
 box:yo W w.heap.size
 four:EZ W b p
 aq:Good W
theorem VO.aN{w W W':World}{b p:Nat}(h:VO w W b p)(T:ak p W W')(d:b≠p)(i:w.heap.size<p)(c:Good w):VO w W' b p:=
 have a:=h.below.trans (T.below (om i) h.below.size)
 ⟨a,(T.block _ (ll h.box) (by intro e;cases e;omega)).trans h.box,h.four.aN T d,c.next a⟩
theorem Sw{w wr:World}(a:Below w.heap.size w wr)(b:yo wr w.heap.size)(c:Good wr)(s:ByteArray)(n:Nat):
 VO w ((wr.alloc (.cells #[.string ⟨(s.data.toList.drop n).toArray⟩,.int .i64 0,.int .i64 0,.string ⟨#[]⟩,.string ⟨#[]⟩,.string ⟨#[]⟩,.bool false,.bool false] 244)).alloc (.cells #[.func (.func 176) #[.pointer (some ⟨wr.heap.size,0,none⟩)] #[],.func (.func 177) #[.pointer (some ⟨wr.heap.size,0,none⟩)] #[],.func (.func 178) #[.pointer (some ⟨wr.heap.size,0,none⟩)] #[],.func (.func 179) #[.pointer (some ⟨wr.heap.size,0,none⟩)] #[]] 52)) (wr.heap.size+1) wr.heap.size∧
 RB ((wr.alloc (.cells #[.string ⟨(s.data.toList.drop n).toArray⟩,.int .i64 0,.int .i64 0,.string ⟨#[]⟩,.string ⟨#[]⟩,.string ⟨#[]⟩,.bool false,.bool false] 244)).alloc (.cells #[.func (.func 176) #[.pointer (some ⟨wr.heap.size,0,none⟩)] #[],.func (.func 177) #[.pointer (some ⟨wr.heap.size,0,none⟩)] #[],.func (.func 178) #[.pointer (some ⟨wr.heap.size,0,none⟩)] #[],.func (.func 179) #[.pointer (some ⟨wr.heap.size,0,none⟩)] #[]] 52)) wr.heap.size (s.data.toList.drop n) [] [] [] false false:=by
 have t:=jG wr (.cells #[.string ⟨(s.data.toList.drop n).toArray⟩,.int .i64 0,.int .i64 0,.string ⟨#[]⟩,.string ⟨#[]⟩,.string ⟨#[]⟩,.bool false,.bool false] 244) (.cells #[.func (.func 176) #[.pointer (some ⟨wr.heap.size,0,none⟩)] #[],.func (.func 177) #[.pointer (some ⟨wr.heap.size,0,none⟩)] #[],.func (.func 178) #[.pointer (some ⟨wr.heap.size,0,none⟩)] #[],.func (.func 179) #[.pointer (some ⟨wr.heap.size,0,none⟩)] #[]] 52);exact⟨⟨a.trans (t.below.mono a.size),(t.below.block _ (ll b)).trans b,t.b2,c.next t.below⟩,t.b1⟩
structure Pe (w W W':World) (p:Nat) (v1 v2:Value) (r nm k d:Bs) (hk hd:Bool):Prop where
 row:W'.heap[p]? =some (.cells #[.string ⟨r.toArray⟩,v1,v2,.string ⟨nm.toArray⟩,.string ⟨k.toArray⟩,.string ⟨d.toArray⟩,.bool hk,.bool hd] 244)
 box:yo W' w.heap.size
 below:Below w.heap.size w W'
theorem ended{w W:World}{b p:Nat}{r nm k d:Bs}{c a:Bool}(h:VO w W b p)(e:RB W p r nm k d c a)(l:w.heap.size<p)(v1 v2:Value):
 Pe w W ((W.setCell ⟨p,1,none⟩ v1).setCell ⟨p,2,none⟩ v2) p v1 v2 r nm k d c a∧(W.cell? ⟨p,1,none⟩=some (.int .i64 0)∧W.frozen? ⟨p,1,none⟩=false)∧((W.setCell ⟨p,1,none⟩ v1).cell? ⟨p,2,none⟩=some (.int .i64 0)∧(W.setCell ⟨p,1,none⟩ v1).frozen? ⟨p,2,none⟩=false):=by
 have i:(W.setCell ⟨p,1,none⟩ v1).heap[p]? =some (.cells #[.string ⟨r.toArray⟩,v1,.int .i64 0,.string ⟨nm.toArray⟩,.string ⟨k.toArray⟩,.string ⟨d.toArray⟩,.bool c,.bool a] 244):=aw (j:=1) e;refine⟨⟨aw (j:=2) i, ?_, ?_⟩,⟨aj 1 e,aF _ _ 1 _ _ e⟩,⟨aj 2 i,aF _ _ 2 _ _ i⟩⟩
 ·exact(dy _ ⟨p,2,none⟩ _ _ (by show w.heap.size≠p;omega)).trans ((dy _ ⟨p,1,none⟩ _ _ (by show w.heap.size≠p;omega)).trans h.box)
 ·exact(h.below.setCell (p:=⟨p,1,none⟩) (om l) _).setCell (p:=⟨p,2,none⟩) (om l) _
theorem Pe.cells{w W W':World}{p:Nat}{v1 v2:Value}{r nm k d:Bs}{b a:Bool}(h:Pe w W W' p v1 v2 r nm k d b a):
 W'.cell? ⟨p,1,none⟩=some v1∧W'.cell? ⟨p,2,none⟩=some v2∧W'.cell? ⟨p,3,none⟩=some (.string ⟨nm.toArray⟩)∧W'.cell? ⟨p,4,none⟩=some (.string ⟨k.toArray⟩)∧W'.cell? ⟨p,5,none⟩=some (.string ⟨d.toArray⟩)∧W'.cell? ⟨p,6,none⟩=some (.bool b)∧W'.cell? ⟨p,7,none⟩=some (.bool a):=
 ⟨aj 1 h.row,aj 2 h.row,aj 3 h.row,aj 4 h.row,aj 5 h.row,aj 6 h.row,aj 7 h.row⟩
theorem Sx(n i:Nat)(p:gi)(h:p.rest.length≤n):UF (vy n i p)=.agg #[.int .i64 (i:Int),.int .i64 ((n:Int)-(p.rest.length:Int)),.string ⟨p.name.toArray⟩,.string ⟨p.key.toArray⟩,.string ⟨p.cK.toArray⟩,.bool p.hk,.bool p.hd]:=by unfold UF vy;rw[show(((n-p.rest.length:Nat)):Int)=(n:Int)-(p.rest.length:Int) by omega]
theorem LL(n i:Nat)(p:gi)(h:p.rest.length≤n):pv (some (vy n i p))=.tuple #[.agg #[.int .i64 (i:Int),.int .i64 ((n:Int)-(p.rest.length:Int)),.string ⟨p.name.toArray⟩,.string ⟨p.key.toArray⟩,.string ⟨p.cK.toArray⟩,.bool p.hk,.bool p.hd],.bool true]:=by rw[←Sx n i p h];rfl
theorem Ii{r:Bs}(h:cD (r.takeWhile dt)=false):gj r=none:=by unfold gj;rw[h];rfl
theorem LM{r:Bs}(h:ey (r.dropWhile dt)=none):gj r=none:=by unfold gj;rw[h];cases cD (r.takeWhile dt)<;>rfl
theorem E0{r k b:Bs}{a:Bool}(h:cD (r.takeWhile dt)=true)(c:ey (r.dropWhile dt)=some (k,a,b)):gj r=dz (r.takeWhile dt) k a b:=by unfold gj;rw[h,c];rfl
theorem Ij{nm k r:Bs}{a:Bool}(h:gm r=none):dz nm k a r=none:=by unfold dz;rw[h]
theorem Ik{nm k r d c:Bs}{b a:Bool}(h:gm r=some (d,a,c)):dz nm k b r=gH nm k d b a c:=by unfold dz;rw[h]
theorem UG{nm k d r:Bs}{b a:Bool}(h:Lib.hasPrefix r [41]=false):gH nm k d b a r=none:=by unfold gH;rw[h];rfl
theorem Sy{nm k d r:Bs}{b a:Bool}(h:Lib.hasPrefix r [41]=true):gH nm k d b a r=some ⟨nm,k,d,b,a,Lib.trimPrefix r [41]⟩:=by unfold gH;rw[h];rfl
theorem wB{s:Bs}{k b j:Nat}(c:cv s k=cv s b)(a:cv s k=cv s (k+j)∧gI (s.drop (k+j))=true∧k+j+2≤s.length)(h:gj (s.drop (k+j+2))=none):cv s (k+j+1)=cv s b:=by rw[←c,a.1,nO (i:=k+j)];rw[jT a.2.1,fh];exact h
theorem LN{s:Bs}{k b j:Nat}{p:gi}(c:cv s k=cv s b)(a:cv s k=cv s (k+j)∧gI (s.drop (k+j))=true∧k+j+2≤s.length)(h:gj (s.drop (k+j+2))=some p):cv s b=some (vy s.length (k+j) p):=by rw[←c,a.1,pw (i:=k+j)];rw[jT a.2.1,fh];exact h
theorem mY(s:ByteArray)(i:Int)(w:World)(hg:Good w)(hs:s.size≤100000000):
 Calls Tryz.prog 138 #[.string s,.int .i64 i] w (cN w (pv (cv s.data.toList (j8 i s.size)))):=by
 have hm:=Pc i s.size;have ay:=Pd i s.size;have HN:=ad (show yo (w.alloc (.cells #[.int .i64 0,.int .i64 0,.string ⟨#[]⟩,.string ⟨#[]⟩,.string ⟨#[]⟩,.bool false,.bool false] 133)) w.heap.size from au w _);have HB:=ad ((ar w.heap.size w).alloc (ag _) (.cells #[.int .i64 0,.int .i64 0,.string ⟨#[]⟩,.string ⟨#[]⟩,.string ⟨#[]⟩,.bool false,.bool false] 133));have l:=ad hg;clear hg;go_enter Tryz.func138,Tryz.ntmps138;go_wp2_with fail;generalize w.alloc (.cells #[.int .i64 0,.int .i64 0,.string ⟨#[]⟩,.string ⟨#[]⟩,.string ⟨#[]⟩,.bool false,.bool false] 133)=W0 at*
 go_step3
 go_wp2_with fail;clear hm;generalize j8 i s.size=i0 at*
 go_step3
 go_wp2_with fail
 go_loopg [1] (s.size-i0) (fun g f wr=>∃k:Nat,k≤s.size∧s.size≤k+g∧f=.int .i64 k∧Hid (cv s.data.toList k=cv s.data.toList i0)∧Hid (Below w.heap.size w wr)∧Hid (yo wr w.heap.size))
 case atStart=>exact⟨i0,ay,by omega,rfl,ad rfl,HB,HN⟩
 case round=>
  obtain⟨k,hk,a0,rfl,x,G,A⟩:=hrel;have Q:=ad (l.out.next G.out);go_wp2_with fail;rw[uu];refine(mN ⟨(s.data.toList.drop k).toArray⟩ ⟨#[36,40]⟩ _ Q.out (Ih s k hs)).mono ?_;rintro e w1⟨rfl,rfl⟩;have e1:Lib.index (⟨(s.data.toList.drop k).toArray⟩:ByteArray).data.toList (⟨#[36,40]⟩:ByteArray).data.toList=Lib.index (s.data.toList.drop k) [36,40]:=rfl;rw[e1];clear e1;rcases Int.lt_or_le (Lib.index (s.data.toList.drop k) [36,40]) 0 with I|I
  ·have Z:Lib.index (s.data.toList.drop k) [36,40]=-1:=by have:=Lib.index_ge (s.data.toList.drop k) [36,40];omega
   have r:=ad (yp Z);have hN:=vw A.out;obtain⟨⟨a,c,h,n,c4,c5,c6⟩,f0,f1,f2,f3,f4,f5,f6⟩:=hN;rw[Z];clear Z I;go_wp2_with fail;have B:=ad (VN (.int .i64 0) (.int .i64 0) (.string ⟨#[]⟩) (.string ⟨#[]⟩) (.string ⟨#[]⟩) (.bool false) (.bool false) G.out (ag _) A.out);obtain⟨k0,k1,k2,k3,k4,k5,k6⟩:=B.out.1;clear a c h n c4 c5 c6 f0 f1 f2 f3 f4 f5 f6;try rw [Exit.noGoto_ret]
   refine aD (v:=pv none) ?_ rfl ⟨by rw[←x.out,r.out],B.out.2⟩;rw[EY];simp[results,Tryz.f138,go_sem,k0,k1,k2,k3,k4,k5,k6]
  ·obtain⟨j,aa⟩:∃j:Nat,Lib.index (s.data.toList.drop k) [36,40]=(j:Int):=⟨_,(Int.toNat_of_nonneg I).symm⟩;have z:=ad (zF aa);have a8:k+j+2≤s.size:=by have:=z.out.2.2;rw[bj] at this;exact this
   rw[aa];clear aa I;have a9:(k:Int)+(j:Int)+2≤(s.size:Int):=by omega
   have R:=ad (Sw G.out A.out Q.out s (k+j+2));have o:w.heap.size<wr.heap.size:=ll A.out;clear G A Q;go_wp2_with fail;rw[uu];generalize(wr.alloc (.cells #[.string ⟨(s.data.toList.drop (k+j+2)).toArray⟩,.int .i64 0,.int .i64 0,.string ⟨#[]⟩,.string ⟨#[]⟩,.string ⟨#[]⟩,.bool false,.bool false] 244)).alloc (.cells #[.func (.func 176) #[.pointer (some ⟨wr.heap.size,0,none⟩)] #[],.func (.func 177) #[.pointer (some ⟨wr.heap.size,0,none⟩)] #[],.func (.func 178) #[.pointer (some ⟨wr.heap.size,0,none⟩)] #[],.func (.func 179) #[.pointer (some ⟨wr.heap.size,0,none⟩)] #[]] 52)=W1 at*;generalize wr.heap.size=p at*;have S:=ad R.out.1;have ab:=ad R.out.2;clear R;have bb:(s.data.toList.drop (k+j+2)).length≤s.size:=by rw[bK,bj];omega
   obtain⟨a,c,h,n⟩:=mf S.out.four;clear c h n;refine wp_loop_rounds 5 ?_;rw[rounds_succ];go_wp2_with fail;refine(Sz p (s.data.toList.drop (k+j+2)) [] [] [] false false _ (by omega) ab.out).mono ?_;rintro e w2⟨rfl,ai,ao⟩;have q:=ad (S.out.aN ao (by omega) o l.out);have V:=ad ai;have a5:=cB dt (s.data.toList.drop (k+j+2));clear ai ao S ab a;rcases X:cD ((s.data.toList.drop (k+j+2)).takeWhile dt) with _|_
   ·have N:=ad X;go_wp2
    go_roundg (s.size-(k+j+1))
    case measure=>omega
    case rel=>exact⟨k+j+1,by omega,by omega,by go_num,ad (wB x.out z.out (Ii N.out)),ad q.out.below,ad q.out.box⟩
   ·have N:=ad X;obtain⟨a,c,h,n⟩:=mf q.out.four;clear a h n;go_wp2_with fail;rw[rounds_succ];go_wp2_with fail;refine(rd_key p ((s.data.toList.drop (k+j+2)).dropWhile dt) ((s.data.toList.drop (k+j+2)).takeWhile dt) [] false _ q.out.aq (Nat.lt_trans l.out.lt o) (by omega) V.out).mono ?_;intro e w3 b;unfold qk at b;clear X;rcases t:ey ((s.data.toList.drop (k+j+2)).dropWhile dt) with _|⟨K,J,r2⟩
    ·have E:=ad t;rw[t] at b;obtain⟨rfl,C⟩:=b;have m:=ad (q.out.aN C (by omega) o l.out);clear C t V q c;go_wp2
     go_roundg (s.size-(k+j+1))
     case measure=>omega
     case rel=>exact⟨k+j+1,by omega,by omega,by go_num,ad (wB x.out z.out (LM E.out)),ad m.out.below,ad m.out.box⟩
    ·rw[t] at b;obtain⟨rfl,al,C⟩:=b;have m:=ad (q.out.aN C (by omega) o l.out);have W:=ad al;have a6:=A6 t;have E:=ad (E0 N.out t);clear al C t V q c;generalize(s.data.toList.drop (k+j+2)).takeWhile dt=nm at*;obtain⟨a,c,h,n⟩:=mf m.out.four;clear a c n;go_wp2_with fail;rw[rounds_succ];go_wp2_with fail;refine(Pf p r2 nm K J _ m.out.aq (Nat.lt_trans l.out.lt o) (by omega) W.out).mono ?_;intro e w4 b;unfold ql at b;rcases u:gm r2 with _|⟨d,Y,L⟩
     ·have F:=ad (E.out.trans (Ij u));rw[u] at b;obtain⟨rfl,D⟩:=b;have y:=ad (m.out.aN D (by omega) o l.out);clear D u W m h;go_wp2
      go_roundg (s.size-(k+j+1))
      case measure=>omega
      case rel=>exact⟨k+j+1,by omega,by omega,by go_num,ad (wB x.out z.out F.out),ad y.out.below,ad y.out.box⟩
     ·rw[u] at b;obtain⟨rfl,am,D⟩:=b;have y:=ad (m.out.aN D (by omega) o l.out);have ac:=ad am;have a7:=A7 u;have F:=ad (E.out.trans (Ik u));clear am D u W m h;obtain⟨a,c,h,n⟩:=mf y.out.four;clear a c h;go_wp2_with fail;rw[rounds_succ];go_wp2_with fail;refine(UH p L nm K d J Y _ ac.out).mono ?_;rintro e w5⟨rfl,an,ap⟩;have T:=ad (y.out.aN ap (by omega) o l.out);have af:=ad an;clear an ap ac y n;rcases H:Lib.hasPrefix L [41] with _|_
      ·have O:=ad (F.out.trans (UG H));go_wp2
       go_roundg (s.size-(k+j+1))
       case measure=>omega
       case rel=>exact⟨k+j+1,by omega,by omega,by go_num,ad (wB x.out z.out O.out),ad T.out.below,ad T.out.box⟩
      ·have O:=ad (LN x.out z.out (F.out.trans (Sy H)));have av:=fK H;clear H;have aU:(Lib.trimPrefix L [41]).length≤s.size:=by simp only[mF] at av;omega
       clear av;generalize Lib.trimPrefix L [41]=M at*;have bd:(M.length:Int)≤(s.size:Int):=by omega
       have r:=ad (ended T.out af.out o (.int .i64 ((k:Int)+(j:Int))) (.int .i64 ((s.size:Int)-(M.length:Int))));obtain⟨⟨a1,a2⟩,a3,a4⟩:=r.out.2;obtain⟨d1,d2,d3,d4,d5,d6,d7⟩:=r.out.1.cells;obtain⟨⟨b0,b1,b2,b3,b4,b5,b6⟩,g0,g1,g2,g3,g4,g5,g6⟩:=vw r.out.1.box;have a:=af.out.rc.c0;have B:=ad (VN (.int .i64 ((k:Int)+(j:Int))) (.int .i64 ((s.size:Int)-(M.length:Int))) (.string ⟨nm.toArray⟩) (.string ⟨K.toArray⟩) (.string ⟨d.toArray⟩) (.bool J) (.bool Y) r.out.1.below (ag _) r.out.1.box);go_wp2_with fail;rw[rounds_succ];go_wp2_with fail;clear a1 a2 a3 a4 d1 d2 d3 d4 d5 d6 d7 b0 b1 b2 b3 b4 b5 b6 g0 g1 g2 g3 g4 g5 g6 a;obtain⟨k0,k1,k2,k3,k4,k5,k6⟩:=B.out.1;try rw [Exit.noGoto_ret]
       refine aD (v:=pv (some (vy s.data.toList.length (k+j) ⟨nm,K,d,J,Y,M⟩))) ?_ rfl ⟨by rw[←O.out],B.out.2⟩;rw[LL _ _ _ (by rw[bj];exact aU),bj];simp[results,Tryz.f138,go_sem,k0,k1,k2,k3,k4,k5,k6]
