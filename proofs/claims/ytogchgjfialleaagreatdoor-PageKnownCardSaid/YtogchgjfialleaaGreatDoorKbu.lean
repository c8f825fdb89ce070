/- A statement whose order is open, its last operations behind all others, one behind the other: those ahead are shown once, by themselves. -/
import Derived.Test.YtogchgjfialleaaGreatDoorKbt
set_option linter.unusedVariables false
set_option maxRecDepth 100000
set_option maxHeartbeats 2000000
namespace Go.Proofs.YtogchgjfialleaaGreatDoor
open Go.RowKit
def BX(w:World)(h t:ByteArray)(fs:List dQ)(e:Ending)(w':World):Prop:=
 ∃a b,e=.returned (.agg #[.string h,.string t,.slice a fs.length b])∧qV w' w.heap.size (.slice a fs.length b) fs∧Below w.heap.size w w'
theorem mP{W:World}{base b j:Nat}{v x:Value}{fs:List dQ}(h:qV W base v fs)(d:b<base):qV (W.setCell ⟨b,j,none⟩ x) base v fs:=by have a:W.grownBy (W.setCell ⟨b,j,none⟩ x) (some b):=⟨rfl,rfl,rfl,by rw[show(W.setCell ⟨b,j,none⟩ x).heap.size=W.heap.size by simp[World.setCell]];exact ag _,fun k _ c=>Below.heap_setCell W ⟨b,j,none⟩ x k (fun e=>c (by rw[e]))⟩;refine h.kept a (.inr fun e=> ?_);have:=(h.lt b e).1;omega
theorem Ax{W:World}{b1 b2:Nat}{v:Value}{fs:List dQ}(h:qV W b1 v fs)(b:b2≤b1):qV W b2 v fs:=by
 refine⟨h.1, ?_⟩;rcases h.2 with h|⟨g,cap,a,e,c,d⟩
 ·exact .inl h
 ·exact .inr ⟨g,cap,a,e,bP b c,d⟩
theorem Ur{w W0 c:World}{a:Option Addr}{b:Nat}{fs:List dQ}{h t:ByteArray}{l m n:Value}(e:qV c W0.drew.heap.size (.slice a (([]:List dQ).length+fs.length) b) ([]++fs))(k:Below W0.heap.size W0 c)(o:W0.heap.size=w.heap.size+1+1)(d:Below w.heap.size w W0)
 (n2:c.heap[w.heap.size+1]? =some (.cells #[l,m,n] 47)):
 ((((c.setCell ⟨w.heap.size+1,0,none⟩ (.string h)).setCell ⟨w.heap.size+1,1,none⟩ (.string t)).setCell ⟨w.heap.size+1,2,none⟩ (.slice a fs.length b)).cell? ⟨w.heap.size+1,0,none⟩=some (.string h)∧
 (((c.setCell ⟨w.heap.size+1,0,none⟩ (.string h)).setCell ⟨w.heap.size+1,1,none⟩ (.string t)).setCell ⟨w.heap.size+1,2,none⟩ (.slice a fs.length b)).cell? ⟨w.heap.size+1,1,none⟩=some (.string t)∧
 (((c.setCell ⟨w.heap.size+1,0,none⟩ (.string h)).setCell ⟨w.heap.size+1,1,none⟩ (.string t)).setCell ⟨w.heap.size+1,2,none⟩ (.slice a fs.length b)).cell? ⟨w.heap.size+1,2,none⟩=some (.slice a fs.length b))∧
 BX w h t fs (.returned (.agg #[.string h,.string t,.slice a fs.length b])) (((c.setCell ⟨w.heap.size+1,0,none⟩ (.string h)).setCell ⟨w.heap.size+1,1,none⟩ (.string t)).setCell ⟨w.heap.size+1,2,none⟩ (.slice a fs.length b)):=by
 rw[kK,show([]:List dQ).length+fs.length=fs.length by simp] at e;have r:=aw (j:=2) (v:=.slice a fs.length b) (aw (j:=1) (v:=.string t) (aw (j:=0) (v:=.string h) n2));refine⟨⟨cell_of_row _ _ 0 _ _ _ r,cell_of_row _ _ 1 _ _ _ r,cell_of_row _ _ 2 _ _ _ r⟩,a,b,rfl,Ax (mP (mP (mP e ?_) ?_) ?_) ?_, ?_⟩
 ·show _<W0.heap.size;omega
 ·show _<W0.heap.size;omega
 ·show _<W0.heap.size;omega
 ·show _≤W0.heap.size;omega
 ·have i:=d.trans (k.mono d.size);exact((i.setCell (p:=⟨w.heap.size+1,0,none⟩) (by show w.heap.size≤w.heap.size+1;omega) _).setCell (p:=⟨w.heap.size+1,1,none⟩) (by show w.heap.size≤w.heap.size+1;omega) _).setCell (p:=⟨w.heap.size+1,2,none⟩) (by show w.heap.size≤w.heap.size+1;omega) _
theorem Ry(m t l h:ByteArray)(o:Int)(a:Option Addr)(n c:Nat)(fs:List dQ)(w:World)(hF:aZ w (.slice a n c) fs)(V:fs.length≤1000):
 Calls Tryz.prog 20 #[.agg #[.string m,.string t,.int .i64 o,.slice a n c,.string l],.string h] w (BX w h t fs):=by
 have I:([]:List dQ).length+fs.length≤100000:=by simp;omega
 have r:=Lib.hid (jG w (.cells #[.string m,.string t,.int .i64 o,.slice a n c,.string l] 37) (.cells #[.string ⟨#[]⟩,.string ⟨#[]⟩,.slice none 0 0] 47));have q:=Lib.hid hF;clear hF;go_enter Tryz.func20,Tryz.ntmps20;go_wp2_with fail;generalize(w.alloc (.cells #[.string m,.string t,.int .i64 o,.slice a n c,.string l] 37)).alloc (.cells #[.string ⟨#[]⟩,.string ⟨#[]⟩,.slice none 0 0] 47)=W0 at*;obtain⟨n1,n2,J,i⟩:=r.out;have x:aZ W0.drew (.slice a n c) fs:=(q.out.below i).below (Below.refl _ _).drew;have T:w.heap.size≤W0.drew.heap.size:=i.size;have B:=Lib.hid x;clear q r x;have s:=cell_of_row W0 _ 1 _ _ _ n1;have u:=cell_of_row W0 _ 3 _ _ _ n1;have R:=Lib.hid n1;have C:=Lib.hid n2;have A:=Lib.hid i;clear n1 n2 i;go_region_law (
  (refine Kn (by rfl) _ _ (by rfl) _ _ fs [] W0.drew.heap.size (by rfl) (by rfl) B.out (MS _ _) I (ag _) ?_;intro D E d z y;have j:Below W0.heap.size W0 d:=(Below.refl W0.heap.size W0).drew.trans (C0 y (fun k e=>by cases e) (ag _));have d1:=((eR j).1 _ 1 (aV s)).trans s;have S:=((eR j).1 _ 3 (aV u)).trans u;have b:=(j.block (w.heap.size+1) (by omega)).trans C.out;have F:=cell_of_row d _ 0 _ _ _ b;have G:=cell_of_row d _ 1 _ _ _ b;have H:=cell_of_row d _ 2 _ _ _ b;have K:=frozen_of_row d _ 0 _ _ b;have L:=frozen_of_row d _ 1 _ _ b;have M:=frozen_of_row d _ 2 _ _ b))
 all_goals
  have p:=Lib.hid (Ur (h:=h) (t:=t) z j J A.out b);clear b F G H K L M z y;obtain⟨N,O,Q⟩:=p.out.1;go_wp2;refine bodyPost_ret (v:=.agg #[.string h,.string t,.slice D fs.length E]) ?_ rfl p.out.2;simp[results,Tryz.f20,go_sem,N,O,Q]
abbrev km(u:U)(m t:ByteArray)(h:Int)(a:Option Addr)(n c:Nat)(b host:ByteArray)(e d:Int):List Value:=[.string ⟨u.scheme.toArray⟩,.string ⟨u.host.toArray⟩,.int .i64 u.port,.string ⟨u.path.toArray⟩,.string ⟨u.query.toArray⟩,.bool u.hq,.string m,.string t,.int .i64 h,.slice a n c,.string b,.string host,.int .i64 e,.int .i64 d]
theorem Oa{W:World}{b:Nat}{T:TypeId}{v0 v1 v2:Value}(u0 u1 u2:Value)(h:W.heap[b]? =some (.cells #[v0,v1,v2] T)):
 (((W.setCell ⟨b,0,none⟩ u0).setCell ⟨b,1,none⟩ u1).setCell ⟨b,2,none⟩ u2).heap[b]? =some (.cells #[u0,u1,u2] T):=by
 have c:(W.setCell ⟨b,0,none⟩ u0).heap[b]? =some (.cells #[u0,v1,v2] T):=aw (j:=0) h;generalize W.setCell ⟨b,0,none⟩ u0=a at*;have d:(a.setCell ⟨b,1,none⟩ u1).heap[b]? =some (.cells #[u0,u1,v2] T):=aw (j:=1) c;generalize a.setCell ⟨b,1,none⟩ u1=e at*;exact aw (j:=2) d
theorem BU{fn:Func}{W:World}{tmps:Array Value}{b c:Nat}{v0 v1 v2:Value}(h:fn.results=#[.cell c 47])(d:tmps.getD c undef=.pointer (some ⟨b,0,none⟩))(a:W.heap[b]? =some (.cells #[v0,v1,v2] 47)):
 (results fn tmps).run Tryz.prog W=.ok (.agg #[v0,v1,v2]) W:=by
 have i:=aj 0 a;have j:=aj 1 a;have k:=aj 2 a;have e:tmps[c]?.getD undef=.pointer (some ⟨b,0,none⟩):=by rw[←d];simp
 simp[results,h,go_sem,e,i,j,k]
theorem BV{fn:Func}{W:World}{tmps:Array Value}{b c:Nat}{v0 v1 v2 d e i j:Value}(h:fn.results=#[.cell c 50])(k:tmps.getD c undef=.pointer (some ⟨b,0,none⟩))(a:W.heap[b]? =some (.cells #[v0,v1,v2,d,e,i,j] 50)):
 (results fn tmps).run Tryz.prog W=.ok (.agg #[v0,v1,v2,d,e,i,j]) W:=by
 have m:=aj 0 a;have n:=aj 1 a;have o:=aj 2 a;have p:=aj 3 a;have q:=aj 4 a;have r:=aj 5 a;have s:=aj 6 a;have l:tmps[c]?.getD undef=.pointer (some ⟨b,0,none⟩):=by rw[←k];simp
 simp[results,h,go_sem,l,m,n,o,p,q,r,s]
theorem xA(u:U)(m t:ByteArray)(h:Int)(a:Option Addr)(n c:Nat)(d host:ByteArray)(k j:Int)(fs:List dQ)(w:World)(hF:aZ w (.slice a n c) fs)(B:fs.length≤1000):
 Calls Tryz.prog 12 #[.agg (km u m t h a n c d host k j).toArray] w (BX w host t fs):=by
 have z:=jX w (.cells (km u m t h a n c d host k j).toArray 39) (.cells #[.string ⟨#[]⟩,.string ⟨#[]⟩,.slice none 0 0] 47);have A:=iT w (.cells (km u m t h a n c d host k j).toArray 39) (.cells #[.string ⟨#[]⟩,.string ⟨#[]⟩,.slice none 0 0] 47);have o:Below w.heap.size w ((w.alloc (.cells (km u m t h a n c d host k j).toArray 39)).alloc (.cells #[.string ⟨#[]⟩,.string ⟨#[]⟩,.slice none 0 0] 47)):=(az w _).alloc (by rw[aO];omega) _;have D:((w.alloc (.cells (km u m t h a n c d host k j).toArray 39)).alloc (.cells #[.string ⟨#[]⟩,.string ⟨#[]⟩,.slice none 0 0] 47)).heap.size=w.heap.size+1+1:=by rw[aO,aO]
 have i:=ad z;have E:=ad A;have r:=ad o;have G:=ad D;have H:=ad (Ry m t d host h a n c fs _ (hF.below o) B);clear z A o D hF B;go_enter Tryz.func12,Tryz.ntmps12;go_upto_region 1 with fail;generalize(w.alloc (.cells (km u m t h a n c d host k j).toArray 39)).alloc (.cells #[.string ⟨#[]⟩,.string ⟨#[]⟩,.slice none 0 0] 47)=W at*;have K:=aj 6 i.out;have L:=aj 7 i.out;have M:=aj 8 i.out;have N:=aj 9 i.out;have I:=aj 10 i.out;have J:=aj 11 i.out;go_wp2_with fail;refine H.out.mono ?_;rintro e l⟨x,y,rfl,C,p⟩;have b:=ad (bz E.out p);have F:=ad C;have s:=ad (r.out.trans (p.mono r.out.size));clear K L M N I J C p;have T:=aj 0 b.out;have V:=aj 1 b.out;have X:=aj 2 b.out;have O:l.frozen? ⟨w.heap.size+1,0,none⟩=false:=aA b.out;have Q:l.frozen? ⟨w.heap.size+1,1,none⟩=false:=aA b.out;have R:l.frozen? ⟨w.heap.size+1,2,none⟩=false:=aA b.out;go_wp2_with fail;clear T V X O Q R;have S:=Oa (.string host) (.string t) (.slice x fs.length y) b.out;have q:w.heap.size+1<W.heap.size:=by have:=G.out;omega
 refine aD (BU rfl rfl S) rfl ⟨x,y,rfl,Ax (mP (mP (mP F.out q) q) q) (by omega),s.out.trans (((((ak.refl (w.heap.size+1) l).set).set).set).below (by omega) s.out.size)⟩
theorem sB(u:U)(m t:ByteArray)(j:Int)(a:Option Addr)(n c:Nat)(i host:ByteArray)(e d:Int)(w:World):
 Calls Tryz.prog 13 #[.agg (km u m t j a n c i host e d).toArray] w (cN w (.agg #[.string ⟨#[]⟩,.int .i64 0,.int .i64 0,.int .i64 e,.int .i64 d,.string ⟨#[]⟩,.slice none 0 0])):=by
 have o:=jX w (.cells (km u m t j a n c i host e d).toArray 39) (.cells #[.string ⟨#[]⟩,.int .i64 0,.int .i64 0,.int .i64 0,.int .i64 0,.string ⟨#[]⟩,.slice none 0 0] 50);have p:=iT w (.cells (km u m t j a n c i host e d).toArray 39) (.cells #[.string ⟨#[]⟩,.int .i64 0,.int .i64 0,.int .i64 0,.int .i64 0,.string ⟨#[]⟩,.slice none 0 0] 50);have q:Below w.heap.size w ((w.alloc (.cells (km u m t j a n c i host e d).toArray 39)).alloc (.cells #[.string ⟨#[]⟩,.int .i64 0,.int .i64 0,.int .i64 0,.int .i64 0,.string ⟨#[]⟩,.slice none 0 0] 50)):=(az w _).alloc (by rw[aO];omega) _;have k:=ad o;have b:=ad p;have l:=ad q;clear o p q;go_enter Tryz.func13,Tryz.ntmps13;go_upto_region 1 with fail;generalize(w.alloc (.cells (km u m t j a n c i host e d).toArray 39)).alloc (.cells #[.string ⟨#[]⟩,.int .i64 0,.int .i64 0,.int .i64 0,.int .i64 0,.string ⟨#[]⟩,.slice none 0 0] 50)=h at*;have r:=aj 12 k.out;have s:=aj 13 k.out;have G:=aj 0 b.out;have H:=aj 1 b.out;have I:=aj 2 b.out;have J:=aj 3 b.out;have K:=aj 4 b.out;have L:=aj 5 b.out;have M:=aj 6 b.out;have x:h.frozen? ⟨w.heap.size+1,0,none⟩=false:=aA b.out;have y:h.frozen? ⟨w.heap.size+1,1,none⟩=false:=aA b.out;have z:h.frozen? ⟨w.heap.size+1,2,none⟩=false:=aA b.out;have A:h.frozen? ⟨w.heap.size+1,3,none⟩=false:=aA b.out;have B:h.frozen? ⟨w.heap.size+1,4,none⟩=false:=aA b.out;have C:h.frozen? ⟨w.heap.size+1,5,none⟩=false:=aA b.out;have D:h.frozen? ⟨w.heap.size+1,6,none⟩=false:=aA b.out;go_wp2_with fail;clear r s G H I J K L M x y z A B C D;have E:=kS (.string ⟨#[]⟩) (.int .i64 0) (.int .i64 0) (.int .i64 e) (.int .i64 d) (.string ⟨#[]⟩) (.slice none 0 0) b.out;have F:=jy h (w.heap.size+1) (.string ⟨#[]⟩) (.int .i64 0) (.int .i64 0) (.int .i64 e) (.int .i64 d) (.string ⟨#[]⟩) (.slice none 0 0);exact aD (BV rfl rfl E) rfl ⟨rfl,l.out.trans (F.below (by omega) l.out.size)⟩
theorem GN{W:World}{b:Nat}{a:Array Value}{t:TypeId}(fs:List dQ)(h:W.heap[b]? =some (.cells a t))(e:a=(eX fs).toArray):aZ W (.slice (some ⟨b,0,none⟩) fs.length fs.length) fs:=by subst e;refine .inr ⟨b,0,fs.length,rfl,ag _,(aB.1 h).1,fun j f i=> ?_⟩;obtain⟨c,d⟩:=tJ fs j f i;rw[dH];exact⟨(tH _ _ _ _ _ _ h).trans (by simpa using c),(tH _ _ _ _ _ _ h).trans (by simpa using d)⟩
end Go.Proofs.YtogchgjfialleaaGreatDoor
namespace Go.Proofs.YtogchgjfialleaaGreatDoor
open Go.RowKit
structure oB where
 p:Value→World→Prop
 up:∀v w w',Below w.heap.size w w'→p v w→p v w'
def oB.is(v0:Value):oB:=⟨fun v _=>v=v0,fun _ _ _ _ h=>h⟩
def xU(o:Oper)(a:Act)(v:Value):Prop:=match o.dst with|some d=>a.tmps[d]? =some v|none=>True
def vS(L:List Oper)(Φ:List oB)(a:Act)(w:World)(i:Nat):Prop:=
 match L[i]?,Φ[i]? with
 |some o,some p=>∃v,xU o a v∧p.p v w
 |_,_=>True
structure pg (L:List Oper) (a0 a:Act):Prop where
 size:a.tmps.size=a0.tmps.size
 defers:a.defers=a0.defers
 other:∀d,(∀o∈L,o.dst≠some d)→a.tmps[d]? =a0.tmps[d]?
def VG(P:Program)(L:List Oper)(Φ:List oB)(a0:Act)(W:World)(Q:Exit→Act→World→Prop)(o:Oper)(p:oB):Prop:=
 ∀a w,Below W.heap.size W w→pg L a0 a→(∀e∈o.after.toList,Region.binds .any e=true→vS L Φ a w e.on)→
  if Region.wanted o (yielded L.toArray a.tmps)=true then Oper.wp P o a w (fun b w'=>∃v,b=a.put o.dst v∧Below w.heap.size w w'∧p.p v w') Q else p.p undef w
def Ep(P:Program)(L:List Oper)(Φ:List oB)(a0:Act)(W:World)(Q:Exit→Act→World→Prop):List Oper→List oB→Prop
 |[],[]=>True
 |o::l,p::a=>VG P L Φ a0 W Q o p∧Ep P L Φ a0 W Q l a
 |_,_=>False
def sN(n:Nat):List Oper→Bool
 |[]=>true
 |o::l=>(match o.dst with|none=>true|some d=>decide (d<n)&&l.all fun a=>a.dst !=some d)&&sN n l
def vo:Nat→List Oper→Bool
 |_,[]=>true
 |k,o::l=>(o.after.toList.all fun e=> !Region.binds .any e||decide (e.on<k))&&vo (k+1) l
def eB:List Oper→List Value→Act→Act
 |o::l,v::vs,a=>eB l vs (a.put o.dst v)
 |_,_,a=>a
def Et:List oB→List Value→World→Prop
 |[],[],_=>True
 |p::a,v::vs,w=>p.p v w∧Et a vs w
 |_,_,_=>False
def jB:List Bool→Nat
 |[]=>0
 |b::r=>(bif b then 0 else 1)+jB r
section
variable{P:Program}{L:List Oper}{Φ:List oB}{a0:Act}{W:World}{Q:Exit→Act→World→Prop}
theorem xT:∀(l:List Bool) (i:Nat),l[i]? =some false→jB (l.set i true)+1=jB l
 |[],_,h=>by simp at h
 |b::r,0,h=>by simp at h;subst h;simp[jB];omega
 |b::r,i+1,h=>by have:=xT r i (by simpa using h);simp only[kh,jB];omega
theorem vp:∀{l:List Bool},jB l=0→∀i,i<l.length→l[i]? =some true
 |[],_,i,h=>by simp at h
 |b::r,h,i,a=>by
  simp only[jB] at h;cases b
  ·simp at h
  ·cases i with
   |zero=>rfl
   |succ i=>simpa using vp (l:=r) (by simp at h;exact h) i (by simpa using a)
theorem xW:∀n,jB (List.replicate n false)=n
 |0=>rfl
 |n+1=>by rw[List.replicate_succ,jB,xW n];simp;omega
theorem AX:∀{l:List Oper} {b:List oB} {i:Nat} {o:Oper},Ep P L Φ a0 W Q l b→l[i]? =some o→∃p,b[i]? =some p∧VG P L Φ a0 W Q o p
 |[],_,_,_,_,h=>by simp at h
 |o::l,[],_,_,h,_=>by cases h
 |o::l,p::b,0,c,h,a=>by simp at a;subst a;exact⟨p,rfl,h.1⟩
 |o::l,p::b,i+1,c,h,a=>by obtain⟨q,d,e⟩:=AX h.2 (show l[i]? =some c by simpa using a);exact⟨q,by simpa using d,e⟩
theorem uo:∀{l:List Oper} {a:List oB},Ep P L Φ a0 W Q l a→a.length=l.length
 |[],[],_=>rfl
 |[],_::_,h=>by cases h
 |_::_,[],h=>by cases h
 |o::l,p::a,h=>by rw[bF,bF,uo h.2]
theorem AY{n:Nat}:∀{l:List Oper},sN n l=true→∀{i j:Nat} {o q:Oper} {d:Nat},l[i]? =some o→l[j]? =some q→o.dst=some d→q.dst=some d→i=j
 |[],_,_,_,_,_,_,h,_,_,_=>by simp at h
 |o0::l,c,i,j,o,q,d,a,b,e,m=>by
  unfold sN at c;rw[cW] at c;have key:∀{o1:Oper} {k:Nat},o0.dst=some d→l[k]? =some o1→o1.dst=some d→False:=fun{o1 k} r s t=>by have p:=c.1;rw[r] at p;simp only[cW,eV] at p;have:=p.2 o1 (eQ s);rw[t] at this;simp at this
  cases i with
  |zero=>
   simp at a;subst a;cases j with
   |zero=>rfl
   |succ j=>exact(key e (by simpa using b) m).elim
  |succ i=>
   cases j with
   |zero=>simp at b;subst b;exact(key m (by simpa using a) e).elim
   |succ j=>exact congrArg (·+1) (AY c.2 (by simpa using a) (by simpa using b) e m)
theorem G9{n:Nat}:∀{l:List Oper},sN n l=true→∀{i:Nat} {o:Oper} {d:Nat},l[i]? =some o→o.dst=some d→d<n
 |[],_,_,_,_,h,_=>by simp at h
 |o0::l,a,i,o,d,b,e=>by
  unfold sN at a;rw[cW] at a;cases i with
  |zero=>simp at b;subst b;have c:=a.1;rw[e] at c;simp only[cW,eM] at c;exact c.1
  |succ i=>exact G9 a.2 (by simpa using b) e
theorem um:∀{l:List Oper} {k:Nat},vo k l=true→∀{i:Nat} {o:Oper},l[i]? =some o→∀e∈o.after.toList,Region.binds .any e=true→e.on<k+i
 |[],_,_,_,_,h,_,_,_=>by simp at h
 |o0::l,k,a,i,o,h,e,c,b=>by
  unfold vo at a;rw[cW,eV] at a;cases i with
  |zero=>simp at h;subst h;have:=a.1 e c;rw[b] at this;simpa using this
  |succ i=>have:=um a.2 (show l[i]? =some o by simpa using h) e c b;omega
theorem xV{a:Act}{dst:Option Tmp}{v:Value}{d:Nat}(h:dst≠some d):(a.put dst v).tmps[d]? =a.tmps[d]? :=by
 cases dst with
 |none=>rfl
 |some d2=>show(a.tmps.setIfInBounds d2 v)[d]? =_;rw[Km (by intro e;exact h (by rw[e]))]
theorem Er{a:Act}{v:Value}{d:Nat}(h:d<a.tmps.size):(a.put (some d) v).tmps[d]? =some v:=by show(a.tmps.setIfInBounds d v)[d]? =_;rw[Array.getElem?_setIfInBounds_self_of_lt h]
theorem xX(a:Act)(dst:Option Tmp)(v:Value):(a.put dst v).tmps.size=a.tmps.size:=by
 cases dst with
 |none=>rfl
 |some d=>show(a.tmps.setIfInBounds d v).size=_;simp
theorem put_defers(a:Act)(dst:Option Tmp)(v:Value):(a.put dst v).defers=a.defers:=by cases dst<;>rfl
theorem pg.put{a:Act}(h:pg L a0 a){o:Oper}(c:o∈L)(v:Value):pg L a0 (a.put o.dst v):=
 ⟨(xX _ _ _).trans h.size,(put_defers _ _ _).trans h.defers,fun d b=>(xV (b o c)).trans (h.other d b)⟩
theorem rF{d:Nat}:∀{l:List Oper} {vs:List Value} {a:Act},(∀o∈l,o.dst≠some d)→(eB l vs a).tmps[d]? =a.tmps[d]?
 |[],_,_,_=>by unfold eB;rfl
 |o::l,[],_,_=>by unfold eB;rfl
 |o::l,v::vs,a,h=>by unfold eB;rw[rF (fun c b=>h c (by simp[b])),xV (h o (by simp))]
theorem qO:∀(l:List Oper) (vs:List Value) (a:Act),(eB l vs a).defers=a.defers
 |[],_,_=>by unfold eB;rfl
 |o::l,[],_=>by unfold eB;rfl
 |o::l,v::vs,a=>by unfold eB;rw[qO,put_defers]
theorem AZ{n d:Nat}:∀{l:List Oper} {vs:List Value} {a:Act} {i:Nat} {o:Oper} {v:Value},sN n l=true→n≤a.tmps.size→l[i]? =some o→o.dst=some d→vs[i]? =some v→(eB l vs a).tmps[d]? =some v
 |[],_,_,_,_,_,_,_,h,_,_=>by simp at h
 |o0::l,[],_,_,_,_,_,_,_,_,h=>by simp at h
 |o0::l,v0::vs,a,0,o,v,b,p,j,c,k=>by simp at j k;subst j;subst k;unfold eB;have m:=b;unfold sN at m;rw[cW,c] at m;simp only[cW,eV,eM] at m;rw[rF (fun r q e=>by have:=m.1.2 r q;rw[e] at this;simp at this),c,Er (by have:=G9 b (show(o0::l)[0]? =some o0 from rfl) c;omega)]
 |o0::l,v0::vs,a,i+1,o,v,b,p,j,c,k=>by unfold eB;unfold sN at b;rw[cW] at b;exact AZ b.2 (by rw[xX];exact p) (by simpa using j) c (by simpa using k)
theorem JR{p:Nat→Value→Prop}:∀n:Nat,(∀i,i<n→∃x,p i x)→∃l:List Value,l.length=n∧∀i x,l[i]? =some x→p i x
 |0,_=>⟨[],rfl,fun i x h=>by simp at h⟩
 |n+1,h=>by
  obtain⟨l,b,d⟩:=JR n fun i c=>h i (by omega);obtain⟨x,e⟩:=h n (by omega);refine⟨l++[x],by simp[b],fun i y a=> ?_⟩;by_cases c:i<n
  ·rw[qC (by omega)] at a;exact d i y a
  ·have:i=n:=by have:=(cH.1 a).1;simp at this;omega
   subst this;rw[jL (by omega),b] at a;simp at a;subst a;exact e
theorem Ev:∀{a:List oB} {vs:List Value} {w:World},vs.length=a.length→(∀(i:Nat) (p:oB) (v:Value),a[i]? =some p→vs[i]? =some v→p.p v w)→Et a vs w
 |[],[],_,_,_=>trivial
 |[],_::_,_,h,_=>by simp at h
 |_::_,[],_,h,_=>by simp at h
 |p::a,v::vs,w,d,h=>⟨h 0 p v rfl rfl,Ev (by simpa using d) fun i e v' b c=>h (i+1) e v' (by simpa using b) (by simpa using c)⟩
theorem Uu{a:Act}{w:World}(x:Φ.length=L.length)(u:sN a0.tmps.size L=true)(n:pg L a0 a)(h:∀i,i<L.length→vS L Φ a w i):∃vs,Et Φ vs w∧a=eB L vs a0:=by
 obtain⟨vs,y,k⟩:=JR (p:=fun i v=>∀o p,L[i]? =some o→Φ[i]? =some p→xU o a v∧p.p v w) L.length fun i c=>by have:=h i c;unfold vS at this;rw[cA c,cA (show i<Φ.length by omega)] at this;obtain⟨v,b,j⟩:=this;refine⟨v,fun o p l k=> ?_⟩;rw[cA c] at l;rw[cA (show i<Φ.length by omega)] at k;cases l;cases k;exact⟨b,j⟩
 refine⟨vs,Ev (by omega) fun i p v b j=> ?_, ?_⟩
 ·have c:i<L.length:=by have:=(cH.1 b).1;omega
  exact(k i v j _ p (cA c) b).2
 ·have s:a.tmps=(eB L vs a0).tmps:=by
   refine Array.ext_getElem? fun d=> ?_;by_cases hex:∃(i:Nat) (o:Oper),L[i]? =some o∧o.dst=some d
   ·obtain⟨i,o,b,j⟩:=hex;have c:i<L.length:=(cH.1 b).1;have t:vs[i]? =some (vs[i]'(by omega)):=cA _
    have m:=(k i _ t o (Φ[i]'(by omega)) b (cA _)).1
    unfold xU at m;rw[j] at m;rw[AZ u (ag _) b j t];exact m
   ·have r:∀o∈L,o.dst≠some d:=fun o l e=>by obtain⟨i,c⟩:=zP.1 l;exact hex ⟨i,o,c,e⟩
    rw[rF r];exact n.other d r
  have q:a.defers=(eB L vs a0).defers:=by rw[qO];exact n.defers
  cases a;simp only at s q;rw[s,q]
end
end Go.Proofs.YtogchgjfialleaaGreatDoor
namespace Go.Proofs.YtogchgjfialleaaGreatDoor
open Go.RowKit
theorem mv{L:List Oper}{Φ:List oB}{a:Act}{w:World}{o:Oper}(h:∀e∈o.after.toList,Region.binds .any e=true→vS L Φ a w e.on)(k:Nat)(d:(o.after.toList.any fun e=>Region.binds .any e&&e.on==k)=true):vS L Φ a w k:=by obtain⟨e,c,b⟩:=lF.1 d;rw[cW,bZ] at b;rw[←b.2];exact h e c b.1
theorem lX{L:List Oper}{a0 a:Act}(h:pg L a0 a)(d:Nat){v:Value}(b:(L.all fun o=>o.dst !=some d)=true)(i:a0.tmps[d]? =some v):a.tmps[d]? =some v:=by rw[←i];refine h.other d fun o c e=> ?_;have:=eV.1 b o c;rw[e] at this;simp at this
end Go.Proofs.YtogchgjfialleaaGreatDoor
namespace Go.Proofs.YtogchgjfialleaaGreatDoor
open Go.RowKit
def pf(L:List Oper):Nat→Nat→Nat→Bool
 |0,_,_=>false
 |f+1,j,i=>match L[j]? with
  |some o=>(o.after.toList.any fun e=>Region.binds .any e&&e.on==i)||(o.after.toList.any fun e=>Region.binds .any e&&pf L f e.on i)
  |none=>false
def AS(n:Nat)(L:List Oper):Bool:=((List.range L.length).drop n).all fun j=>(List.range j).all fun i=>pf L L.length j i
def qj(L:List Oper)(listed:Array Bool):Prop:=∀(j:Nat) (o:Oper) (e:Edge),listed[j]? =some true→L[j]? =some o→e∈o.after.toList→Region.binds .any e=true→listed[e.on]? =some true
def mw(P:Program)(ops:Array Oper)(Q:Exit→Act→World→Prop):List Oper→Act→World→Prop
 |[],a,w=>Q .normal a w
 |o::l,a,w=>if Region.wanted o (yielded ops a.tmps)=true then Oper.wp P o a w (fun b w'=>mw P ops Q l b w') Q else mw P ops Q l (a.put o.dst undef) w
def xB(f:Nat→Value):List Oper→Nat→Act→Act
 |[],_,a=>a
 |o::l,i,a=>xB f l (i+1) (a.put o.dst (f i))
theorem AT(f:Nat→Value):∀(L:List Oper) (vs:List Value) (i:Nat) (a:Act),vs.length=L.length→(∀j v,vs[j]? =some v→f (i+j)=v)→eB L vs a=xB f L i a
 |[],[],_,_,_,_=>by unfold eB xB;rfl
 |[],_::_,_,_,h,_=>by simp at h
 |_::_,[],_,_,h,_=>by simp at h
 |o::L,v::vs,i,a,h,c=>by unfold eB xB;have b:=c 0 v rfl;rw[qF] at b;rw[b];exact AT f L vs (i+1) _ (by simpa using h) fun j v' d=>by have:=c (j+1) v' (by simpa using d);rw[←this];congr 1;omega
section
variable{P:Program}{L:List Oper}{Φ:List oB}{a0:Act}{W:World}{Q:Exit→Act→World→Prop}{n:Nat}
theorem xQ{f j i:Nat}(h:pf L (f+1) j i=true):∃o,L[j]? =some o∧∃e∈o.after.toList,Region.binds .any e=true∧(e.on=i∨pf L f e.on i=true):=by
 unfold pf at h;cases c:L[j]? with
 |none=>rw[c] at h;cases h
 |some o=>
  rw[c] at h;refine⟨o,rfl, ?_⟩;rcases Bool.or_eq_true_iff.1 h with h|h
  ·obtain⟨e,b,a⟩:=lF.1 h;rw[cW,bZ] at a;exact⟨e,b,a.1,.inl a.2⟩
  ·obtain⟨e,b,a⟩:=lF.1 h;rw[cW] at a;exact⟨e,b,a.1,.inr a.2⟩
theorem sM{listed:Array Bool}(c:qj L listed):∀(f j i:Nat),listed[j]? =some true→pf L f j i=true→listed[i]? =some true
 |0,_,_,_,h=>by unfold pf at h;cases h
 |f+1,j,i,l,h=>by
  obtain⟨o,m,e,k,d,a⟩:=xQ h;have b:=c j o e l m k d;rcases a with rfl|a
  ·exact b
  ·exact sM c f e.on i b a
theorem G7(a:AS n L=true){i j:Nat}(e:n≤j)(b:i<j)(d:j<L.length):pf L L.length j i=true:=by
 unfold AS at a;have c:j∈(List.range L.length).drop n:=by rw[zP];exact⟨j-n,by rw[qD,List.getElem?_range (by omega)];congr 1;omega⟩
 exact eV.1 (eV.1 a j c) i (List.mem_range.2 b)
theorem AU{listed:Array Bool}{k:Nat}(h:listed.getD k false=true):listed[k]? =some true:=by
 rw[F5] at h;cases a:listed[k]? with
 |none=>rw[a] at h;cases h
 |some b=>rw[a] at h;simp at h;rw[h]
theorem G8{listed:Array Bool}(r:qj L listed){i:Nat}(t:i∈Region.ready .any L.toArray listed):qj L (listed.setIfInBounds i true):=by
 intro j o e d n c b;have p:∀k:Nat,listed[k]? =some true→(listed.setIfInBounds i true)[k]? =some true:=fun k l=>by
  by_cases m:k=i
  ·subst m;rw[Array.getElem?_setIfInBounds_self_of_lt (aB.1 l).1]
  ·rw[Km (eo m)];exact l
 by_cases h:j=i
 ·subst h;obtain⟨_,q,s,u⟩:=mem_ready.1 t;have:q=o:=by
   have a:L[j]? =some q:=by simpa using s
   rw[n] at a;exact(iS a).symm
  subst this;exact p _ (AU (u e (by simpa using c) b))
 ·rw[Km (eo h)] at d;exact p _ (r j o e d n c b)
theorem Ly(c:vo 0 L=true){listed:Array Bool}{k:Nat}(h:∀i,i<L.length→listed[i]? =some (decide (i<k))):qj L listed:=by
 intro j o e a b l d;have m:=(cH.1 b).1;have n:=um c (i:=j) (o:=o) b e l d;rw[h j m] at a;have:j<k:=by simpa using a
 rw[h e.on (by omega),bN (by omega)]
theorem AW(d:vo 0 L=true){listed:Array Bool}(m:listed.size=L.length){k:Nat}(a:k<L.length)(b:listed[k]? =some false)(c:∀i,i<k→listed[i]? =some true):k∈Region.ready .any L.toArray listed:=by
 refine mem_ready.2 ⟨?_,L[k],by simp[a],fun e j h=> ?_⟩
 ·rw[F5,b];rfl
 ·have l:=um d (i:=k) (o:=L[k]) (cA a) e (by simpa using j) h;rw[F5,c e.on (by omega)];rfl
theorem xR(w:AS n L=true){listed:Array Bool}(j:qj L listed){k:Nat}(s:n≤k)(h:k∈Region.ready .any L.toArray listed):∀i,i<k→listed[i]? =some true:=by
 intro i q;obtain⟨_,o,d,x⟩:=mem_ready.1 h;have r:k<L.length:=by have:=(aB.1 d).1;simpa using this
 obtain⟨f,p⟩:∃f,L.length=f+1:=⟨L.length-1,by omega⟩;have c:=G7 w s q r;rw[p] at c;obtain⟨y,t,e,m,l,a⟩:=xQ c;have u:y=o:=by
  have:L[k]? =some o:=by simpa using d
  rw[t] at this;exact iS this
 subst u;have b:=AU (x e (by simpa using m) l);rcases a with rfl|a
 ·exact b
 ·exact sM j f e.on i b a
theorem xS(t:vo 0 L=true)(E:AS n L=true):∀(T:List Oper) (k b:Nat) (listed:Array Bool) (a:Act) (w:World),L.drop k=T→n≤k→k+T.length=L.length→listed.size=L.length→(∀i,i<L.length→listed[i]? =some (decide (i<k)))→T.length≤b→mw P L.toArray Q T a w→wpAny P .any L.toArray Q b listed a w
 |[],k,b,listed,a,w,s,M,p,y,d,u,h=>by
  have l:Region.ready .any L.toArray listed=[]:=by
   cases l:Region.ready .any L.toArray listed with
   |nil=>rfl
   |cons i r=>
    exfalso;obtain⟨m,o,N,_⟩:=mem_ready.1 (show i∈Region.ready .any L.toArray listed by rw[l];simp);have c:i<L.length:=by have:=(aB.1 N).1;simpa using this
    rw[F5,d i c] at m;simp only[lH,qF] at p;simp[show i<k by omega] at m
  unfold mw at h;cases b with
  |zero=>exact⟨l,h⟩
  |succ b=>exact⟨fun _=>h,fun i c=>(by rw[l] at c;cases c)⟩
 |o::T,k,b,listed,a,w,s,M,p,y,d,u,h=>by
  have x:k<L.length:=by simp only[bF] at p;omega
  obtain⟨b,rfl⟩:∃f,b=f+1:=⟨b-1,by simp only[bF] at u;omega⟩;have D:=AW t y x (by rw[d k x];simp) fun i c=>by rw[d i (by omega)];simp[c]
  have K:L[k]? =some o:=by have:=qD (xs:=L) (i:=k) (j:=0);rw[s] at this;simpa using this.symm
  refine⟨fun l=>(by rw[l] at D;cases D),fun i c=> ?_⟩;have I:i=k:=by
   obtain⟨m,S,O,_⟩:=mem_ready.1 c;have H:i<L.length:=by have:=(aB.1 O).1;simpa using this
   rw[F5,d i H] at m;have R:k≤i:=by simpa using m
   by_cases G:i=k
   ·exact G
   ·have z:=xR E (Ly t d) (by omega) c k (by omega);rw[d k x] at z;simp at z
  subst I;have B:∀e w',mw P L.toArray Q T e w'→wpAny P .any L.toArray Q b (listed.setIfInBounds i true) e w':=fun e w' q=>by
   refine xS t E T (i+1) b _ e w' ?_ (by omega) (by simp only[bF] at p;omega) (by simpa using y) (fun j J=> ?_) (by simp only[bF] at u;omega) q
   ·rw[←fh,s];rfl
   ·by_cases C:j=i
    ·subst C;rw[Array.getElem?_setIfInBounds_self_of_lt (by omega)];simp
    ·rw[Km (eo C),d j J];congr 1;by_cases A:j<i
     ·rw[bN A,bN (by omega)]
     ·rw[cL A,cL (by omega)]
  unfold mw at h;unfold wpOp;simp only[show L.toArray[i]? =some o by simpa using K];by_cases F:Region.wanted o (yielded L.toArray a.tmps)=true
  ·rw[ah F] at h⊢;exact .inl (Oper.wp_mono (fun e w' q=>B e w' q) h)
  ·rw[ae F] at h⊢;exact B _ _ h
theorem pg.wide{a:Act}(h:pg (L.take n) a0 a):pg L a0 a:=⟨h.size,h.defers,fun d b=>h.other d fun o c=>b o (List.mem_of_mem_take c)⟩
theorem Sa(M:vo 0 L=true)(V:sN a0.tmps.size L=true)(S:AS n L=true)(hn:n≤L.length)(hU:Ep P L Φ a0 W Q (L.take n) Φ)
 (T:∀a w,Below W.heap.size W w→pg (L.take n) a0 a→(∀i,i<n→vS L Φ a w i)→mw P L.toArray Q (L.drop n) a w):
 ∀(q:Nat) (listed:Array Bool) (a:Act) (w:World),listed.size=L.length→jB listed.toList≤q→(∀i,n≤i→i<L.length→listed[i]? =some false)→qj L listed→Below W.heap.size W w→pg (L.take n) a0 a→(∀i,listed[i]? =some true→vS L Φ a w i)→wpAny P .any L.toArray Q q listed a w:=by
 have am:∀(l:List Bool) (m:Nat),(∀i,m≤i→i<l.length→l[i]? =some false)→l.length-m≤jB l:=by
  intro l;induction l with
  |nil=>intro m _;simp
  |cons b r I=>
   intro m h;cases m with
   |zero=>have s:=h 0 (ag _) (by simp);simp at s;subst s;have:=I 0 (fun i _ c=>by simpa using h (i+1) (by omega) (by simpa using c));simp only[jB,cI,bF];omega
   |succ m=>have:=I m (fun i hm c=>by simpa using h (i+1) (by omega) (by simpa using c));simp only[jB,bF];omega
 intro q;induction q with
 |zero=>
  intro listed a w d hf B K t u y;have s:∀i,i<L.length→listed[i]? =some true:=fun i c=>by have:=vp (l:=listed.toList) (by omega) i (by simpa[d] using c);simpa using this
  have aN:n=L.length:=by
   by_cases h:n=L.length
   ·exact h
   ·have:=B n (ag _) (by omega);rw[s n (by omega)] at this;cases this
  refine xS M S (L.drop n) n 0 listed a w rfl (ag _) (by rw[bK];omega) d (fun i c=> ?_) (by rw[bK];omega) (T a w t u fun i c=>y i (s i (by omega)));rw[s i c,bN (by omega)]
 |succ q I=>
  intro listed a w d hf B K t u y;by_cases E:∀i,i<n→listed[i]? =some true
  ·refine xS M S (L.drop n) n (q+1) listed a w rfl (ag _) (by rw[bK];omega) d (fun i c=> ?_) ?_ (T a w t u fun i c=>y i (E i c))
   ·by_cases x:i<n
    ·rw[E i x,bN x]
    ·rw[B i (by omega) c,cL x]
   ·have:=am listed.toList n (fun i D h2=>by simpa using B i D (by simpa[d] using h2));rw[bK];have h3:listed.toList.length=L.length:=by simpa using d
    omega
  ·refine⟨fun hr=> ?_,fun i c=> ?_⟩
   ·exfalso;refine E fun i=> ?_;induction i using Nat.strongRecOn with
    |ind i av=>
     intro x;have A:i<listed.size:=by omega
     cases C:listed[i] with
     |true=>rw[MM A,C]
     |false=>have:=AW M d (k:=i) (by omega) (by rw[MM A,C]) fun j z=>av j z (by omega);rw[hr] at this;cases this
   ·have x:i<n:=by
     by_cases h:i<n
     ·exact h
     ·exact(E fun j z=>xR S K (by omega) c j (by omega)).elim
    obtain⟨D,o,Z,hw⟩:=mem_ready.1 c;have ay:i<L.length:=by omega
    have G:L[i]? =some o:=by simpa using Z
    have aa:(L.take n)[i]? =some o:=by rw[List.getElem?_take_of_lt x];exact G
    have A:i<listed.size:=by omega
    have an:listed[i]? =some false:=by rw[F5,MM A] at D;rw[MM A];simpa using D
    obtain⟨p,hp,ao⟩:=AX hU aa;have aq:∀e∈o.after.toList,Region.binds .any e=true→vS L Φ a w e.on:=fun e he ai=>by
     have:=hw e (by simpa using he) ai;refine y e.on ?_;rw[F5] at this;cases C:listed[e.on]? with
     |none=>rw[C] at this;cases this
     |some b=>rw[C] at this;simp at this;rw[this]
    have H:=ao a w t u.wide aq;have Y:∀v w',Below w.heap.size w w'→p.p v w'→wpAny P .any L.toArray Q q (listed.setIfInBounds i true) (a.put o.dst v) w':=fun v w' F R=>by
     refine I _ _ _ (by simpa using d) ?_ (fun j h7 h8=> ?_) (G8 K c) (t.trans (F.mono t.size)) (u.put (eQ aa) v) fun j z=> ?_
     ·have:=xT listed.toList i (by simpa using an);rw[Array.toList_setIfInBounds];omega
     ·rw[Km (by omega)];exact B j h7 h8
     ·by_cases N:j=i
      ·subst N;unfold vS;rw[G,hp];refine⟨v, ?_,R⟩;unfold xU;cases al:o.dst with
       |none=>trivial
       |some af=>exact Er (by have:=G9 V G al;have:=u.size;omega)
      ·rw[Km (eo N)] at z;have O:=y j z;unfold vS at O⊢;cases ab:L[j]? with
       |none=>trivial
       |some oj=>
        cases ap:Φ[j]? with
        |none=>trivial
        |some pj=>
         rw[ab,ap] at O;obtain⟨v',J,h6⟩:=O;refine⟨v', ?_,pj.up v' w w' F h6⟩;unfold xU at J⊢;cases X:oj.dst with
         |none=>trivial
         |some af=>rw[X] at J;exact(xV (fun e=>N (AY V ab G X e))).trans J
    unfold wpOp;simp only[Z];by_cases ac:Region.wanted o (yielded L.toArray a.tmps)=true
    ·rw[ah ac] at H⊢;exact .inl (Oper.wp_mono (fun a' w' ⟨v,e,F,R⟩=>by subst e;exact Y v w' F R) H)
    ·rw[ae ac] at H⊢;exact Y undef w (ar _ _) H
theorem Es:∀{m:Nat} {L:List Oper} (n:Nat),sN m L=true→sN m (L.take n)=true
 |m,[],n,h=>by simpa using h
 |m,o::l,0,h=>rfl
 |m,o::l,n+1,h=>by
  rw[ki];unfold sN at h⊢;rw[cW] at h⊢;refine⟨?_,Es n h.2⟩;have a:=h.1;cases b:o.dst with
  |none=>rfl
  |some d=>rw[b] at a;simp only[cW,eV] at a⊢;exact⟨a.1,fun x c=>a.2 x (List.mem_of_mem_take c)⟩
theorem oS{id:Nat}{a:Act}{w:World}(n:Nat)(Φ:List oB)(D:P.follows .mixedOrders=true)(B:vo 0 L=true)(t:sN a.tmps.size L=true)(E:AS n L=true)(m:Nat.ble n L.length=true)(l:Ep P L Φ a w Q (L.take n) Φ)
 (z:∀(f:Nat→Value) w',Below w.heap.size w w'→(∀(i:Nat) (p:oB),Φ[i]? =some p→p.p (f i) w')→mw P L.toArray Q (L.drop n) (xB f (L.take n) 0 a) w'):(Code.region id L.toArray true).wp P Q a w:=by
 have m:=Nat.le_of_ble_eq_true m;have G:(L.take n).length=n:=by rw[gu];omega
 refine wp_region_any D ?_;refine Sa B t E m l (fun u w' y A x=> ?_) _ _ _ _ (by simp) (by rw[Array.toList_replicate,xW];simp) (fun i _ c=>by rw[Array.getElem?_replicate,ah (by simpa using c)]) (fun j o e d _ _ _=>by rw[Array.getElem?_replicate] at d;split at d<;>cases d) (ar w.heap.size w).drew ⟨rfl,rfl,fun _ _=>rfl⟩ (fun i c=> ?_)
 ·have hA2:∀i,i<(L.take n).length→vS (L.take n) Φ u w' i:=fun i c=>by have:=x i (by omega);unfold vS at this⊢;rw[List.getElem?_take_of_lt (by omega)];exact this
  obtain⟨vs,s,rfl⟩:=Uu (uo l) (Es n t) A hA2;have C:vs.length=(L.take n).length:=by
   have key:∀{b:List oB} {vs:List Value},Et b vs w'→vs.length=b.length:=by
    intro b;induction b with
    |nil=>intro vs h;cases vs with|nil=>rfl|cons=>exact h.elim
    |cons p b r=>intro vs h;cases vs with|nil=>exact h.elim|cons v vs=>rw[bF,bF,r h.2]
   rw[key s,uo l]
  have F:∀{b:List oB} {vs:List Value},Et b vs w'→∀(i:Nat) (p:oB),b[i]? =some p→p.p (vs.getD i undef) w':=by
   intro b;induction b with
   |nil=>intro vs h i p k;simp at k
   |cons q b r=>
    intro vs h i p k;cases vs with
    |nil=>exact h.elim
    |cons v vs=>
     cases i with
     |zero=>simp at k;subst k;exact h.1
     |succ i=>have:=r h.2 i p (by simpa using k);simpa using this
  have:=z (fun i=>vs.getD i undef) w' y (F s);rw[←AT (fun i=>vs.getD i undef) (L.take n) vs 0 a C (fun j v d=>by simp[List.getD_eq_getElem?_getD,d])] at this;exact this
 ·rw[Array.getElem?_replicate] at c;split at c<;>cases c
end
