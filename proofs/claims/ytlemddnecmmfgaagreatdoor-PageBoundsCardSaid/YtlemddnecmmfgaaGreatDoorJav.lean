/- The walk of the program's Get. -/
import Derived.Test.YtlemddnecmmfgaaGreatDoorJau
set_option linter.unusedVariables false
set_option maxRecDepth 100000
set_option maxHeartbeats 800000
namespace Go.Proofs.YtlemddnecmmfgaaGreatDoor
open Go.RowKit Go.Shelf
variable{b k:Bs}{a:Bs→Option Bs}{A:List Bs}{e j:Nat}{i:TypeId}{d h:aaK}{q R:aaL}{S:aaM}
attribute[local go_sem] Oper.semAt_some
structure WL (w W:aaK) (o1 o2 o3 o4:Obj):Prop where
 b1:W.heap[w.heap.size]? =some o1
 b2:W.heap[w.heap.size+1]? =some o2
 b3:W.heap[w.heap.size+1+1]? =some o3
 b4:W.heap[w.heap.size+1+1+1]? =some o4
 size:W.heap.size=w.heap.size+1+1+1+1
 below:Below w.heap.size w W
theorem xI(w:aaK)(o1 o2 o3 o4:Obj):WL w ((((w.alloc o1).alloc o2).alloc o3).alloc o4) o1 o2 o3 o4:=by
 have n1:(w.alloc o1).heap[w.heap.size]? =some o1:=oF w _;have n2:=oF (w.alloc o1) o2;have d:=oF ((w.alloc o1).alloc o2) o3;have e:=oF (((w.alloc o1).alloc o2).alloc o3) o4;simp only[aO] at n2 d e;have a:=(ar w.heap.size w).alloc (ag _) o1;have b:=a.alloc a.size o2;have c:=b.alloc b.size o3;exact⟨(tG _ _ _ (by simp<;>omega)).t ((tG _ _ _ (by simp<;>omega)).t ((tG _ _ _ (by simp)).t n1)),
  (tG _ _ _ (by simp<;>omega)).t ((tG _ _ _ (by simp)).t n2),
  (tG _ _ _ (by simp)).t d,e,by simp,c.alloc c.size o4⟩
def Lk(a:aaK)(b:Nat)(p:Bs→Option Bs)(pre:List Bs)(W:aaK):Prop:=pre.findSome? p=none∧iN a.heap.size b a W
def Ve(w b:aaK)(b4 a:Nat)(p:Bs→Option Bs)(pre:List Bs)(W:aaK):Prop:=
 ∃v:Bs,pre.findSome? p=some v∧Below w.heap.size w W∧b.heap.size≤W.heap.size∧W.heap[b4]? =some (.cells #[.string ⟨v.toArray⟩] 9)∧W.heap[a]? =some (.cells #[.bool true] 4)
theorem rB(b:aaK)(a:Nat)(p:Bs→Option Bs)(pre:List Bs)(A B:aaK)(h:Lk b a p pre A)(k:iN b.heap.size a A B):Lk b a p pre B:=⟨h.1,h.2.t k⟩
theorem ug(w a:aaK)(c b4 b:Nat)(p:Bs→Option Bs)(s:w.heap.size≤a.heap.size)(r:w.heap.size≤c)(j:b4<a.heap.size)(l:b<a.heap.size)(o:b4≠c)(q:b≠c)
 (pre:List Bs)(A B:aaK)(h:Ve w a b4 b p pre A)(k:iN a.heap.size c A B):Ve w a b4 b p pre B:=by
 obtain⟨v,d,e,i,m,n⟩:=h;exact⟨v,d,k.below e s r,bP i k.size,(k.block _ j o).t m,(k.block _ l q).t n⟩
theorem GY{W c:aaK}{b:Nat}{x v:Bs}(m:Below d.heap.size d h)(l:iN h.heap.size e h W)(i:Below W.heap.size W c)(s:d.heap.size≤e)
 (o:d.heap.size≤j)(r:d.heap.size≤b)(n:j≠b)(z:c.heap[j]? =some (.cells #[q] 9))(B:c.heap[b]? =some (.cells #[R] 4))
 (u:A.findSome? a=none)(y:a x=some v):
 oY (fun k=>k=j∨k=b) W ((c.setCell ⟨j,0,none⟩ (.string ⟨v.toArray⟩)).setCell ⟨b,0,none⟩ (.bool true))∧
 Ve d h j b a (A++[x]) ((c.setCell ⟨j,0,none⟩ (.string ⟨v.toArray⟩)).setCell ⟨b,0,none⟩ (.bool true)):=by
 refine⟨((oY.ai i).setCell (.inl rfl) _).setCell (.inr rfl) _,v,by rw[List.findSome?_append,u];simp[y], ?_, ?_, ?_, ?_⟩
 ·exact(((l.below m m.size s).t (i.mono (bP m.size l.size))).setCell (p:=⟨j,0,none⟩) o _).setCell (p:=⟨b,0,none⟩) r _
 ·rw[bE,bE];exact bP l.size i.size
 ·exact(dy _ ⟨b,0,none⟩ _ _ n).t (sG z)
 ·exact sG ((dy _ ⟨j,0,none⟩ _ _ (eo n)).t B)
theorem sH{i:aaK}{S:Nat→Prop}(j:iN d.heap.size e d h)(c:Below h.heap.size h i)(m:A.findSome? a=none)(n:a b=none):
 oY S h i∧Lk d e a (A++[b]) i:=
 ⟨oY.ai c,by rw[List.findSome?_append,m];simp[n],j.t ⟨c.os,c.tape,c.output,c.size,fun k l _=>c.block k (ej l j.size)⟩⟩
theorem Ll(a:(trim b).contains 61=true)(h:(upto 61 (trim b)==S.toList)=true):vQ S.data.toList b=some (past 61 (trim b)):=by rw[oE] at h;unfold vQ;rw[h,a];rfl
theorem OF(h:(upto 61 (trim b)==S.toList)=false):vQ S.data.toList b=none:=by rw[oE] at h;unfold vQ;rw[h,CU];rfl
theorem Ca{v:aaL}(h:d.heap[e]? =some (.cells #[v] i))(a:e≠j)(o:Obj):(d.putObj j o).cell? ⟨e,0,none⟩=some v:=
 (bR ((Xv (o:=o) a).t h)).1
theorem Cb{D:Nat}(m:Below d.heap.size d h)(c:d.heap.size≤e)(i:d.heap.size≤j)(b:e≠j)(y:e<D)(z:j<D)
 (o:h.heap[e]? =some (.cells #[q] 9))(r:h.heap[j]? =some (.cells #[R] 4))(l:h.heap[D]? =some (.deferred (some [])))(s:aaM)(v:Bool):
 Below d.heap.size d ((((h.setCell ⟨e,0,none⟩ (.string s)).setCell ⟨j,0,none⟩ (.bool v))).putObj D (.deferred none))∧
 ((h.setCell ⟨e,0,none⟩ (.string s)).setCell ⟨j,0,none⟩ (.bool v)).heap[D]? =some (.deferred (some []))∧
 ((((h.setCell ⟨e,0,none⟩ (.string s)).setCell ⟨j,0,none⟩ (.bool v))).putObj D (.deferred none)).cell? ⟨e,0,none⟩=some (.string s)∧
 ((((h.setCell ⟨e,0,none⟩ (.string s)).setCell ⟨j,0,none⟩ (.bool v))).putObj D (.deferred none)).cell? ⟨j,0,none⟩=some (.bool v):=by
 have a:=(m.setCell (p:=⟨e,0,none⟩) c (.string s)).setCell (p:=⟨j,0,none⟩) i (.bool v);have u:((h.setCell ⟨e,0,none⟩ (.string s)).setCell ⟨j,0,none⟩ (.bool v)).heap[e]? =_:=(dy _ ⟨j,0,none⟩ _ _ b).t (sG o);have x:((h.setCell ⟨e,0,none⟩ (.string s)).setCell ⟨j,0,none⟩ (.bool v)).heap[j]? =_:=sG ((dy _ ⟨e,0,none⟩ _ _ (eo b)).t r);refine⟨⟨a.os,a.tape,a.output,by simpa using a.size,fun k n=>(Xv (by omega)).t (a.block k n)⟩, ?_,Ca u (by omega) _,Ca x (by omega) _⟩;exact(dy _ ⟨j,0,none⟩ _ _ (by show D≠j;omega)).t ((dy _ ⟨e,0,none⟩ _ _ (by show D≠e;omega)).t l)
theorem xJ{b4 b D:Nat}{l:TypeId}(a:Below d.heap.size d h)(m:b4<D∧d.heap.size≤D)(n:b<D)
 (e:h.heap[b4]? =some (.cells #[q] i))(j:h.heap[b]? =some (.cells #[R] l)):
 Below d.heap.size d (h.putObj D (.deferred none))∧(h.putObj D (.deferred none)).cell? ⟨b4,0,none⟩=some q∧(h.putObj D (.deferred none)).cell? ⟨b,0,none⟩=some R:=
 ⟨⟨a.os,a.tape,a.output,by simpa using a.size,fun k c=>(Xv (by omega)).t (a.block k c)⟩,Ca e (by omega) _,Ca j (by omega) _⟩
theorem nK{a b:Type}{f:a→Option b}{pre l:List a}{v:b}(h:pre<+:l)(c:pre.findSome? f=some v):l.findSome? f=some v:=by obtain⟨r,rfl⟩:=h;rw[List.findSome?_append,c];rfl
theorem Ee(h t key:aaM)(a:Option Addr)(n c:Nat)(fs:List dQ)(w:aaK)(hg:Good w)(hF:aZ w (.slice a n c) fs)(ab:rX fs):
 Calls Tryz.prog 217 #[.agg #[.string h,.string t,.slice a n c],.string key] w
  (cN w (.tuple #[.string ⟨((nL fs key.data.toList).getD []).toArray⟩,.bool (nL fs key.data.toList).isSome])):=by
 have ao:=B9 ab;have T:=ad (show nL fs key.data.toList=(pieces 59 (fe fs).1).findSome? (vQ key.data.toList) from rfl);have V:=ad (xI w (.cells #[.string h,.string t,.slice a n c] 47) (.cells #[.string key] 9) (.cells #[.string ⟨#[]⟩] 9) (.cells #[.bool false] 4));have ap:=hg.lt;obtain⟨N,_⟩:∃N:Nat,True:=⟨0,trivial⟩;refine(callsIn_wide (n:=N)).1 ?_;refine callsIn_of_wp_marks Tryz.func217 rfl trivial ?_ rfl;simp only[Tryz.ntmps217,oC,bF,lH,Nat.reduceAdd,Nat.reduceSub,Array.replicate_succ,Array.replicate_zero,List.push_toArray,List.append_toArray,kK,di]
 gi_wp2_with fail
 generalize(((w.alloc (.cells #[.string h,.string t,.slice a n c] 47)).alloc (.cells #[.string key] 9)).alloc (.cells #[.string ⟨#[]⟩] 9)).alloc (.cells #[.bool false] 4)=W0 at*;have m:=V.o;clear V;have y:=m.below;have aN:=m.size;refine ff ((sI h t a n c fs _ (hF.below y) ab).mono ?_);rintro e j⟨rfl,i⟩;have af:Good j:=(hg.next y).next i
 have O:=y.t (i.mono y.size);have R:=(i.block _ (by omega)).t m.b2;have A:=(i.block _ (by omega)).t m.b3;have B:=(i.block _ (by omega)).t m.b4;have av:=i.size;clear i m y;generalize(fe fs).1=all at*
 gi_wp2_with fail
 refine ff ((kC all 59 j).mono ?_);rintro e E⟨rfl,hit,ay,q⟩;have ai:Good E:=af.next q;have aa:=O.t (q.mono O.size);replace R:=(q.block _ (by omega)).t R;replace A:=(q.block _ (by omega)).t A;replace B:=(q.block _ (by omega)).t B;clear q O
 gi_wp2_with fail
 have aq:w.heap.size+1+1+1+1≤j.heap.size:=by omega
 refine range_split 59 all j.heap.size (j.heap.size+1) (j.heap.size+1+1) (by omega) (by omega) (by omega) rfl rfl hit ai (by omega)
  (fun k=>k=w.heap.size+1+1∨k=w.heap.size+1+1+1) (by rintro k(rfl|rfl)<;>omega)
  (Lk E j.heap.size (vQ key.data.toList)) (Ve w E (w.heap.size+1+1) (w.heap.size+1+1+1) (vQ key.data.toList))
  (rB E _ _) (ug w E _ _ _ _ (by omega) (by omega) (by omega) (by omega) (by omega) (by omega)) ⟨rfl,iN.refl _ _ _⟩ ?a1 ?assign ?body ?done ?stop
 case assign=>
  intro l x W K d
  gi_wp2
  exact d
 case body=>
  rintro l pre x W⟨z,b⟩al Q;have a2:x.length≤all.length:=iO 59 all.length all (ag _) x (Q.subset (by simp));have aU:=sJ x;have a0:=oZ 61 (trim x);have am:=b.size;obtain⟨X,_⟩:=bR ((b.block _ (by omega) (by omega)).t R);have s:=ad z;clear z
  gi_wp2_with fail
  refine dD ((mR ⟨x.toArray⟩ _ (Ty _ _ (by omega))).mono ?_);rintro e w3⟨rfl,F⟩;have u:(⟨x.toArray⟩:aaM).data.toList=x:=rfl;rw[u];clear u
  gi_wp2_with fail
  refine dD ((fI ⟨(trim x).toArray⟩ 61 _ (al.next F) (GV _ _ (by omega))).mono ?_);rintro e w4⟨rfl,Y⟩;have u:(⟨(trim x).toArray⟩:aaM).data.toList=trim x:=rfl;rw[u];clear u;have r:Below W.heap.size W w4:=F.t (Y.mono F.size);have an:w4.cell? ⟨w.heap.size+1,0,none⟩=some (.string key):=(r.cell (p:=⟨w.heap.size+1,0,none⟩) (by show w.heap.size+1<_;omega)).t X;have S:=(r.block (w.heap.size+1+1) (by omega)).t ((b.block _ (by omega) (by omega)).t A);have C:=(r.block (w.heap.size+1+1+1) (by omega)).t ((b.block _ (by omega) (by omega)).t B);obtain⟨c3,f3⟩:=bR S;obtain⟨c4,f4⟩:=bR C;have Q3:=ad S;have Q4:=ad C;clear X F Y S C;rcases hh:hasB 61 (trim x) with _|_
  ·have H:=ad (RR (key:=key.data.toList) hh)
   gi_wp2
   exact sH b r s.o H.o
  ·have H:=ad hh;rcases hq:(upto 61 (trim x)==key.toList) with _|_
   ·have I:=ad hq
    gi_wp2
    exact sH b r s.o (OF I.o)
   ·have I:=ad hq
    gi_wp2
    exact GY aa b r (by omega) (by omega) (by omega) (by omega) Q3.out Q4.out s.o (Ll H.o I.o)
 case done=>
  rintro D W hD⟨z,b⟩d;obtain⟨c3,f3⟩:=bR ((b.block _ (by omega) (by omega)).t A);obtain⟨c4,f4⟩:=bR ((b.block _ (by omega) (by omega)).t B);have G:=ad (Cb (b.below aa (by omega) (by omega)) (by omega) (by omega) (by omega) (by omega) (by omega) ((b.block _ (by omega) (by omega)).t A) ((b.block _ (by omega) (by omega)).t B) d ⟨#[]⟩ false);have s:=ad z;clear z d b
  gi_wp2
  obtain⟨M,ac,J,L⟩:=G.o;refine⟨by simp,.inl ⟨_,_,rfl,kM ac, ?_⟩⟩;refine⟨.tuple #[.string ⟨#[]⟩,.bool false], ?_, ?_,M⟩
  ·simp[results,Tryz.f217,go_sem,J,L]
  ·rw[T.o,s.o];rfl
 case stop=>
  rintro D pre W hD Q⟨v,hv,Z,am,C,q5⟩d;have G:=ad (xJ (D:=D) Z (by omega) (by omega) C q5);have HK:=ad d;have Hv:=ad (nK Q hv);clear hv d Z
  gi_wp2
  obtain⟨M,J,L⟩:=G.o;refine⟨by simp,.inl ⟨_,_,rfl,kM HK.o, ?_⟩⟩;refine⟨.tuple #[.string ⟨v.toArray⟩,.bool true], ?_, ?_,M⟩
  ·simp[results,Tryz.f217,go_sem,J,L]
  ·rw[T.o,Hv.o];rfl
end Go.Proofs.YtlemddnecmmfgaaGreatDoor
namespace Go.Proofs.YtlemddnecmmfgaaGreatDoor
open Go.RowKit Go.Shelf
variable{b k:Bs}{a:Bs→Option Bs}{A:List Bs}{e j:Nat}{i:TypeId}{d h:aaK}{q R:aaL}{S:aaM}
attribute[local go_sem] Oper.semAt_some
theorem GZ(h:(upto 61 b==S.toList)=false):uh S.data.toList b=none:=by rw[oE] at h;unfold uh;rw[h];rfl
theorem G0(h:(upto 61 b==S.toList)=true):uh S.data.toList b=some (past 61 b):=by rw[oE] at h;unfold uh;rw[h];rfl
theorem G1(h t key:aaM)(a:Option Addr)(n c:Nat)(fs:List dQ)(w:aaK)(L:Good w)(Z:t.size≤100000):
 Calls Tryz.prog 219 #[.agg #[.string h,.string t,.slice a n c],.string key] w
  (cN w (.tuple #[.string ⟨((kZ t.data.toList key.data.toList).getD []).toArray⟩,.bool (kZ t.data.toList key.data.toList).isSome])):=by
 have am:(past 63 t.data.toList).length≤100000:=bP (ij 63 _) (by rw[bj];exact Z);have R:=ad (show kZ t.data.toList key.data.toList=(pieces 38 (past 63 t.data.toList)).findSome? (uh key.data.toList) from rfl);have S:=ad (xI w (.cells #[.string h,.string t,.slice a n c] 47) (.cells #[.string key] 9) (.cells #[.string ⟨#[]⟩] 9) (.cells #[.bool false] 4));have an:=L.lt;obtain⟨N,_⟩:∃N:Nat,True:=⟨0,trivial⟩;refine(callsIn_wide (n:=N)).1 ?_;refine callsIn_of_wp_marks Tryz.func219 rfl trivial ?_ rfl;simp only[Tryz.ntmps219,oC,bF,lH,Nat.reduceAdd,Nat.reduceSub,Array.replicate_succ,Array.replicate_zero,List.push_toArray,List.append_toArray,kK,di]
 gi_wp2_with fail
 generalize(((w.alloc (.cells #[.string h,.string t,.slice a n c] 47)).alloc (.cells #[.string key] 9)).alloc (.cells #[.string ⟨#[]⟩] 9)).alloc (.cells #[.bool false] 4)=W0 at*;have m:=S.o;clear S;have s:=m.below;have av:=m.size;refine ff ((xK h t a n c _ (L.next s) Z).mono ?_);rintro e j⟨rfl,i⟩;have ab:Good j:=(L.next s).next i
 have J:=s.t (i.mono s.size);have O:=(i.block _ (by omega)).t m.b2;have y:=(i.block _ (by omega)).t m.b3;have z:=(i.block _ (by omega)).t m.b4;have ap:=i.size;clear i m s;generalize past 63 t.data.toList=all at*
 gi_wp2_with fail
 refine ff ((kC all 38 j).mono ?_);rintro e B⟨rfl,hit,aq,q⟩;have ac:Good B:=ab.next q;have Y:=J.t (q.mono J.size);replace O:=(q.block _ (by omega)).t O;replace y:=(q.block _ (by omega)).t y;replace z:=(q.block _ (by omega)).t z;clear q J
 gi_wp2_with fail
 have ao:w.heap.size+1+1+1+1≤j.heap.size:=by omega
 refine range_split 38 all j.heap.size (j.heap.size+1) (j.heap.size+1+1) (by omega) (by omega) (by omega) rfl rfl hit ac (by omega)
  (fun k=>k=w.heap.size+1+1∨k=w.heap.size+1+1+1) (by rintro k(rfl|rfl)<;>omega)
  (Lk B j.heap.size (uh key.data.toList)) (Ve w B (w.heap.size+1+1) (w.heap.size+1+1+1) (uh key.data.toList))
  (rB B _ _) (ug w B _ _ _ _ (by omega) (by omega) (by omega) (by omega) (by omega) (by omega)) ⟨rfl,iN.refl _ _ _⟩ ?a1 ?assign ?body ?done ?stop
 case assign=>
  intro l x W K d
  gi_wp2
  exact d
 case body=>
  rintro l pre x W⟨u,b⟩af M;have ay:x.length≤all.length:=iO 38 all.length all (ag _) x (M.subset (by simp));have ai:=b.size;obtain⟨T,_⟩:=bR ((b.block _ (by omega) (by omega)).t O);have C:=ad u;clear u
  gi_wp2_with fail
  refine dD ((fI ⟨x.toArray⟩ 61 _ af (GV _ _ (by omega))).mono ?_);rintro e w4⟨rfl,r⟩;have V:(⟨x.toArray⟩:aaM).data.toList=x:=rfl;rw[V];clear V;have al:w4.cell? ⟨w.heap.size+1,0,none⟩=some (.string key):=(r.cell (p:=⟨w.heap.size+1,0,none⟩) (by show w.heap.size+1<_;omega)).t T;have Q:=(r.block (w.heap.size+1+1) (by omega)).t ((b.block _ (by omega) (by omega)).t y);have A:=(r.block (w.heap.size+1+1+1) (by omega)).t ((b.block _ (by omega) (by omega)).t z);obtain⟨c3,f3⟩:=bR Q;obtain⟨c4,f4⟩:=bR A;have Q3:=ad Q;have Q4:=ad A;clear T Q A;rcases hq:(upto 61 x==key.toList) with _|_
  ·have F:=ad (GZ hq)
   gi_wp2
   exact sH b r C.o F.o
  ·have F:=ad (G0 hq)
   gi_wp2
   exact GY Y b r (by omega) (by omega) (by omega) (by omega) Q3.out Q4.out C.o F.o
 case done=>
  rintro D W hD⟨u,b⟩d;obtain⟨c3,f3⟩:=bR ((b.block _ (by omega) (by omega)).t y);obtain⟨c4,f4⟩:=bR ((b.block _ (by omega) (by omega)).t z);have E:=ad (Cb (b.below Y (by omega) (by omega)) (by omega) (by omega) (by omega) (by omega) (by omega) ((b.block _ (by omega) (by omega)).t y) ((b.block _ (by omega) (by omega)).t z) d ⟨#[]⟩ false);have C:=ad u;clear u d b
  gi_wp2
  obtain⟨I,aa,G,H⟩:=E.o;refine⟨by simp,.inl ⟨_,_,rfl,kM aa, ?_⟩⟩;refine⟨.tuple #[.string ⟨#[]⟩,.bool false], ?_, ?_,I⟩
  ·simp[results,Tryz.f219,go_sem,G,H]
  ·rw[R.o,C.o];rfl
 case stop=>
  rintro D pre W hD M⟨v,hv,X,ai,A,q5⟩d;have E:=ad (xJ (D:=D) X (by omega) (by omega) A q5);have HK:=ad d;have Hv:=ad (nK M hv);clear hv d X
  gi_wp2
  obtain⟨I,G,H⟩:=E.o;refine⟨by simp,.inl ⟨_,_,rfl,kM HK.o, ?_⟩⟩;refine⟨.tuple #[.string ⟨v.toArray⟩,.bool true], ?_, ?_,I⟩
  ·simp[results,Tryz.f219,go_sem,G,H]
  ·rw[R.o,Hv.o];rfl
end Go.Proofs.YtlemddnecmmfgaaGreatDoor
namespace Go.Proofs.YtlemddnecmmfgaaGreatDoor
open Go.RowKit Go.Shelf
variable{b k:Bs}{a:Bs→Option Bs}{A:List Bs}{e j:Nat}{i:TypeId}{d h:aaK}{q R:aaL}{S:aaM}
attribute[local go_sem] Oper.semAt_some
def MJ(key x:Bs):Option Bs:=if zB key x then some [116,114,117,101] else none
theorem any_none{key:Bs}:∀{l:List Bs},l.findSome? (MJ key)=none→l.any (zB key)=false
 |[],_=>rfl
 |x::l,h=>by
  rw[List.findSome?_cons] at h;unfold MJ at h;cases a:zB key x
  ·rw[a] at h;rw[rZ,a];exact any_none (l:=l) h
  ·rw[a] at h;cases h
theorem any_some{key v:Bs}:∀{l:List Bs},l.findSome? (MJ key)=some v→l.any (zB key)=true∧v=[116,114,117,101]
 |[],h=>by cases h
 |x::l,h=>by
  rw[List.findSome?_cons] at h;unfold MJ at h;cases a:zB key x
  ·rw[a] at h;rw[rZ,a];exact any_some (l:=l) h
  ·rw[a] at h;rw[rZ,a];exact⟨rfl,by simpa using h.symm⟩
theorem RS(h:same (trim (upto 59 k)) b=false):MJ b k=none:=by unfold MJ zB;rw[h];rfl
theorem RT{key l:Bs}(h:(pieces 59 l).tail.any zero=true):MJ key l=none:=by unfold MJ zB;rw[h,Bool.not_true,CU];rfl
theorem RU(h:same (trim (upto 59 k)) b=true)(a:(pieces 59 k).tail.any zero=false):MJ b k=some [116,114,117,101]:=by unfold MJ zB;rw[h,a];rfl
theorem zC(h t key:aaM)(a:Option Addr)(n c:Nat)(fs:List dQ)(w:aaK)(hg:Good w)(hF:aZ w (.slice a n c) fs)(aq:rX fs)(a5:key.size≤100000):
 Calls Tryz.prog 220 #[.agg #[.string h,.string t,.slice a n c],.string key] w
  (cN w (.tuple #[.string ⟨(vk (mS fs key.data.toList)).toArray⟩,.bool (mS fs key.data.toList)])):=by
 have a4:=Ed aq ed;have HG:=ad (show mS fs key.data.toList=(pieces 44 (jz fs ed).1).any (zB key.data.toList) from rfl);have HW:=ad (xI w (.cells #[.string h,.string t,.slice a n c] 47) (.cells #[.string key] 9) (.cells #[.string ⟨#[]⟩] 9) (.cells #[.bool false] 4));have a6:=hg.lt;obtain⟨N,_⟩:∃N:Nat,True:=⟨0,trivial⟩;refine(callsIn_wide (n:=N)).1 ?_;refine callsIn_of_wp_marks Tryz.func220 rfl trivial ?_ rfl;simp only[Tryz.ntmps220,oC,bF,lH,Nat.reduceAdd,Nat.reduceSub,Array.replicate_succ,Array.replicate_zero,List.push_toArray,List.append_toArray,kK,di]
 gi_wp2_with fail
 generalize(((w.alloc (.cells #[.string h,.string t,.slice a n c] 47)).alloc (.cells #[.string key] 9)).alloc (.cells #[.string ⟨#[]⟩] 9)).alloc (.cells #[.bool false] 4)=W0 at*;have B:=HW.o;clear HW;have H:=B.below;have bb:=B.size;refine ff ((rA fs _ ⟨#[97,99,99,101,112,116,45,108,97,110,103,117,97,103,101]⟩ _ (hF.below H) aq (by decide)).mono ?_);rintro e z⟨rfl,q⟩;have av:(⟨#[97,99,99,101,112,116,45,108,97,110,103,117,97,103,101]⟩:aaM).data.toList=ed:=rfl;rw[av];clear av;have aU:Good z:=(hg.next H).next q
 have aa:=H.t (q.mono H.size);have k2:=(q.block _ (by omega)).t B.b2;have u:=(q.block _ (by omega)).t B.b3;have y:=(q.block _ (by omega)).t B.b4;have a8:=q.size;clear q B H;generalize(jz fs ed).1=all at*
 gi_wp2_with fail
 refine ff ((kC all 44 z).mono ?_);rintro e L⟨rfl,hit,a9,C⟩;have a0:Good L:=aU.next C;have an:=aa.t (C.mono aa.size);replace k2:=(C.block _ (by omega)).t k2;replace u:=(C.block _ (by omega)).t u;replace y:=(C.block _ (by omega)).t y;clear C aa
 gi_wp2_with fail
 have a7:w.heap.size+1+1+1+1≤z.heap.size:=by omega
 refine range_split 44 all z.heap.size (z.heap.size+1) (z.heap.size+1+1) (by omega) (by omega) (by omega) rfl rfl hit a0 (by omega)
  (fun k=>k=w.heap.size+1+1∨k=w.heap.size+1+1+1) (by rintro k(rfl|rfl)<;>omega)
  (Lk L z.heap.size (MJ key.data.toList)) (Ve w L (w.heap.size+1+1) (w.heap.size+1+1+1) (MJ key.data.toList))
  (rB L _ _) (ug w L _ _ _ _ (by omega) (by omega) (by omega) (by omega) (by omega) (by omega)) ⟨rfl,iN.refl _ _ _⟩ ?a1 ?assign ?body ?done ?stop
 case assign=>
  intro l x W K m
  gi_wp2
  exact m
 case body=>
  rintro l pre x W⟨I,d⟩ap ac;have bf:x.length≤all.length:=iO 44 all.length all (ag _) x (ac.subset (by simp));have be:=oZ 59 x;have bd:=sJ (upto 59 x);have a3:=d.size;obtain⟨c2,_⟩:=bR ((d.block _ (by omega) (by omega)).t k2);have al:w.heap.size+1<W.heap.size:=by omega
  have E:=ad I;clear I;have af:(⟨(trim (upto 59 x)).toArray⟩:aaM).size≤140737488351232:=Ty _ _ (by omega);have ai:(⟨(upto 59 x).toArray⟩:aaM).size≤9223372036854775807:=Ty _ _ (by omega);have ab:key.size≤140737488351232:=by omega
  have ay:(⟨x.toArray⟩:aaM).size≤100002000:=Ty _ _ (by omega)
  gi_wp2_with fail
  refine dD ((fI ⟨x.toArray⟩ 59 _ ap (GV _ _ (by omega))).mono ?_);rintro e M⟨rfl,r⟩;have b:(⟨x.toArray⟩:aaM).data.toList=x:=rfl;rw[b];clear b;have a2:=ap.next r;have ao:=a2.next (Below.drew (ar _ _));have O:M.cell? ⟨w.heap.size+1,0,none⟩=some (.string key):=(r.cell (p:=⟨w.heap.size+1,0,none⟩) al).t c2;have Y:w.heap.size+1<M.heap.size:=ej al r.size;have q3:=(r.block (w.heap.size+1+1) (by omega)).t ((d.block _ (by omega) (by omega)).t u);have R:=(r.block (w.heap.size+1+1+1) (by omega)).t ((d.block _ (by omega) (by omega)).t y);have Q3:=ad q3;have Q4:=ad R;have A:=ad r;clear c2 q3 R r
  gi_wp2_with fail
  rcases J:same (trim (upto 59 x)) key.data.toList with _|_
  ·have F:=ad (RS J)
   gi_region_with (first
    |(refine dD ((mR ⟨(upto 59 x).toArray⟩ _ ai).mono ?_);rintro e w4⟨rfl,i⟩;have b:(⟨(upto 59 x).toArray⟩:aaM).data.toList=upto 59 x:=rfl;rw[b];clear b;have T:=(eR i).1 _ _ (by show w.heap.size+1<M.drew.heap.size;exact Y)|>.trans O)
    |(refine dD ((qg ⟨(trim (upto 59 x)).toArray⟩ key _ af ab).mono ?_);rintro e w5⟨rfl,j⟩;have b:(⟨(trim (upto 59 x)).toArray⟩:aaM).data.toList=trim (upto 59 x):=rfl;rw[b,J];clear b)
    |(refine⟨trivial, ?_⟩))
   all_goals
    have G:Below W.heap.size W w5:=A.o.t ((kt (i.t (j.mono i.size))).mono A.o.size)
    gi_wp2
    exact sH d G E.o F.o
  ·rcases Q:(pieces 59 x).tail.any zero with _|_
   ·have F:=ad (RU J Q)
    gi_region_with (first
     |(refine dD ((mR ⟨(upto 59 x).toArray⟩ _ ai).mono ?_);rintro e w4⟨rfl,i⟩;have b:(⟨(upto 59 x).toArray⟩:aaM).data.toList=upto 59 x:=rfl;rw[b];clear b;have T:=(eR i).1 _ _ (by show w.heap.size+1<M.drew.heap.size;exact Y)|>.trans O)
     |(refine dD ((qg ⟨(trim (upto 59 x)).toArray⟩ key _ af ab).mono ?_);rintro e w5⟨rfl,j⟩;have b:(⟨(trim (upto 59 x)).toArray⟩:aaM).data.toList=trim (upto 59 x):=rfl;rw[b,J];clear b)
     |(refine dD ((vl ⟨x.toArray⟩ _ ((ao.next i).next j) ay).mono ?_);rintro e w6⟨rfl,G⟩;have b:(⟨x.toArray⟩:aaM).data.toList=x:=rfl;rw[b,Q];clear b)
     |(refine⟨trivial, ?_⟩))
    all_goals
     have s:Below W.heap.size W w6:=A.o.t ((kt ((i.t (j.mono i.size)).t (G.mono (bP i.size j.size)))).mono A.o.size);obtain⟨d3,f3⟩:=bR ((s.block (w.heap.size+1+1) (by omega)).t ((d.block _ (by omega) (by omega)).t u));obtain⟨d4,f4⟩:=bR ((s.block (w.heap.size+1+1+1) (by omega)).t ((d.block _ (by omega) (by omega)).t y))
     gi_wp2
     exact GY an d s (by omega) (by omega) (by omega) (by omega) ((s.block (w.heap.size+1+1) (by omega)).t ((d.block _ (by omega) (by omega)).t u)) ((s.block (w.heap.size+1+1+1) (by omega)).t ((d.block _ (by omega) (by omega)).t y)) E.o F.o
   ·have F:=ad (RT (key:=key.data.toList) Q)
    gi_region_with (first
     |(refine dD ((mR ⟨(upto 59 x).toArray⟩ _ ai).mono ?_);rintro e w4⟨rfl,i⟩;have b:(⟨(upto 59 x).toArray⟩:aaM).data.toList=upto 59 x:=rfl;rw[b];clear b;have T:=(eR i).1 _ _ (by show w.heap.size+1<M.drew.heap.size;exact Y)|>.trans O)
     |(refine dD ((qg ⟨(trim (upto 59 x)).toArray⟩ key _ af ab).mono ?_);rintro e w5⟨rfl,j⟩;have b:(⟨(trim (upto 59 x)).toArray⟩:aaM).data.toList=trim (upto 59 x):=rfl;rw[b,J];clear b)
     |(refine dD ((vl ⟨x.toArray⟩ _ ((ao.next i).next j) ay).mono ?_);rintro e w6⟨rfl,G⟩;have b:(⟨x.toArray⟩:aaM).data.toList=x:=rfl;rw[b,Q];clear b)
     |(refine⟨trivial, ?_⟩))
    all_goals
     have s:Below W.heap.size W w6:=A.o.t ((kt ((i.t (j.mono i.size)).t (G.mono (bP i.size j.size)))).mono A.o.size)
     gi_wp2
     exact sH d s E.o F.o
 case done=>
  rintro D W hD⟨I,d⟩m;obtain⟨O,f3⟩:=bR ((d.block _ (by omega) (by omega)).t u);obtain⟨T,f4⟩:=bR ((d.block _ (by omega) (by omega)).t y);have S:=ad (Cb (d.below an (by omega) (by omega)) (by omega) (by omega) (by omega) (by omega) (by omega) ((d.block _ (by omega) (by omega)).t u) ((d.block _ (by omega) (by omega)).t y) m ⟨#[]⟩ false);have E:=ad I;clear I m d
  gi_wp2
  obtain⟨Z,aN,V,X⟩:=S.o;refine⟨by simp,.inl ⟨_,_,rfl,kM aN, ?_⟩⟩;refine⟨.tuple #[.string ⟨#[]⟩,.bool false], ?_, ?_,Z⟩
  ·simp[results,Tryz.f220,go_sem,V,X]
  ·rw[HG.o,any_none E.o];rfl
 case stop=>
  rintro D pre W hD ac⟨v,hv,am,a3,R,q5⟩m;have S:=ad (xJ (D:=D) am (by omega) (by omega) R q5);have HK:=ad m;have Hv:=ad (nK ac hv);clear hv m am
  gi_wp2
  obtain⟨Z,V,X⟩:=S.o;refine⟨by simp,.inl ⟨_,_,rfl,kM HK.o, ?_⟩⟩;refine⟨.tuple #[.string ⟨v.toArray⟩,.bool true], ?_, ?_,Z⟩
  ·simp[results,Tryz.f220,go_sem,V,X]
  ·obtain⟨h1,rfl⟩:=any_some Hv.o;rw[HG.o,h1];rfl
end Go.Proofs.YtlemddnecmmfgaaGreatDoor
namespace Go.Proofs.YtlemddnecmmfgaaGreatDoor
open Go.RowKit
variable{d:Bs}{S:aaM}
theorem MA(f:FuncId)(o:∀(vs:Array aaL) (w:aaK),(callFunc f vs).run Tryz.prog w=.ok (.enter f vs) w)(h t key:aaM)(a:Option Addr)(n c d b:Nat)(w:aaK)(j:w.cell? ⟨d,2,none⟩=some (.func (.func f) #[] #[]))(l:w.cell? ⟨b,0,none⟩=some (.string key))(v:Bs×Bool)
 (k:Calls Tryz.prog f #[.agg #[.string h,.string t,.slice a n c],.string key] (w.alloc (.cells #[.string h,.string t,.slice a n c] 47)) (cN (w.alloc (.cells #[.string h,.string t,.slice a n c] 47)) (.tuple #[.string ⟨v.1.toArray⟩,.bool v.2]))):
 Calls Tryz.prog 235 #[.agg #[.string h,.string t,.slice a n c],.pointer (some ⟨d,0,none⟩),.pointer (some ⟨b,0,none⟩)] w (cN w (.tuple #[.string ⟨v.1.toArray⟩,.bool v.2])):=by
 have q:=aV j;have p:=aV l;go_enter Tryz.func235,Tryz.ntmps235;go_wp2_with fail;refine k.m ?_;rintro e r⟨rfl,i⟩;go_wp2;go_ret2;exact⟨rfl,eG i⟩
theorem WW(has:Bool)(h t name key:aaM)(a:Option Addr)(n c:Nat)(w:aaK)(k:cD name.data.toList=false):
 Calls Tryz.prog 195 #[.agg #[.string h,.string t,.slice a n c],.string name,.string key,.bool has] w (cN w (.tuple #[.string ⟨#[]⟩,.bool false])):=by
 have l:=ad k;clear k;have i:Below w.heap.size w ((w.alloc (.cells #[.string h,.string t,.slice a n c] 47)).alloc (.cells #[.string key] 9)):=((ar _ _).alloc (ag _) _).alloc (by simp) _;have d:=ad i;clear i;go_enter Tryz.func195,Tryz.ntmps195;go_wp2_with fail;refine(bO _).m ?_;rintro e y⟨b,s,u,x,rfl,p,q⟩;have j:=d.o.t (q.m d.o.size);have r:=JJ p l.o;cases has<;>(go_wp2;go_ret2;exact⟨rfl,j.alloc j.size _⟩)
theorem CQ(h t key:aaM)(s:aaL)(w:aaK){W:aaK}(b:W=(w.alloc (.cells #[.string h,.string t,s] 47)).alloc (.cells #[.string key] 9)):
 Below w.heap.size w W∧W.cell? ⟨w.heap.size,0,none⟩=some (.string h)∧W.cell? ⟨w.heap.size,1,none⟩=some (.string t)∧W.cell? ⟨w.heap.size,2,none⟩=some s∧W.cell? ⟨w.heap.size+1,0,none⟩=some (.string key):=by
 subst b;have a:=bH (w.alloc (.cells #[.string h,.string t,s] 47)) #[.string key] 9 0 _ rfl;rw[aO] at a;exact⟨((ar _ _).alloc (ag _) _).alloc (by simp) _,(((ar _ _).alloc (ag _) _).cell (p:=⟨w.heap.size,0,none⟩) (by show w.heap.size<_;simp)).t (bH w _ _ 0 _ rfl),(((ar _ _).alloc (ag _) _).cell (p:=⟨w.heap.size,1,none⟩) (by show w.heap.size<_;simp)).t (bH w _ _ 1 _ rfl),(((ar _ _).alloc (ag _) _).cell (p:=⟨w.heap.size,2,none⟩) (by show w.heap.size<_;simp)).t (bH w _ _ 2 _ rfl),a⟩
theorem MC(h t key:aaM)(a:Option Addr)(n c:Nat)(w:aaK)(v:Bs×Bool)(C:v.2=false→v.1=[])
 (r:∀(W:aaK) (b E F G:Nat),Below w.heap.size w W→dr W b E F G→∃(src:aaM) (f u:FuncId) (cap:List aaL),(cap=[]∨∃p,cap=[.pointer (some p)])∧(Instr.lookup 239 (.map (some b)) (.string S) true).run Tryz.prog W=.ok (.tuple #[.agg #[.string src,.func (.func f) #[] cap.toArray,.func (.func u) #[] #[]],.bool true]) W∧(∀(vs:Array aaL) (w:aaK),(callFunc f vs).run Tryz.prog w=.ok (.enter f vs) w)∧∀W',Below W.heap.size W W'→Calls Tryz.prog f (.agg #[.string h,.string t,.slice a n c]::cap).toArray W' (cN W' (.tuple #[.string ⟨v.1.toArray⟩,.bool v.2]))):
 Calls Tryz.prog 195 #[.agg #[.string h,.string t,.slice a n c],.string S,.string key,.bool false] w (cN w (.tuple #[.string ⟨v.1.toArray⟩,.bool v.2])):=by
 have I:=ad C;have s:=ad r;clear C r;have q:=ad (CQ h t key (.slice a n c) w rfl);go_enter Tryz.func195,Tryz.ntmps195;go_wp2_with fail;refine(bO _).m ?_;rintro e Y⟨b,E,F,G,rfl,z,d⟩;obtain⟨k,i,d1,d2,j⟩:=q.o;have K:=((eR d).1 _ 0 (aV i)).t i;have O:=((eR d).1 _ 1 (aV d1)).t d1;have Q:=((eR d).1 _ 2 (aV d2)).t d2;have L:=((eR d).1 _ 0 (aV j)).t j;have V:=aV K;have X:=aV L;have l:=k.t (d.m k.size);clear d k i d1 d2 j q;obtain⟨src,f,u,cap,N,T,R,B⟩:=s.o _ _ _ _ _ l z;have H:=ad B;clear B s z;rcases N with rfl|⟨p,rfl⟩;all_goals
  go_wp2_with fail;refine(H.o _ ((ar _ _).alloc (ag _) _)).m ?_;rintro e Z⟨rfl,M⟩;have A:=l.t ((eG M).m l.size);obtain⟨x,y⟩:=v;rcases y with _|_
  ·have D:x=[]:=I.o rfl;have J:=ad D;clear D;go_wp2;go_ret2;rw[J.o];exact⟨rfl,A⟩
  ·go_wp2;go_ret2;exact⟨rfl,A⟩
theorem MD(h t key:aaM)(a:Option Addr)(n c:Nat)(w:aaK)(v:Bs×Bool)(Q:v.2=false→v.1=[])(af:key.size≤140737488351232)(R:fJ key.data.toList=true)
 (H:∀(W:aaK) (b V X Y:Nat),Below w.heap.size w W→dr W b V X Y→∃(src:aaM) (L:FuncId) (cap:Array aaL) (d:FuncId),(Instr.lookup 239 (.map (some b)) (.string S) true).run Tryz.prog W=.ok (.tuple #[.agg #[.string src,.func (.func L) #[] cap,.func (.func d) #[] #[]],.bool true]) W∧(∀(vs:Array aaL) (w:aaK),(callFunc d vs).run Tryz.prog w=.ok (.enter d vs) w)∧∀W',Below w.heap.size w W'→Calls Tryz.prog d #[.agg #[.string h,.string t,.slice a n c],.string key] W' (cN W' (.tuple #[.string ⟨v.1.toArray⟩,.bool v.2]))):
 Calls Tryz.prog 195 #[.agg #[.string h,.string t,.slice a n c],.string S,.string key,.bool true] w (cN w (.tuple #[.string ⟨v.1.toArray⟩,.bool v.2])):=by
 have aa:=ad Q;have ab:=ad R;have I:=ad H;clear Q R H;have E:=ad (CQ h t key (.slice a n c) w rfl);go_enter Tryz.func195,Tryz.ntmps195;go_wp2_with fail;refine(bO _).m ?_;rintro e r⟨b,V,X,Y,rfl,M,i⟩;obtain⟨A,s,d1,d2,u⟩:=E.o;have z:=((eR i).1 _ 0 (aV s)).t s;have J:=((eR i).1 _ 1 (aV d1)).t d1;have K:=((eR i).1 _ 2 (aV d2)).t d2;have l:=((eR i).1 _ 0 (aV u)).t u;have D:=aV z;have l3:=aV l;have C:=A.t (i.m A.size);clear i A s d1 d2 u E;obtain⟨src,L,cap,d,hl,O,k⟩:=I.o _ _ _ _ _ C M;have G:=ad O;have F:=ad k;clear k I M O;go_wp2_with fail;refine(yv key _ af).m ?_;rintro e w2⟨rfl,B⟩;rw[ab.o];have q:=fun o=>(eR B).1 r.heap.size o (by simp);have r1:=(q 1).t (bH r _ _ 1 _ rfl);have r2:=(q 2).t (bH r _ _ 2 _ rfl);have j:=eG B;replace z:=((eR j).1 _ 0 D).t z;replace J:=((eR j).1 _ 1 D).t J;replace K:=((eR j).1 _ 2 D).t K;replace l:=((eR j).1 _ 0 l3).t l;have p:=C.t (j.m C.size);have k:=F.o _ (p.alloc p.size (.cells #[.string h,.string t,.slice a n c] 47));have Z:=ad (MA d G.o h t key a n c r.heap.size (w.heap.size+1) w2 r2 l v k);clear q B j k F G;go_wp2_with fail;refine Z.o.m ?_;rintro e w3⟨rfl,ac⟩;have N:=p.t (ac.m p.size);obtain⟨x,y⟩:=v;rcases y with _|_
 ·have T:x=[]:=aa.o rfl;have HX:=ad T;clear T;go_wp2;go_ret2;rw[HX.o];exact⟨rfl,N⟩
 ·go_wp2;go_ret2;exact⟨rfl,N⟩
theorem MF(h t key:aaM)(a:Option Addr)(n c:Nat)(w:aaK)(N:key.size≤140737488351232)(H:fJ key.data.toList=false)
 (A:∀(W:aaK) (b I J K:Nat),Below w.heap.size w W→dr W b I J K→∃(src:aaM) (F:FuncId) (cap:Array aaL) (E:FuncId),(Instr.lookup 239 (.map (some b)) (.string S) true).run Tryz.prog W=.ok (.tuple #[.agg #[.string src,.func (.func F) #[] cap,.func (.func E) #[] #[]],.bool true]) W):
 Calls Tryz.prog 195 #[.agg #[.string h,.string t,.slice a n c],.string S,.string key,.bool true] w (cN w (.tuple #[.string ⟨#[]⟩,.bool false])):=by
 have L:=ad H;have B:=ad A;clear H A;have z:=ad (CQ h t key (.slice a n c) w rfl);go_enter Tryz.func195,Tryz.ntmps195;go_wp2_with fail;refine(bO _).m ?_;rintro e y⟨b,I,J,K,rfl,G,d⟩;obtain⟨r,j,d1,d2,k⟩:=z.o;have l:=((eR d).1 _ 0 (aV j)).t j;have C:=((eR d).1 _ 1 (aV d1)).t d1;have D:=((eR d).1 _ 2 (aV d2)).t d2;have p:=((eR d).1 _ 0 (aV k)).t k;have x:=aV l;have O:=aV p;have u:=r.t (d.m r.size);clear d r j d1 d2 k z;obtain⟨src,F,cap,E,Q⟩:=B.o _ _ _ _ _ u G;clear B G;go_wp2_with fail;refine(yv key _ N).m ?_;rintro e V⟨rfl,s⟩;rw[L.o];have q:=fun o=>(eR s).1 y.heap.size o (by simp);have R:=(q 1).t (bH y _ _ 1 _ rfl);have T:=(q 2).t (bH y _ _ 2 _ rfl);have i:=eG s;replace l:=((eR i).1 _ 0 x).t l;replace C:=((eR i).1 _ 1 x).t C;replace D:=((eR i).1 _ 2 x).t D;replace p:=((eR i).1 _ 0 O).t p;have M:=u.t (i.m u.size);clear q s i;go_wp2;go_ret2;exact⟨rfl,M⟩
theorem CR(fs:List dQ)(name:Bs)(h:(jz fs name).2=false):(jz fs name).1=[]:=by
 have a:values fs name=[]:=by have:¬0<(values fs name).length:=tF h;exact jn (by omega)
 unfold jz;rw[a];rfl
theorem F2(fs:List dQ)(h:(fe fs).2=false):(fe fs).1=[]:=by
 have a:values fs bA=[]:=by have:¬0<(values fs bA).length:=tF h;exact jn (by omega)
 unfold fe;rw[a];rfl
theorem CS(x:Option Bs)(h:(pd x).2=false):(pd x).1=[]:=by cases x with|none=>rfl|some v=>cases h
theorem QI(x:Bool)(h:x=false):vk x=[]:=by subst h;rfl
theorem Tg(s:Bs)(h:(Em s).2=false):(Em s).1=[]:=by have b:¬0<lead vd (s.drop (kq s)):=tF h;have a:(s.drop (kq s)).takeWhile vd=(s.drop (kq s)).take (lead vd (s.drop (kq s))):=(cU vd _).symm;unfold Em;show(s.drop (kq s)).takeWhile vd=[];rw[a,show lead vd (s.drop (kq s))=0 by omega];rfl
theorem MG(s key:Bs)(h:(gX s key).2=false):(gX s key).1=[]:=by
 unfold gX at h⊢;cases a:(key==lg)
 ·rw[a] at h;cases b:(key==mU)
  ·rw[b] at h;cases c:(key==VE)
   ·rfl
   ·rw[c] at h;cases h
  ·rw[b] at h;exact Tg s h
 ·rw[a] at h;cases h
theorem Va(fs:List dQ)(key:Bs)(h:(Ls fs key).2=false):(Ls fs key).1=[]:=by
 unfold Ls at h⊢;cases a:(jz fs agentName).2
 ·rfl
 ·rw[a] at h;exact MG _ _ h
theorem Th(h:fJ d=true):d≠[]:=by intro e;subst e;revert h;decide
theorem I9{key:Bs}(h:fJ key=true):(bif d.contains 63 then kZ d key else none)=kZ d key:=by
 cases b:d.contains 63
 ·unfold kZ;rw[El 63 d b];have c:([]==key)=false:=by rw[aL];exact eo (Th h)
  show none=List.findSome? (uh key) (pieces 38 []);have:pieces 38 ([]:Bs)=[[]]:=rfl;rw[this];have:uh key []=none:=by unfold uh;have a:upto 61 ([]:Bs)=[]:=rfl;rw[a,c];rfl
  rw[List.findSome?_cons,this];rfl
 ·rfl
theorem QJ(c:(!d.isEmpty)=false):d=[]:=by cases d with|nil=>rfl|cons a b=>cases c
theorem Ja(t:Bs):pd (rD t)=(past 63 t,hasB 63 t):=by
 unfold rD hasB;cases a:t.contains 63
 ·rw[El 63 t a];rfl
 ·rfl
theorem E3(h t name key:aaM)(a:Option Addr)(n c:Nat)(fs:List dQ)(has:Bool)(w:aaK)(u:Good w)(hF:aZ w (.slice a n c) fs)(s:rX fs)(x:t.size≤100000)(z:key.size≤100000):
 Calls Tryz.prog 195 #[.agg #[.string h,.string t,.slice a n c],.string name,.string key,.bool has] w
  (cN w (.tuple #[.string ⟨(dK h.data.toList t.data.toList fs name.data.toList key.data.toList has).1.toArray⟩,.bool (dK h.data.toList t.data.toList fs name.data.toList key.data.toList has).2])):=by
 have q:key.size≤140737488351232:=by omega
 rcases nJ name.data.toList with p|p|p|p|p|p|p
 ·obtain rfl:=dn p;rcases has with _|_
  ·exact MC h t key a n c w (h.data.toList, !h.data.toList.isEmpty) (fun y=>QJ y) (fun W b k l o i d=>⟨_,_,_,_,.inl rfl,wi d,fun vs w=>cP Tryz.func212 (by kernel_rfl) rfl vs w,fun W' j=>by have r:=i.t (j.m i.size);exact(by have:=Ln h t a n c W';exact this)⟩)
  ·rcases e:fJ key.data.toList with _|_
   ·rw[show dK h.data.toList t.data.toList fs (⟨kX.toArray⟩:aaM).data.toList key.data.toList true=([],false) by unfold dK;rw[e];rfl];exact MF h t key a n c w q e (fun W b k l o i d=>⟨_,_,_,_,wi d⟩)
   ·rw[show dK h.data.toList t.data.toList fs (⟨kX.toArray⟩:aaM).data.toList key.data.toList true=([],false) by unfold dK;rw[e];rfl];exact MD h t key a n c w ([],false) (fun _=>rfl) q e (fun W b k l o i d=>⟨_,_,_,_,wi d,fun vs w=>cP Tryz.func213 (by kernel_rfl) rfl vs w,fun W j=>zm h t key a n c W⟩)
 ·obtain rfl:=dn p;rcases has with _|_
  ·exact MC h t key a n c w (jz fs dP) (CR fs _) (fun W b k l o i d=>⟨_,_,_,_,.inr ⟨_,rfl⟩,wj d,fun vs w=>cP Tryz.func245 (by kernel_rfl) rfl vs w,fun W' j=>by have r:=i.t (j.m i.size);exact pO h t ⟨dP.toArray⟩ a n c k fs W' (hF.below r) s (by decide) (d.next j).c1⟩)
  ·rcases e:fJ key.data.toList with _|_
   ·rw[show dK h.data.toList t.data.toList fs (⟨dZ.toArray⟩:aaM).data.toList key.data.toList true=([],false) by unfold dK;rw[e];rfl];exact MF h t key a n c w q e (fun W b k l o i d=>⟨_,_,_,_,wj d⟩)
   ·rw[show dK h.data.toList t.data.toList fs (⟨dZ.toArray⟩:aaM).data.toList key.data.toList true=([],false) by unfold dK;rw[e];rfl];exact MD h t key a n c w ([],false) (fun _=>rfl) q e (fun W b k l o i d=>⟨_,_,_,_,wj d,fun vs w=>cP Tryz.func213 (by kernel_rfl) rfl vs w,fun W j=>zm h t key a n c W⟩)
 ·obtain rfl:=dn p;rcases has with _|_
  ·exact MC h t key a n c w (jz fs agentName) (CR fs _) (fun W b k l o i d=>⟨_,_,_,_,.inr ⟨_,rfl⟩,wk d,fun vs w=>cP Tryz.func245 (by kernel_rfl) rfl vs w,fun W' j=>by have r:=i.t (j.m i.size);exact pO h t ⟨agentName.toArray⟩ a n c l fs W' (hF.below r) s (by decide) (d.next j).c2⟩)
  ·rcases e:fJ key.data.toList with _|_
   ·rw[show dK h.data.toList t.data.toList fs (⟨iE.toArray⟩:aaM).data.toList key.data.toList true=([],false) by unfold dK;rw[e];rfl];exact MF h t key a n c w q e (fun W b k l o i d=>⟨_,_,_,_,wk d⟩)
   ·rw[show dK h.data.toList t.data.toList fs (⟨iE.toArray⟩:aaM).data.toList key.data.toList true=(Ls fs key.data.toList) by unfold dK;rw[e];rfl];exact MD h t key a n c w (Ls fs key.data.toList) (Va fs _) q e (fun W b k l o i d=>⟨_,_,_,_,wk d,fun vs w=>cP Tryz.func215 (by kernel_rfl) rfl vs w,fun W j=>I8 h t key a n c fs W (u.next j) (hF.below j) s⟩)
 ·obtain rfl:=dn p;rcases has with _|_
  ·exact MC h t key a n c w (fe fs) (F2 fs) (fun W b k l o i d=>⟨_,_,_,_,.inl rfl,wm d,fun vs w=>cP Tryz.func216 (by kernel_rfl) rfl vs w,fun W' j=>by have r:=i.t (j.m i.size);exact sI h t a n c fs W' (hF.below r) s⟩)
  ·rcases e:fJ key.data.toList with _|_
   ·rw[show dK h.data.toList t.data.toList fs (⟨eU.toArray⟩:aaM).data.toList key.data.toList true=([],false) by unfold dK;rw[e];rfl];exact MF h t key a n c w q e (fun W b k l o i d=>⟨_,_,_,_,wm d⟩)
   ·rw[show dK h.data.toList t.data.toList fs (⟨eU.toArray⟩:aaM).data.toList key.data.toList true=(pd (nL fs key.data.toList)) by unfold dK;rw[e];rfl];exact MD h t key a n c w (pd (nL fs key.data.toList)) (CS _) q e (fun W b k l o i d=>⟨_,_,_,_,wm d,fun vs w=>cP Tryz.func217 (by kernel_rfl) rfl vs w,fun W j=>Ee h t key a n c fs W (u.next j) (hF.below j) s⟩)
 ·obtain rfl:=dn p;rcases has with _|_
  ·exact MC h t key a n c w (pd (rD t.data.toList)) (CS _) (fun W b k l o i d=>⟨_,_,_,_,.inl rfl,wo d,fun vs w=>cP Tryz.func218 (by kernel_rfl) rfl vs w,fun W' j=>by have r:=i.t (j.m i.size);exact(by have:=xK h t a n c W' (u.next r) x;rw[show pd (rD t.data.toList)=(past 63 t.data.toList,hasB 63 t.data.toList) from Ja _];exact this)⟩)
  ·rcases e:fJ key.data.toList with _|_
   ·rw[show dK h.data.toList t.data.toList fs (⟨iF.toArray⟩:aaM).data.toList key.data.toList true=([],false) by unfold dK;rw[e];rfl];exact MF h t key a n c w q e (fun W b k l o i d=>⟨_,_,_,_,wo d⟩)
   ·rw[show dK h.data.toList t.data.toList fs (⟨iF.toArray⟩:aaM).data.toList key.data.toList true=(pd (kZ t.data.toList key.data.toList)) by unfold dK;rw[e];show pd (bif t.data.toList.contains 63 then kZ t.data.toList key.data.toList else none)=_;rw[I9 e]];exact MD h t key a n c w (pd (kZ t.data.toList key.data.toList)) (CS _) q e (fun W b k l o i d=>⟨_,_,_,_,wo d,fun vs w=>cP Tryz.func219 (by kernel_rfl) rfl vs w,fun W j=>G1 h t key a n c fs W (u.next j) x⟩)
 ·obtain rfl:=dn p;rcases has with _|_
  ·exact MC h t key a n c w (jz fs ed) (CR fs _) (fun W b k l o i d=>⟨_,_,_,_,.inr ⟨_,rfl⟩,wu d,fun vs w=>cP Tryz.func245 (by kernel_rfl) rfl vs w,fun W' j=>by have r:=i.t (j.m i.size);exact pO h t ⟨ed.toArray⟩ a n c o fs W' (hF.below r) s (by decide) (d.next j).c3⟩)
  ·rcases e:fJ key.data.toList with _|_
   ·rw[show dK h.data.toList t.data.toList fs (⟨kY.toArray⟩:aaM).data.toList key.data.toList true=([],false) by unfold dK;rw[e];rfl];exact MF h t key a n c w q e (fun W b k l o i d=>⟨_,_,_,_,wu d⟩)
   ·rw[show dK h.data.toList t.data.toList fs (⟨kY.toArray⟩:aaM).data.toList key.data.toList true=(vk (mS fs key.data.toList),mS fs key.data.toList) by unfold dK;rw[e];rfl];exact MD h t key a n c w (vk (mS fs key.data.toList),mS fs key.data.toList) (QI _) q e (fun W b k l o i d=>⟨_,_,_,_,wu d,fun vs w=>cP Tryz.func220 (by kernel_rfl) rfl vs w,fun W j=>zC h t key a n c fs W (u.next j) (hF.below j) s z⟩)
 ·rw[show dK h.data.toList t.data.toList fs name.data.toList key.data.toList has=([],false) from AO p];exact WW has h t name key a n c w p
