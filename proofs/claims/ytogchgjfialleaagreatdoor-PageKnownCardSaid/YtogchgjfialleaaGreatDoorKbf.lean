/- The walk of the program's Get: any variable of any request. The program's Get, joined: it answers as the plain law says. -/
import Derived.Test.YtogchgjfialleaaGreatDoorKbe
set_option linter.unusedVariables false
set_option maxRecDepth 100000
set_option maxHeartbeats 800000
namespace Go.Proofs.YtogchgjfialleaaGreatDoor
open Go.RowKit Go.Shelf
attribute[local go_sem] Oper.semAt_some
structure WL (w W:World) (o1 o2 o3 o4:Obj):Prop where
 b1:W.heap[w.heap.size]? =some o1
 b2:W.heap[w.heap.size+1]? =some o2
 b3:W.heap[w.heap.size+1+1]? =some o3
 b4:W.heap[w.heap.size+1+1+1]? =some o4
 size:W.heap.size=w.heap.size+1+1+1+1
 below:Below w.heap.size w W
theorem xI(w:World)(o1 o2 o3 o4:Obj):WL w ((((w.alloc o1).alloc o2).alloc o3).alloc o4) o1 o2 o3 o4:=by
 have n1:(w.alloc o1).heap[w.heap.size]? =some o1:=oF w _;have n2:=oF (w.alloc o1) o2;have d:=oF ((w.alloc o1).alloc o2) o3;have e:=oF (((w.alloc o1).alloc o2).alloc o3) o4;simp only[aO] at n2 d e;have a:=(ar w.heap.size w).alloc (ag _) o1;have b:=a.alloc a.size o2;have c:=b.alloc b.size o3;exact⟨(tG _ _ _ (by simp<;>omega)).trans ((tG _ _ _ (by simp<;>omega)).trans ((tG _ _ _ (by simp)).trans n1)),
  (tG _ _ _ (by simp<;>omega)).trans ((tG _ _ _ (by simp)).trans n2),
  (tG _ _ _ (by simp)).trans d,e,by simp,c.alloc c.size o4⟩
def Lk(a:World)(b:Nat)(p:Bs→Option Bs)(pre:List Bs)(W:World):Prop:=pre.findSome? p=none∧iN a.heap.size b a W
def Ve(w b:World)(b4 a:Nat)(p:Bs→Option Bs)(pre:List Bs)(W:World):Prop:=
 ∃v:Bs,pre.findSome? p=some v∧Below w.heap.size w W∧b.heap.size≤W.heap.size∧W.heap[b4]? =some (.cells #[.string ⟨v.toArray⟩] 9)∧W.heap[a]? =some (.cells #[.bool true] 4)
theorem rB(b:World)(a:Nat)(p:Bs→Option Bs)(pre:List Bs)(A B:World)(h:Lk b a p pre A)(k:iN b.heap.size a A B):Lk b a p pre B:=⟨h.1,h.2.trans k⟩
theorem ug(w a:World)(c b4 b:Nat)(p:Bs→Option Bs)(s:w.heap.size≤a.heap.size)(r:w.heap.size≤c)(j:b4<a.heap.size)(l:b<a.heap.size)(o:b4≠c)(q:b≠c)
 (pre:List Bs)(A B:World)(h:Ve w a b4 b p pre A)(k:iN a.heap.size c A B):Ve w a b4 b p pre B:=by
 obtain⟨v,d,e,i,m,n⟩:=h;exact⟨v,d,k.below e s r,bP i k.size,(k.block _ j o).trans m,(k.block _ l q).trans n⟩
theorem GY{w c W b:World}{i b4 a:Nat}{p:Bs→Option Bs}{pre:List Bs}{x v:Bs}{t u:Value}(h:Below w.heap.size w c)(e:iN c.heap.size i c W)(d:Below W.heap.size W b)(n:w.heap.size≤i)
 (l:w.heap.size≤b4)(m:w.heap.size≤a)(j:b4≠a)(r:b.heap[b4]? =some (.cells #[t] 9))(s:b.heap[a]? =some (.cells #[u] 4))
 (o:pre.findSome? p=none)(q:p x=some v):
 oY (fun k=>k=b4∨k=a) W ((b.setCell ⟨b4,0,none⟩ (.string ⟨v.toArray⟩)).setCell ⟨a,0,none⟩ (.bool true))∧
 Ve w c b4 a p (pre++[x]) ((b.setCell ⟨b4,0,none⟩ (.string ⟨v.toArray⟩)).setCell ⟨a,0,none⟩ (.bool true)):=by
 refine⟨((oY.ai d).setCell (.inl rfl) _).setCell (.inr rfl) _,v,by rw[List.findSome?_append,o];simp[q], ?_, ?_, ?_, ?_⟩
 ·exact(((e.below h h.size n).trans (d.mono (bP h.size e.size))).setCell (p:=⟨b4,0,none⟩) l _).setCell (p:=⟨a,0,none⟩) m _
 ·rw[bE,bE];exact bP e.size d.size
 ·exact(dy _ ⟨a,0,none⟩ _ _ j).trans (sG r)
 ·exact sG ((dy _ ⟨b4,0,none⟩ _ _ (eo j)).trans s)
theorem sH{b W c:World}{S:Nat→Prop}{d:Nat}{p:Bs→Option Bs}{pre:List Bs}{x:Bs}(e:iN b.heap.size d b W)(a:Below W.heap.size W c)(i:pre.findSome? p=none)(j:p x=none):
 oY S W c∧Lk b d p (pre++[x]) c:=
 ⟨oY.ai a,by rw[List.findSome?_append,i];simp[j],e.trans ⟨a.os,a.tape,a.output,a.size,fun k h _=>a.block k (ej h e.size)⟩⟩
theorem Ll{key:ByteArray}{l:Bs}(a:(trim l).contains 61=true)(h:(upto 61 (trim l)==key.toList)=true):vQ key.data.toList l=some (past 61 (trim l)):=by rw[oE] at h;unfold vQ;rw[h,a];rfl
theorem OF{key:ByteArray}{l:Bs}(h:(upto 61 (trim l)==key.toList)=false):vQ key.data.toList l=none:=by rw[oE] at h;unfold vQ;rw[h,CU];rfl
theorem Ca{W:World}{k D:Nat}{v:Value}{t:TypeId}(h:W.heap[k]? =some (.cells #[v] t))(a:k≠D)(o:Obj):(W.putObj D o).cell? ⟨k,0,none⟩=some v:=
 (bR ((hX (o:=o) a).trans h)).1
theorem Cb{w W:World}{b4 a D:Nat}{q r:Value}(i:Below w.heap.size w W)(d:w.heap.size≤b4)(e:w.heap.size≤a)(c:b4≠a)(t:b4<D)(u:a<D)
 (l:W.heap[b4]? =some (.cells #[q] 9))(m:W.heap[a]? =some (.cells #[r] 4))(h:W.heap[D]? =some (.deferred (some [])))(s:ByteArray)(v:Bool):
 Below w.heap.size w ((((W.setCell ⟨b4,0,none⟩ (.string s)).setCell ⟨a,0,none⟩ (.bool v))).putObj D (.deferred none))∧
 ((W.setCell ⟨b4,0,none⟩ (.string s)).setCell ⟨a,0,none⟩ (.bool v)).heap[D]? =some (.deferred (some []))∧
 ((((W.setCell ⟨b4,0,none⟩ (.string s)).setCell ⟨a,0,none⟩ (.bool v))).putObj D (.deferred none)).cell? ⟨b4,0,none⟩=some (.string s)∧
 ((((W.setCell ⟨b4,0,none⟩ (.string s)).setCell ⟨a,0,none⟩ (.bool v))).putObj D (.deferred none)).cell? ⟨a,0,none⟩=some (.bool v):=by
 have b:=(i.setCell (p:=⟨b4,0,none⟩) d (.string s)).setCell (p:=⟨a,0,none⟩) e (.bool v);have n:((W.setCell ⟨b4,0,none⟩ (.string s)).setCell ⟨a,0,none⟩ (.bool v)).heap[b4]? =_:=(dy _ ⟨a,0,none⟩ _ _ c).trans (sG l);have o:((W.setCell ⟨b4,0,none⟩ (.string s)).setCell ⟨a,0,none⟩ (.bool v)).heap[a]? =_:=sG ((dy _ ⟨b4,0,none⟩ _ _ (eo c)).trans m);refine⟨⟨b.os,b.tape,b.output,by simpa using b.size,fun k j=>(hX (by omega)).trans (b.block k j)⟩, ?_,Ca n (by omega) _,Ca o (by omega) _⟩;exact(dy _ ⟨a,0,none⟩ _ _ (by show D≠a;omega)).trans ((dy _ ⟨b4,0,none⟩ _ _ (by show D≠b4;omega)).trans h)
theorem xJ{w W:World}{b4 b D:Nat}{c d:Value}{j l:TypeId}(a:Below w.heap.size w W)(m:b4<D∧w.heap.size≤D)(n:b<D)
 (h:W.heap[b4]? =some (.cells #[c] j))(i:W.heap[b]? =some (.cells #[d] l)):
 Below w.heap.size w (W.putObj D (.deferred none))∧(W.putObj D (.deferred none)).cell? ⟨b4,0,none⟩=some c∧(W.putObj D (.deferred none)).cell? ⟨b,0,none⟩=some d:=
 ⟨⟨a.os,a.tape,a.output,by simpa using a.size,fun k e=>(hX (by omega)).trans (a.block k e)⟩,Ca h (by omega) _,Ca i (by omega) _⟩
theorem nK{a b:Type}{f:a→Option b}{pre l:List a}{v:b}(h:pre<+:l)(c:pre.findSome? f=some v):l.findSome? f=some v:=by obtain⟨r,rfl⟩:=h;rw[List.findSome?_append,c];rfl
theorem Ee(h t key:ByteArray)(a:Option Addr)(n c:Nat)(fs:List dQ)(w:World)(hg:Good w)(hF:aZ w (.slice a n c) fs)(aa:rX fs):
 Calls Tryz.prog 207 #[.agg #[.string h,.string t,.slice a n c],.string key] w
  (cN w (.tuple #[.string ⟨((nL fs key.data.toList).getD []).toArray⟩,.bool (nL fs key.data.toList).isSome])):=by
 have an:=B9 aa;have S:=ad (show nL fs key.data.toList=(pieces 59 (fe fs).1).findSome? (vQ key.data.toList) from rfl);have T:=ad (xI w (.cells #[.string h,.string t,.slice a n c] 47) (.cells #[.string key] 9) (.cells #[.string ⟨#[]⟩] 9) (.cells #[.bool false] 4));have ao:=hg.lt;obtain⟨N,_⟩:∃N:Nat,True:=⟨0,trivial⟩;refine(callsIn_wide (n:=N)).1 ?_;refine callsIn_of_wp_marks Tryz.func207 rfl trivial ?_ rfl;simp only[Tryz.ntmps207,oC,bF,lH,Nat.reduceAdd,Nat.reduceSub,Array.replicate_succ,Array.replicate_zero,List.push_toArray,List.append_toArray,kK,di]
 gi_wp2_with fail
 generalize(((w.alloc (.cells #[.string h,.string t,.slice a n c] 47)).alloc (.cells #[.string key] 9)).alloc (.cells #[.string ⟨#[]⟩] 9)).alloc (.cells #[.bool false] 4)=W0 at*;have m:=T.out;clear T;have u:=m.below;have ay:=m.size;refine ff ((sI h t a n c fs _ (hF.below u) aa).mono ?_);rintro e j⟨rfl,i⟩;have ac:Good j:=(hg.next u).next i
 have M:=u.trans (i.mono u.size);have Q:=(i.block _ (by omega)).trans m.b2;have z:=(i.block _ (by omega)).trans m.b3;have A:=(i.block _ (by omega)).trans m.b4;have aq:=i.size;clear i m u;generalize(fe fs).1=all at*
 gi_wp2_with fail
 refine ff ((kC all 59 j).mono ?_);rintro e C⟨rfl,hit,av,o⟩;have af:Good C:=ac.next o;have Z:=M.trans (o.mono M.size);replace Q:=(o.block _ (by omega)).trans Q;replace z:=(o.block _ (by omega)).trans z;replace A:=(o.block _ (by omega)).trans A;clear o M
 gi_wp2_with fail
 have ap:w.heap.size+1+1+1+1≤j.heap.size:=by omega
 refine range_split 59 all j.heap.size (j.heap.size+1) (j.heap.size+1+1) (by omega) (by omega) (by omega) rfl rfl hit af (by omega)
  (fun k=>k=w.heap.size+1+1∨k=w.heap.size+1+1+1) (by rintro k(rfl|rfl)<;>omega)
  (Lk C j.heap.size (vQ key.data.toList)) (Ve w C (w.heap.size+1+1) (w.heap.size+1+1+1) (vQ key.data.toList))
  (rB C _ _) (ug w C _ _ _ _ (by omega) (by omega) (by omega) (by omega) (by omega) (by omega)) ⟨rfl,iN.refl _ _ _⟩ ?a1 ?assign ?body ?done ?stop
 case assign=>
  intro l x W K d
  gi_wp2
  exact d
 case body=>
  rintro l pre x W⟨y,b⟩ai O;have a0:x.length≤all.length:=iO 59 all.length all (ag _) x (O.subset (by simp));have aN:=sJ x;have aU:=oZ 61 (trim x);have al:=b.size;obtain⟨V,_⟩:=bR ((b.block _ (by omega) (by omega)).trans Q);have r:=ad y;clear y
  gi_wp2_with fail
  refine dD ((mR ⟨x.toArray⟩ _ (Ty _ _ (by omega))).mono ?_);rintro e w3⟨rfl,E⟩;have s:(⟨x.toArray⟩:ByteArray).data.toList=x:=rfl;rw[s];clear s
  gi_wp2_with fail
  refine dD ((fI ⟨(trim x).toArray⟩ 61 _ (ai.next E) (GV _ _ (by omega))).mono ?_);rintro e w4⟨rfl,X⟩;have s:(⟨(trim x).toArray⟩:ByteArray).data.toList=trim x:=rfl;rw[s];clear s;have q:Below W.heap.size W w4:=E.trans (X.mono E.size);have am:w4.cell? ⟨w.heap.size+1,0,none⟩=some (.string key):=(q.cell (p:=⟨w.heap.size+1,0,none⟩) (by show w.heap.size+1<_;omega)).trans V;have R:=(q.block (w.heap.size+1+1) (by omega)).trans ((b.block _ (by omega) (by omega)).trans z);have B:=(q.block (w.heap.size+1+1+1) (by omega)).trans ((b.block _ (by omega) (by omega)).trans A);obtain⟨c3,f3⟩:=bR R;obtain⟨c4,f4⟩:=bR B;have Q3:=ad R;have Q4:=ad B;clear V E X R B;rcases hh:hasB 61 (trim x) with _|_
  ·have G:=ad (RR (key:=key.data.toList) hh)
   gi_wp2
   exact sH b q r.out G.out
  ·have G:=ad hh;rcases hq:(upto 61 (trim x)==key.toList) with _|_
   ·have H:=ad hq
    gi_wp2
    exact sH b q r.out (OF H.out)
   ·have H:=ad hq
    gi_wp2
    exact GY Z b q (by omega) (by omega) (by omega) (by omega) Q3.out Q4.out r.out (Ll G.out H.out)
 case done=>
  rintro D W hD⟨y,b⟩d;obtain⟨c3,f3⟩:=bR ((b.block _ (by omega) (by omega)).trans z);obtain⟨c4,f4⟩:=bR ((b.block _ (by omega) (by omega)).trans A);have F:=ad (Cb (b.below Z (by omega) (by omega)) (by omega) (by omega) (by omega) (by omega) (by omega) ((b.block _ (by omega) (by omega)).trans z) ((b.block _ (by omega) (by omega)).trans A) d ⟨#[]⟩ false);have r:=ad y;clear y d b
  gi_wp2
  obtain⟨L,ab,I,J⟩:=F.out;refine⟨by simp,.inl ⟨_,_,rfl,kM ab, ?_⟩⟩;refine⟨.tuple #[.string ⟨#[]⟩,.bool false], ?_, ?_,L⟩
  ·simp[results,Tryz.f207,go_sem,I,J]
  ·rw[S.out,r.out];rfl
 case stop=>
  rintro D pre W hD O⟨v,hv,Y,al,B,q5⟩d;have F:=ad (xJ (D:=D) Y (by omega) (by omega) B q5);have HK:=ad d;have Hv:=ad (nK O hv);clear hv d Y
  gi_wp2
  obtain⟨L,I,J⟩:=F.out;refine⟨by simp,.inl ⟨_,_,rfl,kM HK.out, ?_⟩⟩;refine⟨.tuple #[.string ⟨v.toArray⟩,.bool true], ?_, ?_,L⟩
  ·simp[results,Tryz.f207,go_sem,I,J]
  ·rw[S.out,Hv.out];rfl
end Go.Proofs.YtogchgjfialleaaGreatDoor
namespace Go.Proofs.YtogchgjfialleaaGreatDoor
open Go.RowKit Go.Shelf
attribute[local go_sem] Oper.semAt_some
theorem GZ{key:ByteArray}{l:Bs}(h:(upto 61 l==key.toList)=false):uh key.data.toList l=none:=by rw[oE] at h;unfold uh;rw[h];rfl
theorem G0{key:ByteArray}{l:Bs}(h:(upto 61 l==key.toList)=true):uh key.data.toList l=some (past 61 l):=by rw[oE] at h;unfold uh;rw[h];rfl
theorem G1(h t key:ByteArray)(a:Option Addr)(n c:Nat)(fs:List dQ)(w:World)(J:Good w)(Y:t.size≤100000):
 Calls Tryz.prog 209 #[.agg #[.string h,.string t,.slice a n c],.string key] w
  (cN w (.tuple #[.string ⟨((kZ t.data.toList key.data.toList).getD []).toArray⟩,.bool (kZ t.data.toList key.data.toList).isSome])):=by
 have am:(past 63 t.data.toList).length≤100000:=bP (ij 63 _) (by rw[bj];exact Y);have Q:=ad (show kZ t.data.toList key.data.toList=(pieces 38 (past 63 t.data.toList)).findSome? (uh key.data.toList) from rfl);have R:=ad (xI w (.cells #[.string h,.string t,.slice a n c] 47) (.cells #[.string key] 9) (.cells #[.string ⟨#[]⟩] 9) (.cells #[.bool false] 4));have an:=J.lt;obtain⟨N,_⟩:∃N:Nat,True:=⟨0,trivial⟩;refine(callsIn_wide (n:=N)).1 ?_;refine callsIn_of_wp_marks Tryz.func209 rfl trivial ?_ rfl;simp only[Tryz.ntmps209,oC,bF,lH,Nat.reduceAdd,Nat.reduceSub,Array.replicate_succ,Array.replicate_zero,List.push_toArray,List.append_toArray,kK,di]
 gi_wp2_with fail
 generalize(((w.alloc (.cells #[.string h,.string t,.slice a n c] 47)).alloc (.cells #[.string key] 9)).alloc (.cells #[.string ⟨#[]⟩] 9)).alloc (.cells #[.bool false] 4)=W0 at*;have m:=R.out;clear R;have r:=m.below;have av:=m.size;refine ff ((xK h t a n c _ (J.next r) Y).mono ?_);rintro e j⟨rfl,i⟩;have ab:Good j:=(J.next r).next i
 have I:=r.trans (i.mono r.size);have M:=(i.block _ (by omega)).trans m.b2;have u:=(i.block _ (by omega)).trans m.b3;have y:=(i.block _ (by omega)).trans m.b4;have ap:=i.size;clear i m r;generalize past 63 t.data.toList=all at*
 gi_wp2_with fail
 refine ff ((kC all 38 j).mono ?_);rintro e A⟨rfl,hit,aq,o⟩;have ac:Good A:=ab.next o;have X:=I.trans (o.mono I.size);replace M:=(o.block _ (by omega)).trans M;replace u:=(o.block _ (by omega)).trans u;replace y:=(o.block _ (by omega)).trans y;clear o I
 gi_wp2_with fail
 have ao:w.heap.size+1+1+1+1≤j.heap.size:=by omega
 refine range_split 38 all j.heap.size (j.heap.size+1) (j.heap.size+1+1) (by omega) (by omega) (by omega) rfl rfl hit ac (by omega)
  (fun k=>k=w.heap.size+1+1∨k=w.heap.size+1+1+1) (by rintro k(rfl|rfl)<;>omega)
  (Lk A j.heap.size (uh key.data.toList)) (Ve w A (w.heap.size+1+1) (w.heap.size+1+1+1) (uh key.data.toList))
  (rB A _ _) (ug w A _ _ _ _ (by omega) (by omega) (by omega) (by omega) (by omega) (by omega)) ⟨rfl,iN.refl _ _ _⟩ ?a1 ?assign ?body ?done ?stop
 case assign=>
  intro l x W K d
  gi_wp2
  exact d
 case body=>
  rintro l pre x W⟨s,b⟩af L;have ay:x.length≤all.length:=iO 38 all.length all (ag _) x (L.subset (by simp));have ai:=b.size;obtain⟨S,_⟩:=bR ((b.block _ (by omega) (by omega)).trans M);have B:=ad s;clear s
  gi_wp2_with fail
  refine dD ((fI ⟨x.toArray⟩ 61 _ af (GV _ _ (by omega))).mono ?_);rintro e w4⟨rfl,q⟩;have T:(⟨x.toArray⟩:ByteArray).data.toList=x:=rfl;rw[T];clear T;have al:w4.cell? ⟨w.heap.size+1,0,none⟩=some (.string key):=(q.cell (p:=⟨w.heap.size+1,0,none⟩) (by show w.heap.size+1<_;omega)).trans S;have O:=(q.block (w.heap.size+1+1) (by omega)).trans ((b.block _ (by omega) (by omega)).trans u);have z:=(q.block (w.heap.size+1+1+1) (by omega)).trans ((b.block _ (by omega) (by omega)).trans y);obtain⟨c3,f3⟩:=bR O;obtain⟨c4,f4⟩:=bR z;have Q3:=ad O;have Q4:=ad z;clear S O z;rcases hq:(upto 61 x==key.toList) with _|_
  ·have E:=ad (GZ hq)
   gi_wp2
   exact sH b q B.out E.out
  ·have E:=ad (G0 hq)
   gi_wp2
   exact GY X b q (by omega) (by omega) (by omega) (by omega) Q3.out Q4.out B.out E.out
 case done=>
  rintro D W hD⟨s,b⟩d;obtain⟨c3,f3⟩:=bR ((b.block _ (by omega) (by omega)).trans u);obtain⟨c4,f4⟩:=bR ((b.block _ (by omega) (by omega)).trans y);have C:=ad (Cb (b.below X (by omega) (by omega)) (by omega) (by omega) (by omega) (by omega) (by omega) ((b.block _ (by omega) (by omega)).trans u) ((b.block _ (by omega) (by omega)).trans y) d ⟨#[]⟩ false);have B:=ad s;clear s d b
  gi_wp2
  obtain⟨H,aa,F,G⟩:=C.out;refine⟨by simp,.inl ⟨_,_,rfl,kM aa, ?_⟩⟩;refine⟨.tuple #[.string ⟨#[]⟩,.bool false], ?_, ?_,H⟩
  ·simp[results,Tryz.f209,go_sem,F,G]
  ·rw[Q.out,B.out];rfl
 case stop=>
  rintro D pre W hD L⟨v,Z,V,ai,z,q5⟩d;have C:=ad (xJ (D:=D) V (by omega) (by omega) z q5);have HK:=ad d;have Hv:=ad (nK L Z);clear Z d V
  gi_wp2
  obtain⟨H,F,G⟩:=C.out;refine⟨by simp,.inl ⟨_,_,rfl,kM HK.out, ?_⟩⟩;refine⟨.tuple #[.string ⟨v.toArray⟩,.bool true], ?_, ?_,H⟩
  ·simp[results,Tryz.f209,go_sem,F,G]
  ·rw[Q.out,Hv.out];rfl
end Go.Proofs.YtogchgjfialleaaGreatDoor
namespace Go.Proofs.YtogchgjfialleaaGreatDoor
open Go.RowKit Go.Shelf
attribute[local go_sem] Oper.semAt_some
def MJ(key x:Bs):Option Bs:=if zB key x then some [116,114,117,101] else none
theorem any_none{key:Bs}:∀{l:List Bs},l.findSome? (MJ key)=none→l.any (zB key)=false
 |[],_=>rfl
 |x::l,h=>by
  rw[List.findSome?_cons] at h;unfold MJ at h;cases a:zB key x
  ·rw[a] at h;rw[rZ,a];exact any_none (l:=l) h
  ·rw[a] at h;cases h
theorem any_some{key v:Bs}:∀{l:List Bs},l.findSome? (MJ key)=some v→l.any (zB key)=true∧v=[116,114,117,101]
 |[],h=>by cases h
 |x::l,h=>by
  rw[List.findSome?_cons] at h;unfold MJ at h;cases a:zB key x
  ·rw[a] at h;rw[rZ,a];exact any_some (l:=l) h
  ·rw[a] at h;rw[rZ,a];exact⟨rfl,by simpa using h.symm⟩
theorem RS{key l:Bs}(h:same (trim (upto 59 l)) key=false):MJ key l=none:=by unfold MJ zB;rw[h];rfl
theorem RT{key l:Bs}(h:(pieces 59 l).tail.any zero=true):MJ key l=none:=by unfold MJ zB;rw[h,Bool.not_true,CU];rfl
theorem RU{key l:Bs}(h:same (trim (upto 59 l)) key=true)(a:(pieces 59 l).tail.any zero=false):MJ key l=some [116,114,117,101]:=by unfold MJ zB;rw[h,a];rfl
theorem zC(h t key:ByteArray)(a:Option Addr)(n c:Nat)(fs:List dQ)(w:World)(hg:Good w)(hF:aZ w (.slice a n c) fs)(ap:rX fs)(a4:key.size≤100000):
 Calls Tryz.prog 210 #[.agg #[.string h,.string t,.slice a n c],.string key] w
  (cN w (.tuple #[.string ⟨(vk (mS fs key.data.toList)).toArray⟩,.bool (mS fs key.data.toList)])):=by
 have a3:=Ed ap ed;have HG:=ad (show mS fs key.data.toList=(pieces 44 (jz fs ed).1).any (zB key.data.toList) from rfl);have HW:=ad (xI w (.cells #[.string h,.string t,.slice a n c] 47) (.cells #[.string key] 9) (.cells #[.string ⟨#[]⟩] 9) (.cells #[.bool false] 4));have a5:=hg.lt;obtain⟨N,_⟩:∃N:Nat,True:=⟨0,trivial⟩;refine(callsIn_wide (n:=N)).1 ?_;refine callsIn_of_wp_marks Tryz.func210 rfl trivial ?_ rfl;simp only[Tryz.ntmps210,oC,bF,lH,Nat.reduceAdd,Nat.reduceSub,Array.replicate_succ,Array.replicate_zero,List.push_toArray,List.append_toArray,kK,di]
 gi_wp2_with fail
 generalize(((w.alloc (.cells #[.string h,.string t,.slice a n c] 47)).alloc (.cells #[.string key] 9)).alloc (.cells #[.string ⟨#[]⟩] 9)).alloc (.cells #[.bool false] 4)=W0 at*;have A:=HW.out;clear HW;have G:=A.below;have a9:=A.size;refine ff ((rA fs _ ⟨#[97,99,99,101,112,116,45,108,97,110,103,117,97,103,101]⟩ _ (hF.below G) ap (by decide)).mono ?_);rintro e y⟨rfl,o⟩;have aq:(⟨#[97,99,99,101,112,116,45,108,97,110,103,117,97,103,101]⟩:ByteArray).data.toList=ed:=rfl;rw[aq];clear aq;have aN:Good y:=(hg.next G).next o
 have Z:=G.trans (o.mono G.size);have k2:=(o.block _ (by omega)).trans A.b2;have s:=(o.block _ (by omega)).trans A.b3;have u:=(o.block _ (by omega)).trans A.b4;have a7:=o.size;clear o A G;generalize(jz fs ed).1=all at*
 gi_wp2_with fail
 refine ff ((kC all 44 y).mono ?_);rintro e J⟨rfl,hit,a8,B⟩;have aU:Good J:=aN.next B;have am:=Z.trans (B.mono Z.size);replace k2:=(B.block _ (by omega)).trans k2;replace s:=(B.block _ (by omega)).trans s;replace u:=(B.block _ (by omega)).trans u;clear B Z
 gi_wp2_with fail
 have a6:w.heap.size+1+1+1+1≤y.heap.size:=by omega
 refine range_split 44 all y.heap.size (y.heap.size+1) (y.heap.size+1+1) (by omega) (by omega) (by omega) rfl rfl hit aU (by omega)
  (fun k=>k=w.heap.size+1+1∨k=w.heap.size+1+1+1) (by rintro k(rfl|rfl)<;>omega)
  (Lk J y.heap.size (MJ key.data.toList)) (Ve w J (w.heap.size+1+1) (w.heap.size+1+1+1) (MJ key.data.toList))
  (rB J _ _) (ug w J _ _ _ _ (by omega) (by omega) (by omega) (by omega) (by omega) (by omega)) ⟨rfl,iN.refl _ _ _⟩ ?a1 ?assign ?body ?done ?stop
 case assign=>
  intro l x W K m
  gi_wp2
  exact m
 case body=>
  rintro l pre x W⟨H,d⟩ao ab;have be:x.length≤all.length:=iO 44 all.length all (ag _) x (ab.subset (by simp));have bd:=oZ 59 x;have bb:=sJ (upto 59 x);have a2:=d.size;obtain⟨c2,_⟩:=bR ((d.block _ (by omega) (by omega)).trans k2);have ai:w.heap.size+1<W.heap.size:=by omega
  have C:=ad H;clear H;have ac:(⟨(trim (upto 59 x)).toArray⟩:ByteArray).size≤140737488351232:=Ty _ _ (by omega);have af:(⟨(upto 59 x).toArray⟩:ByteArray).size≤9223372036854775807:=Ty _ _ (by omega);have aa:key.size≤140737488351232:=by omega
  have av:(⟨x.toArray⟩:ByteArray).size≤100002000:=Ty _ _ (by omega)
  gi_wp2_with fail
  refine dD ((fI ⟨x.toArray⟩ 59 _ ao (GV _ _ (by omega))).mono ?_);rintro e L⟨rfl,q⟩;have b:(⟨x.toArray⟩:ByteArray).data.toList=x:=rfl;rw[b];clear b;have a0:=ao.next q;have an:=a0.next (Below.drew (ar _ _));have M:L.cell? ⟨w.heap.size+1,0,none⟩=some (.string key):=(q.cell (p:=⟨w.heap.size+1,0,none⟩) ai).trans c2;have X:w.heap.size+1<L.heap.size:=ej ai q.size;have q3:=(q.block (w.heap.size+1+1) (by omega)).trans ((d.block _ (by omega) (by omega)).trans s);have Q:=(q.block (w.heap.size+1+1+1) (by omega)).trans ((d.block _ (by omega) (by omega)).trans u);have Q3:=ad q3;have Q4:=ad Q;have z:=ad q;clear c2 q3 Q q
  gi_wp2_with fail
  rcases I:same (trim (upto 59 x)) key.data.toList with _|_
  ·have E:=ad (RS I)
   gi_region_with (first
    |(refine dD ((mR ⟨(upto 59 x).toArray⟩ _ af).mono ?_);rintro e w4⟨rfl,i⟩;have b:(⟨(upto 59 x).toArray⟩:ByteArray).data.toList=upto 59 x:=rfl;rw[b];clear b;have S:=(eR i).1 _ _ (by show w.heap.size+1<L.drew.heap.size;exact X)|>.trans M)
    |(refine dD ((qg ⟨(trim (upto 59 x)).toArray⟩ key _ ac aa).mono ?_);rintro e w5⟨rfl,j⟩;have b:(⟨(trim (upto 59 x)).toArray⟩:ByteArray).data.toList=trim (upto 59 x):=rfl;rw[b,I];clear b)
    |(refine⟨trivial, ?_⟩))
   all_goals
    have F:Below W.heap.size W w5:=z.out.trans ((kt (i.trans (j.mono i.size))).mono z.out.size)
    gi_wp2
    exact sH d F C.out E.out
  ·rcases O:(pieces 59 x).tail.any zero with _|_
   ·have E:=ad (RU I O)
    gi_region_with (first
     |(refine dD ((mR ⟨(upto 59 x).toArray⟩ _ af).mono ?_);rintro e w4⟨rfl,i⟩;have b:(⟨(upto 59 x).toArray⟩:ByteArray).data.toList=upto 59 x:=rfl;rw[b];clear b;have S:=(eR i).1 _ _ (by show w.heap.size+1<L.drew.heap.size;exact X)|>.trans M)
     |(refine dD ((qg ⟨(trim (upto 59 x)).toArray⟩ key _ ac aa).mono ?_);rintro e w5⟨rfl,j⟩;have b:(⟨(trim (upto 59 x)).toArray⟩:ByteArray).data.toList=trim (upto 59 x):=rfl;rw[b,I];clear b)
     |(refine dD ((vl ⟨x.toArray⟩ _ ((an.next i).next j) av).mono ?_);rintro e w6⟨rfl,F⟩;have b:(⟨x.toArray⟩:ByteArray).data.toList=x:=rfl;rw[b,O];clear b)
     |(refine⟨trivial, ?_⟩))
    all_goals
     have r:Below W.heap.size W w6:=z.out.trans ((kt ((i.trans (j.mono i.size)).trans (F.mono (bP i.size j.size)))).mono z.out.size);obtain⟨d3,f3⟩:=bR ((r.block (w.heap.size+1+1) (by omega)).trans ((d.block _ (by omega) (by omega)).trans s));obtain⟨d4,f4⟩:=bR ((r.block (w.heap.size+1+1+1) (by omega)).trans ((d.block _ (by omega) (by omega)).trans u))
     gi_wp2
     exact GY am d r (by omega) (by omega) (by omega) (by omega) ((r.block (w.heap.size+1+1) (by omega)).trans ((d.block _ (by omega) (by omega)).trans s)) ((r.block (w.heap.size+1+1+1) (by omega)).trans ((d.block _ (by omega) (by omega)).trans u)) C.out E.out
   ·have E:=ad (RT (key:=key.data.toList) O)
    gi_region_with (first
     |(refine dD ((mR ⟨(upto 59 x).toArray⟩ _ af).mono ?_);rintro e w4⟨rfl,i⟩;have b:(⟨(upto 59 x).toArray⟩:ByteArray).data.toList=upto 59 x:=rfl;rw[b];clear b;have S:=(eR i).1 _ _ (by show w.heap.size+1<L.drew.heap.size;exact X)|>.trans M)
     |(refine dD ((qg ⟨(trim (upto 59 x)).toArray⟩ key _ ac aa).mono ?_);rintro e w5⟨rfl,j⟩;have b:(⟨(trim (upto 59 x)).toArray⟩:ByteArray).data.toList=trim (upto 59 x):=rfl;rw[b,I];clear b)
     |(refine dD ((vl ⟨x.toArray⟩ _ ((an.next i).next j) av).mono ?_);rintro e w6⟨rfl,F⟩;have b:(⟨x.toArray⟩:ByteArray).data.toList=x:=rfl;rw[b,O];clear b)
     |(refine⟨trivial, ?_⟩))
    all_goals
     have r:Below W.heap.size W w6:=z.out.trans ((kt ((i.trans (j.mono i.size)).trans (F.mono (bP i.size j.size)))).mono z.out.size)
     gi_wp2
     exact sH d r C.out E.out
 case done=>
  rintro D W hD⟨H,d⟩m;obtain⟨M,f3⟩:=bR ((d.block _ (by omega) (by omega)).trans s);obtain⟨S,f4⟩:=bR ((d.block _ (by omega) (by omega)).trans u);have R:=ad (Cb (d.below am (by omega) (by omega)) (by omega) (by omega) (by omega) (by omega) (by omega) ((d.block _ (by omega) (by omega)).trans s) ((d.block _ (by omega) (by omega)).trans u) m ⟨#[]⟩ false);have C:=ad H;clear H m d
  gi_wp2
  obtain⟨Y,ay,T,V⟩:=R.out;refine⟨by simp,.inl ⟨_,_,rfl,kM ay, ?_⟩⟩;refine⟨.tuple #[.string ⟨#[]⟩,.bool false], ?_, ?_,Y⟩
  ·simp[results,Tryz.f210,go_sem,T,V]
  ·rw[HG.out,any_none C.out];rfl
 case stop=>
  rintro D pre W hD ab⟨v,hv,al,a2,Q,q5⟩m;have R:=ad (xJ (D:=D) al (by omega) (by omega) Q q5);have HK:=ad m;have Hv:=ad (nK ab hv);clear hv m al
  gi_wp2
  obtain⟨Y,T,V⟩:=R.out;refine⟨by simp,.inl ⟨_,_,rfl,kM HK.out, ?_⟩⟩;refine⟨.tuple #[.string ⟨v.toArray⟩,.bool true], ?_, ?_,Y⟩
  ·simp[results,Tryz.f210,go_sem,T,V]
  ·obtain⟨h1,rfl⟩:=any_some Hv.out;rw[HG.out,h1];rfl
end Go.Proofs.YtogchgjfialleaaGreatDoor
namespace Go.Proofs.YtogchgjfialleaaGreatDoor
open Go.RowKit
theorem MA(f:FuncId)(m:∀(vs:Array Value) (w:World),(callFunc f vs).run Tryz.prog w=.ok (.enter f vs) w)(h t key:ByteArray)(a:Option Addr)(n c d b:Nat)(w:World)(j:w.cell? ⟨d,2,none⟩=some (.func (.func f) #[] #[]))(l:w.cell? ⟨b,0,none⟩=some (.string key))(v:Bs×Bool)
 (k:Calls Tryz.prog f #[.agg #[.string h,.string t,.slice a n c],.string key] (w.alloc (.cells #[.string h,.string t,.slice a n c] 47)) (cN (w.alloc (.cells #[.string h,.string t,.slice a n c] 47)) (.tuple #[.string ⟨v.1.toArray⟩,.bool v.2]))):
 Calls Tryz.prog 227 #[.agg #[.string h,.string t,.slice a n c],.pointer (some ⟨d,0,none⟩),.pointer (some ⟨b,0,none⟩)] w (cN w (.tuple #[.string ⟨v.1.toArray⟩,.bool v.2])):=by
 have p:=aV j;have o:=aV l;go_enter Tryz.func227,Tryz.ntmps227;go_wp2_with fail;refine k.mono ?_;rintro e q⟨rfl,i⟩;go_wp2;go_ret2;exact⟨rfl,eG i⟩
theorem WW(has:Bool)(h t name key:ByteArray)(a:Option Addr)(n c:Nat)(w:World)(k:cD name.data.toList=false):
 Calls Tryz.prog 181 #[.agg #[.string h,.string t,.slice a n c],.string name,.string key,.bool has] w (cN w (.tuple #[.string ⟨#[]⟩,.bool false])):=by
 have l:=ad k;clear k;have i:Below w.heap.size w ((w.alloc (.cells #[.string h,.string t,.slice a n c] 47)).alloc (.cells #[.string key] 9)):=((ar _ _).alloc (ag _) _).alloc (by simp) _;have d:=ad i;clear i;go_enter Tryz.func181,Tryz.ntmps181;go_wp2_with fail;refine(bO _).mono ?_;rintro e u⟨b,q,r,s,rfl,m,o⟩;have j:=d.out.trans (o.mono d.out.size);have p:=JJ m l.out;cases has<;>(go_wp2;go_ret2;exact⟨rfl,j.alloc j.size _⟩)
theorem CQ(h t key:ByteArray)(s:Value)(w:World){W:World}(b:W=(w.alloc (.cells #[.string h,.string t,s] 47)).alloc (.cells #[.string key] 9)):
 Below w.heap.size w W∧W.cell? ⟨w.heap.size,0,none⟩=some (.string h)∧W.cell? ⟨w.heap.size,1,none⟩=some (.string t)∧W.cell? ⟨w.heap.size,2,none⟩=some s∧W.cell? ⟨w.heap.size+1,0,none⟩=some (.string key):=by
 subst b;have a:=bH (w.alloc (.cells #[.string h,.string t,s] 47)) #[.string key] 9 0 _ rfl;rw[aO] at a;exact⟨((ar _ _).alloc (ag _) _).alloc (by simp) _,(((ar _ _).alloc (ag _) _).cell (p:=⟨w.heap.size,0,none⟩) (by show w.heap.size<_;simp)).trans (bH w _ _ 0 _ rfl),(((ar _ _).alloc (ag _) _).cell (p:=⟨w.heap.size,1,none⟩) (by show w.heap.size<_;simp)).trans (bH w _ _ 1 _ rfl),(((ar _ _).alloc (ag _) _).cell (p:=⟨w.heap.size,2,none⟩) (by show w.heap.size<_;simp)).trans (bH w _ _ 2 _ rfl),a⟩
theorem MC{nm:ByteArray}(h t key:ByteArray)(a:Option Addr)(n c:Nat)(w:World)(v:Bs×Bool)(A:v.2=false→v.1=[])
 (o:∀(W:World) (b C D E:Nat),Below w.heap.size w W→dr W b C D E→∃(src:ByteArray) (f r:FuncId) (cap:List Value),(cap=[]∨∃p,cap=[.pointer (some p)])∧(Instr.lookup 225 (.map (some b)) (.string nm) true).run Tryz.prog W=.ok (.tuple #[.agg #[.string src,.func (.func f) #[] cap.toArray,.func (.func r) #[] #[]],.bool true]) W∧(∀(vs:Array Value) (w:World),(callFunc f vs).run Tryz.prog w=.ok (.enter f vs) w)∧∀W',Below W.heap.size W W'→Calls Tryz.prog f (.agg #[.string h,.string t,.slice a n c]::cap).toArray W' (cN W' (.tuple #[.string ⟨v.1.toArray⟩,.bool v.2]))):
 Calls Tryz.prog 181 #[.agg #[.string h,.string t,.slice a n c],.string nm,.string key,.bool false] w (cN w (.tuple #[.string ⟨v.1.toArray⟩,.bool v.2])):=by
 have G:=ad A;have q:=ad o;clear A o;have m:=ad (CQ h t key (.slice a n c) w rfl);go_enter Tryz.func181,Tryz.ntmps181;go_wp2_with fail;refine(bO _).mono ?_;rintro e T⟨b,C,D,E,rfl,s,d⟩;obtain⟨k,i,d1,d2,j⟩:=m.out;have I:=((eR d).1 _ 0 (aV i)).trans i;have M:=((eR d).1 _ 1 (aV d1)).trans d1;have N:=((eR d).1 _ 2 (aV d2)).trans d2;have J:=((eR d).1 _ 0 (aV j)).trans j;have R:=aV I;have S:=aV J;have l:=k.trans (d.mono k.size);clear d k i d1 d2 j m;obtain⟨src,f,r,cap,L,Q,O,z⟩:=q.out _ _ _ _ _ l s;have F:=ad z;clear z q s;rcases L with rfl|⟨p,rfl⟩;all_goals
  go_wp2_with fail;refine(F.out _ ((ar _ _).alloc (ag _) _)).mono ?_;rintro e V⟨rfl,K⟩;have u:=l.trans ((eG K).mono l.size);obtain⟨x,y⟩:=v;rcases y with _|_
  ·have B:x=[]:=G.out rfl;have H:=ad B;clear B;go_wp2;go_ret2;rw[H.out];exact⟨rfl,u⟩
  ·go_wp2;go_ret2;exact⟨rfl,u⟩
theorem MD{nm:ByteArray}(h t key:ByteArray)(a:Option Addr)(n c:Nat)(w:World)(v:Bs×Bool)(O:v.2=false→v.1=[])(ab:key.size≤140737488351232)(Q:fJ key.data.toList=true)
 (G:∀(W:World) (b S T V:Nat),Below w.heap.size w W→dr W b S T V→∃(src:ByteArray) (K:FuncId) (cap:Array Value) (d:FuncId),(Instr.lookup 225 (.map (some b)) (.string nm) true).run Tryz.prog W=.ok (.tuple #[.agg #[.string src,.func (.func K) #[] cap,.func (.func d) #[] #[]],.bool true]) W∧(∀(vs:Array Value) (w:World),(callFunc d vs).run Tryz.prog w=.ok (.enter d vs) w)∧∀W',Below w.heap.size w W'→Calls Tryz.prog d #[.agg #[.string h,.string t,.slice a n c],.string key] W' (cN W' (.tuple #[.string ⟨v.1.toArray⟩,.bool v.2]))):
 Calls Tryz.prog 181 #[.agg #[.string h,.string t,.slice a n c],.string nm,.string key,.bool true] w (cN w (.tuple #[.string ⟨v.1.toArray⟩,.bool v.2])):=by
 have Y:=ad O;have Z:=ad Q;have H:=ad G;clear O Q G;have D:=ad (CQ h t key (.slice a n c) w rfl);go_enter Tryz.func181,Tryz.ntmps181;go_wp2_with fail;refine(bO _).mono ?_;rintro e p⟨b,S,T,V,rfl,L,i⟩;obtain⟨z,r,d1,d2,s⟩:=D.out;have u:=((eR i).1 _ 0 (aV r)).trans r;have I:=((eR i).1 _ 1 (aV d1)).trans d1;have J:=((eR i).1 _ 2 (aV d2)).trans d2;have l:=((eR i).1 _ 0 (aV s)).trans s;have C:=aV u;have l3:=aV l;have B:=z.trans (i.mono z.size);clear i z r d1 d2 s D;obtain⟨src,K,cap,d,hl,N,k⟩:=H.out _ _ _ _ _ B L;have F:=ad N;have E:=ad k;clear k H L N;go_wp2_with fail;refine(yv key _ ab).mono ?_;rintro e w2⟨rfl,A⟩;rw[Z.out];have q:=fun o=>(eR A).1 p.heap.size o (by simp);have r1:=(q 1).trans (bH p _ _ 1 _ rfl);have r2:=(q 2).trans (bH p _ _ 2 _ rfl);have j:=eG A;replace u:=((eR j).1 _ 0 C).trans u;replace I:=((eR j).1 _ 1 C).trans I;replace J:=((eR j).1 _ 2 C).trans J;replace l:=((eR j).1 _ 0 l3).trans l;have m:=B.trans (j.mono B.size);have k:=E.out _ (m.alloc m.size (.cells #[.string h,.string t,.slice a n c] 47));have X:=ad (MA d F.out h t key a n c p.heap.size (w.heap.size+1) w2 r2 l v k);clear q A j k E F;go_wp2_with fail;refine X.out.mono ?_;rintro e w3⟨rfl,aa⟩;have M:=m.trans (aa.mono m.size);obtain⟨x,y⟩:=v;rcases y with _|_
 ·have R:x=[]:=Y.out rfl;have HX:=ad R;clear R;go_wp2;go_ret2;rw[HX.out];exact⟨rfl,M⟩
 ·go_wp2;go_ret2;exact⟨rfl,M⟩
theorem MF{nm:ByteArray}(h t key:ByteArray)(a:Option Addr)(n c:Nat)(w:World)(M:key.size≤140737488351232)(G:fJ key.data.toList=false)
 (z:∀(W:World) (b H I J:Nat),Below w.heap.size w W→dr W b H I J→∃(src:ByteArray) (E:FuncId) (cap:Array Value) (D:FuncId),(Instr.lookup 225 (.map (some b)) (.string nm) true).run Tryz.prog W=.ok (.tuple #[.agg #[.string src,.func (.func E) #[] cap,.func (.func D) #[] #[]],.bool true]) W):
 Calls Tryz.prog 181 #[.agg #[.string h,.string t,.slice a n c],.string nm,.string key,.bool true] w (cN w (.tuple #[.string ⟨#[]⟩,.bool false])):=by
 have K:=ad G;have A:=ad z;clear G z;have y:=ad (CQ h t key (.slice a n c) w rfl);go_enter Tryz.func181,Tryz.ntmps181;go_wp2_with fail;refine(bO _).mono ?_;rintro e x⟨b,H,I,J,rfl,F,d⟩;obtain⟨p,j,d1,d2,k⟩:=y.out;have l:=((eR d).1 _ 0 (aV j)).trans j;have B:=((eR d).1 _ 1 (aV d1)).trans d1;have C:=((eR d).1 _ 2 (aV d2)).trans d2;have m:=((eR d).1 _ 0 (aV k)).trans k;have u:=aV l;have N:=aV m;have s:=p.trans (d.mono p.size);clear d p j d1 d2 k y;obtain⟨src,E,cap,D,O⟩:=A.out _ _ _ _ _ s F;clear A F;go_wp2_with fail;refine(yv key _ M).mono ?_;rintro e S⟨rfl,r⟩;rw[K.out];have q:=fun o=>(eR r).1 x.heap.size o (by simp);have Q:=(q 1).trans (bH x _ _ 1 _ rfl);have R:=(q 2).trans (bH x _ _ 2 _ rfl);have i:=eG r;replace l:=((eR i).1 _ 0 u).trans l;replace B:=((eR i).1 _ 1 u).trans B;replace C:=((eR i).1 _ 2 u).trans C;replace m:=((eR i).1 _ 0 N).trans m;have L:=s.trans (i.mono s.size);clear q r i;go_wp2;go_ret2;exact⟨rfl,L⟩
theorem CR(fs:List dQ)(name:Bs)(h:(jz fs name).2=false):(jz fs name).1=[]:=by
 have a:values fs name=[]:=by have:¬0<(values fs name).length:=tF h;exact jn (by omega)
 unfold jz;rw[a];rfl
theorem F2(fs:List dQ)(h:(fe fs).2=false):(fe fs).1=[]:=by
 have a:values fs bA=[]:=by have:¬0<(values fs bA).length:=tF h;exact jn (by omega)
 unfold fe;rw[a];rfl
theorem CS(x:Option Bs)(h:(pd x).2=false):(pd x).1=[]:=by cases x with|none=>rfl|some v=>cases h
theorem QI(x:Bool)(h:x=false):vk x=[]:=by subst h;rfl
theorem Tg(s:Bs)(h:(Em s).2=false):(Em s).1=[]:=by have b:¬0<lead vd (s.drop (kq s)):=tF h;have a:(s.drop (kq s)).takeWhile vd=(s.drop (kq s)).take (lead vd (s.drop (kq s))):=(cU vd _).symm;unfold Em;show(s.drop (kq s)).takeWhile vd=[];rw[a,show lead vd (s.drop (kq s))=0 by omega];rfl
theorem MG(s key:Bs)(h:(gX s key).2=false):(gX s key).1=[]:=by
 unfold gX at h⊢;cases a:(key==lg)
 ·rw[a] at h;cases b:(key==mU)
  ·rw[b] at h;cases c:(key==VE)
   ·rfl
   ·rw[c] at h;cases h
  ·rw[b] at h;exact Tg s h
 ·rw[a] at h;cases h
theorem Va(fs:List dQ)(key:Bs)(h:(Ls fs key).2=false):(Ls fs key).1=[]:=by
 unfold Ls at h⊢;cases a:(jz fs agentName).2
 ·rfl
 ·rw[a] at h;exact MG _ _ h
theorem Th{key:Bs}(h:fJ key=true):key≠[]:=by intro e;subst e;revert h;decide
theorem I9{t key:Bs}(h:fJ key=true):(bif t.contains 63 then kZ t key else none)=kZ t key:=by
 cases b:t.contains 63
 ·unfold kZ;rw[El 63 t b];have c:([]==key)=false:=by rw[aL];exact eo (Th h)
  show none=List.findSome? (uh key) (pieces 38 []);have:pieces 38 ([]:Bs)=[[]]:=rfl;rw[this];have:uh key []=none:=by unfold uh;have a:upto 61 ([]:Bs)=[]:=rfl;rw[a,c];rfl
  rw[List.findSome?_cons,this];rfl
 ·rfl
theorem QJ{h:Bs}(c:(!h.isEmpty)=false):h=[]:=by cases h with|nil=>rfl|cons a b=>cases c
theorem Ja(t:Bs):pd (rD t)=(past 63 t,hasB 63 t):=by
 unfold rD hasB;cases a:t.contains 63
 ·rw[El 63 t a];rfl
 ·rfl
theorem E3(h t name key:ByteArray)(a:Option Addr)(n c:Nat)(fs:List dQ)(has:Bool)(w:World)(s:Good w)(hF:aZ w (.slice a n c) fs)(r:rX fs)(u:t.size≤100000)(y:key.size≤100000):
 Calls Tryz.prog 181 #[.agg #[.string h,.string t,.slice a n c],.string name,.string key,.bool has] w
  (cN w (.tuple #[.string ⟨(dK h.data.toList t.data.toList fs name.data.toList key.data.toList has).1.toArray⟩,.bool (dK h.data.toList t.data.toList fs name.data.toList key.data.toList has).2])):=by
 have p:key.size≤140737488351232:=by omega
 rcases nJ name.data.toList with o|o|o|o|o|o|o
 ·obtain rfl:=dn o;rcases has with _|_
  ·exact MC h t key a n c w (h.data.toList, !h.data.toList.isEmpty) (fun x=>QJ x) (fun W b k l m i d=>⟨_,_,_,_,.inl rfl,wi d,fun vs w=>cP Tryz.func202 (by kernel_rfl) rfl vs w,fun W' j=>by have q:=i.trans (j.mono i.size);exact(by have:=Ln h t a n c W';exact this)⟩)
  ·rcases e:fJ key.data.toList with _|_
   ·rw[show dK h.data.toList t.data.toList fs (⟨kX.toArray⟩:ByteArray).data.toList key.data.toList true=([],false) by unfold dK;rw[e];rfl];exact MF h t key a n c w p e (fun W b k l m i d=>⟨_,_,_,_,wi d⟩)
   ·rw[show dK h.data.toList t.data.toList fs (⟨kX.toArray⟩:ByteArray).data.toList key.data.toList true=([],false) by unfold dK;rw[e];rfl];exact MD h t key a n c w ([],false) (fun _=>rfl) p e (fun W b k l m i d=>⟨_,_,_,_,wi d,fun vs w=>cP Tryz.func203 (by kernel_rfl) rfl vs w,fun W j=>zm h t key a n c W⟩)
 ·obtain rfl:=dn o;rcases has with _|_
  ·exact MC h t key a n c w (jz fs dP) (CR fs _) (fun W b k l m i d=>⟨_,_,_,_,.inr ⟨_,rfl⟩,wj d,fun vs w=>cP Tryz.func239 (by kernel_rfl) rfl vs w,fun W' j=>by have q:=i.trans (j.mono i.size);exact pO h t ⟨dP.toArray⟩ a n c k fs W' (hF.below q) r (by decide) (d.next j).c1⟩)
  ·rcases e:fJ key.data.toList with _|_
   ·rw[show dK h.data.toList t.data.toList fs (⟨dZ.toArray⟩:ByteArray).data.toList key.data.toList true=([],false) by unfold dK;rw[e];rfl];exact MF h t key a n c w p e (fun W b k l m i d=>⟨_,_,_,_,wj d⟩)
   ·rw[show dK h.data.toList t.data.toList fs (⟨dZ.toArray⟩:ByteArray).data.toList key.data.toList true=([],false) by unfold dK;rw[e];rfl];exact MD h t key a n c w ([],false) (fun _=>rfl) p e (fun W b k l m i d=>⟨_,_,_,_,wj d,fun vs w=>cP Tryz.func203 (by kernel_rfl) rfl vs w,fun W j=>zm h t key a n c W⟩)
 ·obtain rfl:=dn o;rcases has with _|_
  ·exact MC h t key a n c w (jz fs agentName) (CR fs _) (fun W b k l m i d=>⟨_,_,_,_,.inr ⟨_,rfl⟩,wk d,fun vs w=>cP Tryz.func239 (by kernel_rfl) rfl vs w,fun W' j=>by have q:=i.trans (j.mono i.size);exact pO h t ⟨agentName.toArray⟩ a n c l fs W' (hF.below q) r (by decide) (d.next j).c2⟩)
  ·rcases e:fJ key.data.toList with _|_
   ·rw[show dK h.data.toList t.data.toList fs (⟨iE.toArray⟩:ByteArray).data.toList key.data.toList true=([],false) by unfold dK;rw[e];rfl];exact MF h t key a n c w p e (fun W b k l m i d=>⟨_,_,_,_,wk d⟩)
   ·rw[show dK h.data.toList t.data.toList fs (⟨iE.toArray⟩:ByteArray).data.toList key.data.toList true=(Ls fs key.data.toList) by unfold dK;rw[e];rfl];exact MD h t key a n c w (Ls fs key.data.toList) (Va fs _) p e (fun W b k l m i d=>⟨_,_,_,_,wk d,fun vs w=>cP Tryz.func205 (by kernel_rfl) rfl vs w,fun W j=>I8 h t key a n c fs W (s.next j) (hF.below j) r⟩)
 ·obtain rfl:=dn o;rcases has with _|_
  ·exact MC h t key a n c w (fe fs) (F2 fs) (fun W b k l m i d=>⟨_,_,_,_,.inl rfl,wm d,fun vs w=>cP Tryz.func206 (by kernel_rfl) rfl vs w,fun W' j=>by have q:=i.trans (j.mono i.size);exact sI h t a n c fs W' (hF.below q) r⟩)
  ·rcases e:fJ key.data.toList with _|_
   ·rw[show dK h.data.toList t.data.toList fs (⟨eU.toArray⟩:ByteArray).data.toList key.data.toList true=([],false) by unfold dK;rw[e];rfl];exact MF h t key a n c w p e (fun W b k l m i d=>⟨_,_,_,_,wm d⟩)
   ·rw[show dK h.data.toList t.data.toList fs (⟨eU.toArray⟩:ByteArray).data.toList key.data.toList true=(pd (nL fs key.data.toList)) by unfold dK;rw[e];rfl];exact MD h t key a n c w (pd (nL fs key.data.toList)) (CS _) p e (fun W b k l m i d=>⟨_,_,_,_,wm d,fun vs w=>cP Tryz.func207 (by kernel_rfl) rfl vs w,fun W j=>Ee h t key a n c fs W (s.next j) (hF.below j) r⟩)
 ·obtain rfl:=dn o;rcases has with _|_
  ·exact MC h t key a n c w (pd (rD t.data.toList)) (CS _) (fun W b k l m i d=>⟨_,_,_,_,.inl rfl,wo d,fun vs w=>cP Tryz.func208 (by kernel_rfl) rfl vs w,fun W' j=>by have q:=i.trans (j.mono i.size);exact(by have:=xK h t a n c W' (s.next q) u;rw[show pd (rD t.data.toList)=(past 63 t.data.toList,hasB 63 t.data.toList) from Ja _];exact this)⟩)
  ·rcases e:fJ key.data.toList with _|_
   ·rw[show dK h.data.toList t.data.toList fs (⟨iF.toArray⟩:ByteArray).data.toList key.data.toList true=([],false) by unfold dK;rw[e];rfl];exact MF h t key a n c w p e (fun W b k l m i d=>⟨_,_,_,_,wo d⟩)
   ·rw[show dK h.data.toList t.data.toList fs (⟨iF.toArray⟩:ByteArray).data.toList key.data.toList true=(pd (kZ t.data.toList key.data.toList)) by unfold dK;rw[e];show pd (bif t.data.toList.contains 63 then kZ t.data.toList key.data.toList else none)=_;rw[I9 e]];exact MD h t key a n c w (pd (kZ t.data.toList key.data.toList)) (CS _) p e (fun W b k l m i d=>⟨_,_,_,_,wo d,fun vs w=>cP Tryz.func209 (by kernel_rfl) rfl vs w,fun W j=>G1 h t key a n c fs W (s.next j) u⟩)
 ·obtain rfl:=dn o;rcases has with _|_
  ·exact MC h t key a n c w (jz fs ed) (CR fs _) (fun W b k l m i d=>⟨_,_,_,_,.inr ⟨_,rfl⟩,wu d,fun vs w=>cP Tryz.func239 (by kernel_rfl) rfl vs w,fun W' j=>by have q:=i.trans (j.mono i.size);exact pO h t ⟨ed.toArray⟩ a n c m fs W' (hF.below q) r (by decide) (d.next j).c3⟩)
  ·rcases e:fJ key.data.toList with _|_
   ·rw[show dK h.data.toList t.data.toList fs (⟨kY.toArray⟩:ByteArray).data.toList key.data.toList true=([],false) by unfold dK;rw[e];rfl];exact MF h t key a n c w p e (fun W b k l m i d=>⟨_,_,_,_,wu d⟩)
   ·rw[show dK h.data.toList t.data.toList fs (⟨kY.toArray⟩:ByteArray).data.toList key.data.toList true=(vk (mS fs key.data.toList),mS fs key.data.toList) by unfold dK;rw[e];rfl];exact MD h t key a n c w (vk (mS fs key.data.toList),mS fs key.data.toList) (QI _) p e (fun W b k l m i d=>⟨_,_,_,_,wu d,fun vs w=>cP Tryz.func210 (by kernel_rfl) rfl vs w,fun W j=>zC h t key a n c fs W (s.next j) (hF.below j) r y⟩)
 ·rw[show dK h.data.toList t.data.toList fs name.data.toList key.data.toList has=([],false) from AO o];exact WW has h t name key a n c w o
