/- What an evaluation is made with, where few says yes. -/
import Derived.Test.YtlemddnecmmfgaaGreatDoorJbe
set_option linter.unusedVariables false
set_option maxRecDepth 100000
set_option maxHeartbeats 4000000
namespace Go.Proofs.YtlemddnecmmfgaaGreatDoor
open Go.RowKit
variable{D:Act}{T:Array Bool}{d:Nat}
def pf(L:List Oper):Nat→Nat→Nat→Bool
 |0,_,_=>false
 |f+1,j,i=>match L[j]? with
  |some o=>(o.after.toList.any fun e=>Region.binds .any e&&e.on==i)||(o.after.toList.any fun e=>Region.binds .any e&&pf L f e.on i)
  |none=>false
def AS(n:Nat)(L:List Oper):Bool:=((List.range L.length).drop n).all fun j=>(List.range j).all fun i=>pf L L.length j i
def XJ(L:List Oper)(listed:Array Bool):Prop:=∀(j:Nat) (o:Oper) (e:Edge),listed[j]? =some true→L[j]? =some o→e∈o.after.toList→Region.binds .any e=true→listed[e.on]? =some true
def mw(P:Program)(ops:Array Oper)(Q:Exit→Act→aaK→Prop):List Oper→Act→aaK→Prop
 |[],a,w=>Q .normal a w
 |o::l,a,w=>if Region.wanted o (yielded ops a.tmps)=true then Oper.wp P o a w (fun b w'=>mw P ops Q l b w') Q else mw P ops Q l (a.put o.dst undef) w
def xB(f:Nat→aaL):List Oper→Nat→Act→Act
 |[],_,a=>a
 |o::l,i,a=>xB f l (i+1) (a.put o.dst (f i))
theorem AT(f:Nat→aaL):∀(L:List Oper) (vs:List aaL) (i:Nat) (a:Act),vs.length=L.length→(∀j v,vs[j]? =some v→f (i+j)=v)→eB L vs a=xB f L i a
 |[],[],_,_,_,_=>by unfold eB xB;rfl
 |[],_::_,_,_,h,_=>by simp at h
 |_::_,[],_,_,h,_=>by simp at h
 |o::L,v::vs,i,a,h,c=>by unfold eB xB;have b:=c 0 v rfl;rw[qF] at b;rw[b];exact AT f L vs (i+1) _ (by simpa using h) fun j v' d=>by have:=c (j+1) v' (by simpa using d);rw[←this];congr 1;omega
section
variable{P:Program}{L:List Oper}{Φ:List oB}{a0:Act}{W:aaK}{Q:Exit→Act→aaK→Prop}{n:Nat}
theorem xQ{f j i:Nat}(h:pf L (f+1) j i=true):∃o,L[j]? =some o∧∃e∈o.after.toList,Region.binds .any e=true∧(e.on=i∨pf L f e.on i=true):=by
 unfold pf at h;cases c:L[j]? with
 |none=>rw[c] at h;cases h
 |some o=>
  rw[c] at h;refine⟨o,rfl, ?_⟩;rcases Bool.or_eq_true_iff.1 h with h|h
  ·obtain⟨e,b,a⟩:=lF.1 h;rw[cW,bZ] at a;exact⟨e,b,a.1,.inl a.2⟩
  ·obtain⟨e,b,a⟩:=lF.1 h;rw[cW] at a;exact⟨e,b,a.1,.inr a.2⟩
theorem sM{listed:Array Bool}(c:XJ L listed):∀(f j i:Nat),listed[j]? =some true→pf L f j i=true→listed[i]? =some true
 |0,_,_,_,h=>by unfold pf at h;cases h
 |f+1,j,i,l,h=>by
  obtain⟨o,m,e,k,d,a⟩:=xQ h;have b:=c j o e l m k d;rcases a with rfl|a
  ·exact b
  ·exact sM c f e.on i b a
theorem G7(a:AS n L=true){i j:Nat}(e:n≤j)(b:i<j)(d:j<L.length):pf L L.length j i=true:=by
 unfold AS at a;have c:j∈(List.range L.length).drop n:=by rw[zP];exact⟨j-n,by rw[qD,List.getElem?_range (by omega)];congr 1;omega⟩
 exact eV.1 (eV.1 a j c) i (List.mem_range.2 b)
theorem AU(h:T.getD d false=true):T[d]? =some true:=by
 rw[F5] at h;cases a:T[d]? with
 |none=>rw[a] at h;cases h
 |some b=>rw[a] at h;simp at h;rw[h]
theorem G8(s:XJ L T)(u:d∈Region.ready .any L.toArray T):XJ L (T.setIfInBounds d true):=by
 intro j o e h p c b;have q:∀k:Nat,T[k]? =some true→(T.setIfInBounds d true)[k]? =some true:=fun k m=>by
  by_cases n:k=d
  ·subst n;rw[Array.getElem?_setIfInBounds_self_of_lt (aB.1 m).1]
  ·rw[Km (eo n)];exact m
 by_cases l:j=d
 ·subst l;obtain⟨_,r,t,w⟩:=mem_ready.1 u;have:r=o:=by
   have a:L[j]? =some r:=by simpa using t
   rw[p] at a;exact(iS a).symm
  subst this;exact q _ (AU (w e (by simpa using c) b))
 ·rw[Km (eo l)] at h;exact q _ (s j o e h p c b)
theorem Ly(c:vo 0 L=true)(h:∀i,i<L.length→T[i]? =some (decide (i<d))):XJ L T:=by
 intro j o e a b m l;have n:=(cH.1 b).1;have p:=um c (i:=j) (o:=o) b e m l;rw[h j n] at a;have:j<d:=by simpa using a
 rw[h e.on (by omega),bN (by omega)]
theorem AW(d:vo 0 L=true)(m:T.size=L.length){k:Nat}(a:k<L.length)(b:T[k]? =some false)(c:∀i,i<k→T[i]? =some true):k∈Region.ready .any L.toArray T:=by
 refine mem_ready.2 ⟨?_,L[k],by simp[a],fun e j h=> ?_⟩
 ·rw[F5,b];rfl
 ·have l:=um d (i:=k) (o:=L[k]) (cA a) e (by simpa using j) h;rw[F5,c e.on (by omega)];rfl
theorem xR(x:AS n L=true)(l:XJ L T)(t:n≤d)(h:d∈Region.ready .any L.toArray T):∀i,i<d→T[i]? =some true:=by
 intro i r;obtain⟨_,o,j,y⟩:=mem_ready.1 h;have s:d<L.length:=by have:=(aB.1 j).1;simpa using this
 obtain⟨f,q⟩:∃f,L.length=f+1:=⟨L.length-1,by omega⟩;have c:=G7 x t r s;rw[q] at c;obtain⟨z,u,e,p,m,a⟩:=xQ c;have w:z=o:=by
  have:L[d]? =some o:=by simpa using j
  rw[u] at this;exact iS this
 subst w;have b:=AU (y e (by simpa using p) m);rcases a with rfl|a
 ·exact b
 ·exact sM l f e.on i b a
theorem xS(t:vo 0 L=true)(E:AS n L=true):∀(T:List Oper) (k b:Nat) (listed:Array Bool) (a:Act) (w:aaK),L.drop k=T→n≤k→k+T.length=L.length→listed.size=L.length→(∀i,i<L.length→listed[i]? =some (decide (i<k)))→T.length≤b→mw P L.toArray Q T a w→wpAny P .any L.toArray Q b listed a w
 |[],k,b,listed,a,w,s,M,p,y,d,u,h=>by
  have l:Region.ready .any L.toArray listed=[]:=by
   cases l:Region.ready .any L.toArray listed with
   |nil=>rfl
   |cons i r=>
    exfalso;obtain⟨m,o,N,_⟩:=mem_ready.1 (show i∈Region.ready .any L.toArray listed by rw[l];simp);have c:i<L.length:=by have:=(aB.1 N).1;simpa using this
    rw[F5,d i c] at m;simp only[lH,qF] at p;simp[show i<k by omega] at m
  unfold mw at h;cases b with
  |zero=>exact⟨l,h⟩
  |succ b=>exact⟨fun _=>h,fun i c=>(by rw[l] at c;cases c)⟩
 |o::T,k,b,listed,a,w,s,M,p,y,d,u,h=>by
  have x:k<L.length:=by simp only[bF] at p;omega
  obtain⟨b,rfl⟩:∃f,b=f+1:=⟨b-1,by simp only[bF] at u;omega⟩;have D:=AW t y x (by rw[d k x];simp) fun i c=>by rw[d i (by omega)];simp[c]
  have K:L[k]? =some o:=by have:=qD (xs:=L) (i:=k) (j:=0);rw[s] at this;simpa using this.symm
  refine⟨fun l=>(by rw[l] at D;cases D),fun i c=> ?_⟩;have I:i=k:=by
   obtain⟨m,S,O,_⟩:=mem_ready.1 c;have H:i<L.length:=by have:=(aB.1 O).1;simpa using this
   rw[F5,d i H] at m;have R:k≤i:=by simpa using m
   by_cases G:i=k
   ·exact G
   ·have z:=xR E (Ly t d) (by omega) c k (by omega);rw[d k x] at z;simp at z
  subst I;have B:∀e w',mw P L.toArray Q T e w'→wpAny P .any L.toArray Q b (listed.setIfInBounds i true) e w':=fun e w' q=>by
   refine xS t E T (i+1) b _ e w' ?_ (by omega) (by simp only[bF] at p;omega) (by simpa using y) (fun j J=> ?_) (by simp only[bF] at u;omega) q
   ·rw[←fh,s];rfl
   ·by_cases C:j=i
    ·subst C;rw[Array.getElem?_setIfInBounds_self_of_lt (by omega)];simp
    ·rw[Km (eo C),d j J];congr 1;by_cases A:j<i
     ·rw[bN A,bN (by omega)]
     ·rw[cL A,cL (by omega)]
  unfold mw at h;unfold wpOp;simp only[show L.toArray[i]? =some o by simpa using K];by_cases F:Region.wanted o (yielded L.toArray a.tmps)=true
  ·rw[ah F] at h⊢;exact .inl (Oper.wp_mono (fun e w' q=>B e w' q) h)
  ·rw[ae F] at h⊢;exact B _ _ h
theorem pg.wide(h:pg (L.take n) a0 D):pg L a0 D:=⟨h.size,h.defers,fun d b=>h.other d fun o c=>b o (List.mem_of_mem_take c)⟩
theorem Sa(O:vo 0 L=true)(Y:sN a0.tmps.size L=true)(V:AS n L=true)(hn:n≤L.length)(hU:Ep P L Φ a0 W Q (L.take n) Φ)
 (X:∀a w,Below W.heap.size W w→pg (L.take n) a0 a→(∀i,i<n→vS L Φ a w i)→mw P L.toArray Q (L.drop n) a w):
 ∀(q:Nat) (listed:Array Bool) (a:Act) (w:aaK),listed.size=L.length→jB listed.toList≤q→(∀i,n≤i→i<L.length→listed[i]? =some false)→XJ L listed→Below W.heap.size W w→pg (L.take n) a0 a→(∀i,listed[i]? =some true→vS L Φ a w i)→wpAny P .any L.toArray Q q listed a w:=by
 have an:∀(l:List Bool) (s:Nat),(∀i,s≤i→i<l.length→l[i]? =some false)→l.length-s≤jB l:=by
  intro l;induction l with
  |nil=>intro s _;simp
  |cons b r K=>
   intro s h;cases s with
   |zero=>have u:=h 0 (ag _) (by simp);simp at u;subst u;have:=K 0 (fun i _ c=>by simpa using h (i+1) (by omega) (by simpa using c));simp only[jB,cI,bF];omega
   |succ s=>have:=K s (fun i hm c=>by simpa using h (i+1) (by omega) (by simpa using c));simp only[jB,bF];omega
 intro q;induction q with
 |zero=>
  intro listed a w d hf D N x y A;have u:∀i,i<L.length→listed[i]? =some true:=fun i c=>by have:=vp (l:=listed.toList) (by omega) i (by simpa[d] using c);simpa using this
  have aU:n=L.length:=by
   by_cases h:n=L.length
   ·exact h
   ·have:=D n (ag _) (by omega);rw[u n (by omega)] at this;cases this
  refine xS O V (L.drop n) n 0 listed a w rfl (ag _) (by rw[bK];omega) d (fun i c=> ?_) (by rw[bK];omega) (X a w x y fun i c=>A i (u i (by omega)));rw[u i c,bN (by omega)]
 |succ q K=>
  intro listed a w d hf D N x y A;by_cases G:∀i,i<n→listed[i]? =some true
  ·refine xS O V (L.drop n) n (q+1) listed a w rfl (ag _) (by rw[bK];omega) d (fun i c=> ?_) ?_ (X a w x y fun i c=>A i (G i c))
   ·by_cases z:i<n
    ·rw[G i z,bN z]
    ·rw[D i (by omega) c,cL z]
   ·have:=an listed.toList n (fun i F h2=>by simpa using D i F (by simpa[d] using h2));rw[bK];have h3:listed.toList.length=L.length:=by simpa using d
    omega
  ·refine⟨fun hr=> ?_,fun i c=> ?_⟩
   ·exfalso;refine G fun i=> ?_;induction i using Nat.strongRecOn with
    |ind i ay=>
     intro z;have C:i<listed.size:=by omega
     cases E:listed[i] with
     |true=>rw[MM C,E]
     |false=>have:=AW O d (k:=i) (by omega) (by rw[MM C,E]) fun j B=>ay j B (by omega);rw[hr] at this;cases this
   ·have z:i<n:=by
     by_cases h:i<n
     ·exact h
     ·exact(G fun j B=>xR V N (by omega) c j (by omega)).elim
    obtain⟨F,o,ho,hw⟩:=mem_ready.1 c;have aN:i<L.length:=by omega
    have I:L[i]? =some o:=by simpa using ho
    have ab:(L.take n)[i]? =some o:=by rw[XR z];exact I
    have C:i<listed.size:=by omega
    have ao:listed[i]? =some false:=by rw[F5,MM C] at F;rw[MM C];simpa using F
    obtain⟨p,hp,ap⟩:=AX hU ab;have av:∀e∈o.after.toList,Region.binds .any e=true→vS L Φ a w e.on:=fun e he al=>by
     have:=hw e (by simpa using he) al;refine A e.on ?_;rw[F5] at this;cases E:listed[e.on]? with
     |none=>rw[E] at this;cases this
     |some b=>rw[E] at this;simp at this;rw[this]
    have J:=ap a w x y.wide av;have aa:∀v w',Below w.heap.size w w'→p.p v w'→wpAny P .any L.toArray Q q (listed.setIfInBounds i true) (a.put o.dst v) w':=fun v w' H T=>by
     refine K _ _ _ (by simpa using d) ?_ (fun j h7 h8=> ?_) (G8 N c) (x.t (H.m x.size)) (y.put (eQ ab) v) fun j B=> ?_
     ·have:=xT listed.toList i (by simpa using ao);rw[Array.toList_setIfInBounds];omega
     ·rw[Km (by omega)];exact D j h7 h8
     ·by_cases R:j=i
      ·subst R;unfold vS;rw[I,hp];refine⟨v, ?_,T⟩;unfold xU;cases am:o.dst with
       |none=>trivial
       |some ai=>exact Er (by have:=G9 Y I am;have:=y.size;omega)
      ·rw[Km (eo R)] at B;have S:=A j B;unfold vS at S⊢;cases ac:L[j]? with
       |none=>trivial
       |some oj=>
        cases aq:Φ[j]? with
        |none=>trivial
        |some pj=>
         rw[ac,aq] at S;obtain⟨v',M,h6⟩:=S;refine⟨v', ?_,pj.up v' w w' H h6⟩;unfold xU at M⊢;cases Z:oj.dst with
         |none=>trivial
         |some ai=>rw[Z] at M;exact(xV (fun e=>R (AY Y ac I Z e))).t M
    unfold wpOp;simp only[ho];by_cases af:Region.wanted o (yielded L.toArray a.tmps)=true
    ·rw[ah af] at J⊢;exact .inl (Oper.wp_mono (fun a' w' ⟨v,e,H,T⟩=>by subst e;exact aa v w' H T) J)
    ·rw[ae af] at J⊢;exact aa undef w (ar _ _) J
theorem Es:∀{m:Nat} {L:List Oper} (n:Nat),sN m L=true→sN m (L.take n)=true
 |m,[],n,h=>by simpa using h
 |m,o::l,0,h=>rfl
 |m,o::l,n+1,h=>by
  rw[ki];unfold sN at h⊢;rw[cW] at h⊢;refine⟨?_,Es n h.2⟩;have a:=h.1;cases b:o.dst with
  |none=>rfl
  |some d=>rw[b] at a;simp only[cW,eV] at a⊢;exact⟨a.1,fun x c=>a.2 x (List.mem_of_mem_take c)⟩
theorem oS{w:aaK}(n:Nat)(Φ:List oB)(F:P.follows .mixedOrders=true)(C:vo 0 L=true)(u:sN D.tmps.size L=true)(G:AS n L=true)(r:Nat.ble n L.length=true)(m:Ep P L Φ D w Q (L.take n) Φ)
 (A:∀(f:Nat→aaL) w',Below w.heap.size w w'→(∀(i:Nat) (p:oB),Φ[i]? =some p→p.p (f i) w')→mw P L.toArray Q (L.drop n) (xB f (L.take n) 0 D) w'):(Code.region d L.toArray true).wp P Q D w:=by
 have r:=Nat.le_of_ble_eq_true r;have I:(L.take n).length=n:=by rw[gu];omega
 refine wp_region_any F ?_;refine Sa C u G r m (fun x w' z B y=> ?_) _ _ _ _ (by simp) (by rw[Array.toList_replicate,xW];simp) (fun i _ c=>by rw[XQ,ah (by simpa using c)]) (fun j o e k _ _ _=>by rw[XQ] at k;split at k<;>cases k) (ar w.heap.size w).drew ⟨rfl,rfl,fun _ _=>rfl⟩ (fun i c=> ?_)
 ·have hA2:∀i,i<(L.take n).length→vS (L.take n) Φ x w' i:=fun i c=>by have:=y i (by omega);unfold vS at this⊢;rw[XR (by omega)];exact this
  obtain⟨vs,t,rfl⟩:=Uu (uo m) (Es n u) B hA2;have E:vs.length=(L.take n).length:=by
   have key:∀{b:List oB} {vs:List aaL},Et b vs w'→vs.length=b.length:=by
    intro b;induction b with
    |nil=>intro vs h;cases vs with|nil=>rfl|cons=>exact h.elim
    |cons p b s=>intro vs h;cases vs with|nil=>exact h.elim|cons v vs=>rw[bF,bF,s h.2]
   rw[key t,uo m]
  have H:∀{b:List oB} {vs:List aaL},Et b vs w'→∀(i:Nat) (p:oB),b[i]? =some p→p.p (vs.getD i undef) w':=by
   intro b;induction b with
   |nil=>intro vs h i p l;simp at l
   |cons q b s=>
    intro vs h i p l;cases vs with
    |nil=>exact h.elim
    |cons v vs=>
     cases i with
     |zero=>simp at l;subst l;exact h.1
     |succ i=>have:=s h.2 i p (by simpa using l);simpa using this
  have:=A (fun i=>vs.getD i undef) w' z (H t);rw[←AT (fun i=>vs.getD i undef) (L.take n) vs 0 D E (fun j v k=>by simp[List.getD_eq_getElem?_getD,k])] at this;exact this
 ·rw[XQ] at c;split at c<;>cases c
end
theorem gC{o:Oper}{L:Array Oper}{T:Array aaL}{A B:Prop}(b:o.guard=none)(a:A):if Region.wanted o (yielded L T)=true then A else B:=by rw[ah (by unfold Region.wanted;rw[b])];exact a
theorem BY{fn:Func}{W:aaK}{tmps:Array aaL}{b a:Nat}{v0 v1 v2 j k l m n o p c d e i:aaL}(h:fn.results=#[.cell a 28])(r:tmps.getD a undef=.pointer (some ⟨b,0,none⟩))(q:W.heap[b]? =some (.cells #[v0,v1,v2,j,k,l,m,n,o,p,c,d,e,i] 28)):
 (results fn tmps).run Tryz.prog W=.ok (.agg #[v0,v1,v2,j,k,l,m,n,o,p,c,d,e,i]) W:=by
 obtain⟨t,u,A,B,C,D,E,F,G,H,w,x,y,z⟩:=aaJ (aj q) 0 1 2 3 4 5 6 7 8 9 10 11 12 13;have s:tmps[a]?.getD undef=.pointer (some ⟨b,0,none⟩):=by rw[←r];simp
 simp[results,h,go_sem,s,t,u,A,B,C,D,E,F,G,H,w,x,y,z]
def dm:U:=⟨[104,116,116,112],[104],0,[47,100,47,112],[],false⟩
def kT:List dQ:=[([67,111,111,107,105,101],[99,61,50])]
def Ob(w:aaK):Ending→aaK→Prop:=fun e w'=>∃g,e=.returned (.agg (km dm ⟨#[]⟩ ⟨#[47,100,47,112]⟩ 0 (some ⟨g,0,none⟩) 1 1 ⟨#[]⟩ ⟨#[104,111,115,116]⟩ 2 1).toArray)∧aZ w' (.slice (some ⟨g,0,none⟩) 1 1) kT∧Below w.heap.size w w'
theorem uY(w:aaK):Calls Tryz.prog 33 #[] w (Ob w):=by go_enter Tryz.func33,Tryz.ntmps33;go_wp2_with fail;have c:=jX w (.cells #[.string ⟨#[104,116,116,112]⟩,.string ⟨#[104]⟩,.int .i64 0,.string ⟨#[47,100,47,112]⟩,.string ⟨#[]⟩,.bool false,.string ⟨#[]⟩,.string ⟨#[47,100,47,112]⟩,.int .i64 0,.slice (some ⟨w.heap.size+1,0,none⟩) 1 1,.string ⟨#[]⟩,.string ⟨#[104,111,115,116]⟩,.int .i64 2,.int .i64 1] 28) (.cells #[.string ⟨#[67,111,111,107,105,101]⟩,.string ⟨#[99,61,50]⟩] 59);have a:=iT w (.cells #[.string ⟨#[104,116,116,112]⟩,.string ⟨#[104]⟩,.int .i64 0,.string ⟨#[47,100,47,112]⟩,.string ⟨#[]⟩,.bool false,.string ⟨#[]⟩,.string ⟨#[47,100,47,112]⟩,.int .i64 0,.slice (some ⟨w.heap.size+1,0,none⟩) 1 1,.string ⟨#[]⟩,.string ⟨#[104,111,115,116]⟩,.int .i64 2,.int .i64 1] 28) (.cells #[.string ⟨#[67,111,111,107,105,101]⟩,.string ⟨#[99,61,50]⟩] 59);have b:Below w.heap.size w ((w.alloc (.cells #[.string ⟨#[104,116,116,112]⟩,.string ⟨#[104]⟩,.int .i64 0,.string ⟨#[47,100,47,112]⟩,.string ⟨#[]⟩,.bool false,.string ⟨#[]⟩,.string ⟨#[47,100,47,112]⟩,.int .i64 0,.slice (some ⟨w.heap.size+1,0,none⟩) 1 1,.string ⟨#[]⟩,.string ⟨#[104,111,115,116]⟩,.int .i64 2,.int .i64 1] 28)).alloc (.cells #[.string ⟨#[67,111,111,107,105,101]⟩,.string ⟨#[99,61,50]⟩] 59)):=(az w _).alloc (by rw[aO];omega) _;generalize(w.alloc (.cells #[.string ⟨#[104,116,116,112]⟩,.string ⟨#[104]⟩,.int .i64 0,.string ⟨#[47,100,47,112]⟩,.string ⟨#[]⟩,.bool false,.string ⟨#[]⟩,.string ⟨#[47,100,47,112]⟩,.int .i64 0,.slice (some ⟨w.heap.size+1,0,none⟩) 1 1,.string ⟨#[]⟩,.string ⟨#[104,111,115,116]⟩,.int .i64 2,.int .i64 1] 28)).alloc (.cells #[.string ⟨#[67,111,111,107,105,101]⟩,.string ⟨#[99,61,50]⟩] 59)=wf at*;refine aD (BY rfl rfl c) rfl ?_;exact⟨w.heap.size+1,rfl,GN kT a rfl,b⟩
structure uZ (w:aaK) (ga:Option Addr) (fZ:List j5):Prop where
 Vc:fZ.length≤1000
 at_:∀(i:Nat) (g:j5),fZ[i]? =some g→∃b o,ga=some ⟨b,o,none⟩∧b<w.heap.size∧w.cell? ⟨b,o+i*3,none⟩=some (.string ⟨g.body.toArray⟩)∧w.cell? ⟨b,o+i*3+1,none⟩=some (.bool g.F3)∧w.cell? ⟨b,o+i*3+2,none⟩=some (.bool g.ok)
 Vd:∀g∈fZ,g.body.length≤1000000
theorem uZ.below{w w':aaK}{c:Option Addr}{fZ:List j5}(h:uZ w c fZ)(e:Below w.heap.size w w'):uZ w' c fZ:=
 ⟨h.Vc,fun i g q=>by obtain⟨b,o,l,d,m,n,p⟩:=h.at_ i g q;have k:∀j,w'.cell? ⟨b,j,none⟩=w.cell? ⟨b,j,none⟩:=fun j=>uL (a:=⟨b,j,none⟩) (e.block b d);exact⟨b,o,l,ej d e.size,(k _).t m,(k _).t n,(k _).t p⟩,h.Vd⟩
theorem lW(w:aaK):uZ w none []:=⟨aH _,fun i g h=>by simp at h,fun g h=>by cases h⟩
def Od(h t:aaM)(fs:List dQ):oB:=⟨fun v w=>∃a c,v=.agg #[.string h,.string t,.slice a fs.length c]∧aZ w (.slice a fs.length c) fs,fun v w w' e ⟨a,c,b,d⟩=>⟨a,c,b,d.below e⟩⟩
def BZ:Bs:=[110,111,32,116,114,101,101]
def zp(s:Bs)(fZ:List j5):GM:=if(gW s).2.2≠0 then⟨BZ,false,false,[],0,0,[]⟩ else qK ⟨[104,111,115,116],[47,100,47,112],kT,2,fZ⟩ 1 dm (gW s).1
theorem DV:rX kT:=⟨by decide,by decide⟩
theorem DW:xv dm:=⟨by decide,by decide,by decide,by decide⟩
theorem kU(w:aaK)(hG:GL w)(s:Bs)(hs:s.length≤1000000)(G:Option Addr)(T:Nat)(fZ:List j5)(HA:uZ w G fZ):
 Calls Tryz.prog 17 #[.string ⟨s.toArray⟩,.slice G fZ.length T] w (qb w (zp s fZ)):=by
 have hA1:=az w (.cells #[.string ⟨#[]⟩,.bool false,.bool false,.slice none 0 0,.int .i64 0,.int .i64 0,.slice none 0 0] 44);have af:=ad (au w (.cells #[.string ⟨#[]⟩,.bool false,.bool false,.slice none 0 0,.int .i64 0,.int .i64 0,.slice none 0 0] 44));have D:=ad hA1;have be:=ad hG;have Z:=ad HA;have HP:=ad (Am _ (hG.next hA1) s hs);have O:=ad (fun h:(gW s).2.2=0=>And.intro (sA h) (K7 h));obtain⟨R,hR⟩:∃R,zp s fZ=R:=⟨_,rfl⟩;rw[hR];have F:=ad (show R=if(gW s).2.2≠0 then⟨BZ,false,false,[],0,0,[]⟩ else qK ⟨[104,111,115,116],[47,100,47,112],kT,2,fZ⟩ 1 dm (gW s).1 from hR.symm);obtain⟨Q,hQ⟩:∃Q,gW s=Q:=⟨_,rfl⟩;rw[hQ] at HP O F;obtain⟨n,pl,e⟩:=Q;clear hA1 hG HA hR hQ hs;go_enter Tryz.func17,Tryz.ntmps17;go_upto_region 1 with fail;generalize w.alloc (.cells #[.string ⟨#[]⟩,.bool false,.bool false,.slice none 0 0,.int .i64 0,.int .i64 0,.slice none 0 0] 44)=W1 at*;obtain⟨b,ap⟩:∃b,w.heap.size=b:=⟨_,rfl⟩;have a8:=ad (Nat.le_of_eq ap);rw[ap] at af⊢;clear ap;go_wp2_with fail;refine HP.o.m ?_;rintro en X⟨V,v,rfl,am⟩;obtain⟨K,L,ka,kc,rfl,-,-⟩:=am.shape;have hA3:=az X (.cells #[.int .i64 n.kind,.int .i64 n.place,.string ⟨n.text.toArray⟩,.slice K n.attrs.length L,.slice ka n.kids.length kc] 37);have u:=ad ((D.o.t (V.m D.o.size)).t (hA3.m (D.o.t (V.m D.o.size)).size));have j:=ad (bz (bz af.o V) hA3);have a2:=ad (au X (.cells #[.int .i64 n.kind,.int .i64 n.place,.string ⟨n.text.toArray⟩,.slice K n.attrs.length L,.slice ka n.kids.length kc] 37));have a4:=ad (fu.next am hA3);clear V am hA3 HP af;go_upto_region 2 with fail;generalize X.alloc (.cells #[.int .i64 n.kind,.int .i64 n.place,.string ⟨n.text.toArray⟩,.slice K n.attrs.length L,.slice ka n.kids.length kc] 37)=q at*;generalize X.heap.size=nb at*;by_cases W:e=0
 ·subst W;obtain⟨⟨a9,bd⟩,bb⟩:=O.o rfl;have bf:=ad a9;have bi:=ad bd;have bg:=ad bb;have M:=ad (show R=qK ⟨[104,111,115,116],[47,100,47,112],kT,2,fZ⟩ 1 dm n from F.o);clear a9 bd bb O F;go_wp2_with fail;refine(uY _).m ?_;rintro en Y⟨g,rfl,H,B⟩;have hA5:=az Y (.cells #[.string ⟨dm.scheme.toArray⟩,.string ⟨dm.host.toArray⟩,.int .i64 dm.port,.string ⟨dm.path.toArray⟩,.string ⟨dm.query.toArray⟩,.bool dm.hq,.string ⟨#[]⟩,.string ⟨#[47,100,47,112]⟩,.int .i64 0,.slice (some ⟨g,0,none⟩) 1 1,.string ⟨#[]⟩,.string ⟨#[104,111,115,116]⟩,.int .i64 2,.int .i64 1] 28);have aa:=ad ((u.o.t (B.m u.o.size)).t (hA5.m (u.o.t (B.m u.o.size)).size));have a6:=ad (bz (bz j.o B) hA5);have a3:=ad (bz (bz a2.o B) hA5);have a5:=ad (fu.next (fu.next a4.o B) hA5);have a0:=ad (aZ.below H hA5);have S:=ad (au Y (.cells #[.string ⟨dm.scheme.toArray⟩,.string ⟨dm.host.toArray⟩,.int .i64 dm.port,.string ⟨dm.path.toArray⟩,.string ⟨dm.query.toArray⟩,.bool dm.hq,.string ⟨#[]⟩,.string ⟨#[47,100,47,112]⟩,.int .i64 0,.slice (some ⟨g,0,none⟩) 1 1,.string ⟨#[]⟩,.string ⟨#[104,111,115,116]⟩,.int .i64 2,.int .i64 1] 28));clear B hA5 H u j a2 a4;go_upto_region 5 with fail;generalize Y.alloc (.cells #[.string ⟨dm.scheme.toArray⟩,.string ⟨dm.host.toArray⟩,.int .i64 dm.port,.string ⟨dm.path.toArray⟩,.string ⟨dm.query.toArray⟩,.bool dm.hq,.string ⟨#[]⟩,.string ⟨#[47,100,47,112]⟩,.int .i64 0,.slice (some ⟨g,0,none⟩) 1 1,.string ⟨#[]⟩,.string ⟨#[104,111,115,116]⟩,.int .i64 2,.int .i64 1] 28)=W5 at*;generalize Y.heap.size=wb at*;clear D;refine oS 8 [oB.is (wZ n.kind n.place n.text (.slice K n.attrs.length L) (.slice ka n.kids.length kc)),oB.is (.pointer (some ⟨wb,0,none⟩)),oB.is (uV dm),oB.is (.agg (km dm ⟨#[]⟩ ⟨#[47,100,47,112]⟩ 0 (some ⟨g,0,none⟩) 1 1 ⟨#[]⟩ ⟨#[104,111,115,116]⟩ 2 1).toArray),Od ⟨#[104,111,115,116]⟩ ⟨#[47,100,47,112]⟩ kT,oB.is (.agg (km dm ⟨#[]⟩ ⟨#[47,100,47,112]⟩ 0 (some ⟨g,0,none⟩) 1 1 ⟨#[]⟩ ⟨#[104,111,115,116]⟩ 2 1).toArray),oB.is (.agg #[.string ⟨#[]⟩,.int .i64 0,.int .i64 0,.int .i64 2,.int .i64 1,.string ⟨#[]⟩,.slice none 0 0]),oB.is (.slice G fZ.length T)] (by kernel_rfl) (by rfl) (by rfl) (by kernel_rfl) (by rfl) ⟨?o0, ?o1, ?o2, ?o3, ?o4, ?o5, ?o6, ?o7,trivial⟩ ?_;case o0=>intro k w' d i l;refine gC rfl ?_;have s5:=lX i 5 (by rfl) rfl;have k0:=aj (bz a3.o d);go_simp;exact⟨_,rfl,ar _ _,rfl⟩
  case o1=>intro k w' d i l;refine gC rfl ?_;have s8:=lX i 8 (by rfl) rfl;go_simp;exact⟨_,rfl,ar _ _,rfl⟩
  case o2=>intro k w' d i l;refine gC rfl ?_;obtain⟨v1,e1,rfl⟩:=mv l 1 (by rfl);have e1:k.tmps[20]? =some _:=e1;have k0:=aj (bz S.o d);go_simp;exact⟨_,rfl,ar _ _,rfl⟩
  case o3=>intro k w' d i l;refine gC rfl ?_;have s8:=lX i 8 (by rfl) rfl;have k0:=aj (bz S.o d);go_simp;exact⟨_,rfl,ar _ _,rfl⟩
  case o4=>intro k w' d i l;refine gC rfl ?_;obtain⟨v3,e3,rfl⟩:=mv l 3 (by rfl);have e3:k.tmps[22]? =some _:=e3;have ai:=ad (xA dm ⟨#[]⟩ ⟨#[47,100,47,112]⟩ 0 (some ⟨g,0,none⟩) 1 1 ⟨#[]⟩ ⟨#[104,111,115,116]⟩ 2 1 kT w' (a0.o.below d) (by decide));go_simp;refine ai.o.m ?_;rintro e w6⟨a1,c1,rfl,bl,hb⟩;exact⟨_,rfl,hb,⟨a1,c1,rfl,bl.at⟩⟩
  case o5=>intro k w' d i l;refine gC rfl ?_;have s8:=lX i 8 (by rfl) rfl;have k0:=aj (bz S.o d);go_simp;exact⟨_,rfl,ar _ _,rfl⟩
  case o6=>intro k w' d i l;refine gC rfl ?_;obtain⟨v5,e5,rfl⟩:=mv l 5 (by rfl);have e5:k.tmps[24]? =some _:=e5;have ai:=ad (sB dm ⟨#[]⟩ ⟨#[47,100,47,112]⟩ 0 (some ⟨g,0,none⟩) 1 1 ⟨#[]⟩ ⟨#[104,111,115,116]⟩ 2 1 w');go_simp;refine ai.o.m ?_;rintro e w6⟨rfl,hb⟩;exact⟨_,rfl,hb,rfl⟩
  case o7=>intro k w' d i l;refine gC rfl ?_;have s1:=lX i 1 (by rfl) rfl;go_simp;exact⟨_,rfl,ar _ _,rfl⟩
  intro f wr d C;have x:f 0=_:=C 0 _ rfl;have y:f 2=_:=C 2 _ rfl;obtain⟨va,vc,z,H⟩:∃a c,f 4=.agg #[.string ⟨#[104,111,115,116]⟩,.string ⟨#[47,100,47,112]⟩,.slice a kT.length c]∧aZ wr (.slice a kT.length c) kT:=C 4 _ rfl;have A:f 6=_:=C 6 _ rfl;have f7:f 7=_:=C 7 _ rfl;have E:=ad (aa.o.t (d.m aa.o.size));have a7:=ad (bz a6.o d);have aN:Hid (Calls Tryz.prog 9 #[wZ n.kind n.place n.text (.slice K n.attrs.length L) (.slice ka n.kids.length kc),uV dm,.agg #[.string ⟨#[104,111,115,116]⟩,.string ⟨#[47,100,47,112]⟩,.slice va kT.length vc],.agg #[.string ⟨#[]⟩,.int .i64 0,.int .i64 0,.int .i64 2,.int .i64 1,.string ⟨#[]⟩,.slice none 0 0],.slice G fZ.length T] wr (qb wr R)):=ad (by rw[M.o];exact Av n _ dm [104,111,115,116] [47,100,47,112] kT va kT.length vc G T fZ [] [] none 0 0 0 0 2 1 wr ⟨be.o.next E.o,H,DV,by decide,by decide,by have:=Z.o.Vc;omega,(Z.o.below E.o).at_,Z.o.Vd⟩ (.inl DW) _ (fu.next a5.o d) bg.o bf.o (by have:=bi.o;omega));clear d C H aa a6 a3 a5 a0 S;simp only[ki,kL,List.drop_succ_cons,List.drop_zero,xB,Act.put];rw[x,y,z,A,f7];clear x y z A f7;simp only[mw];go_simp;refine aN.o.m ?_;rintro en r⟨v,rfl,⟨av,rv,rfl,an,ao⟩,al⟩;obtain⟨qa,qc,rfl⟩:=aX an;obtain⟨ra,rc,rfl⟩:=aX ao;have p:=ad (bz a7.o al);have ay:=ad (E.o.t (al.m E.o.size));have ab:=ad an;have ac:=ad ao;have N:=ad (show b<wr.heap.size∧w.heap.size≤wr.heap.size from⟨(aB.1 a7.o).1,E.o.size⟩);clear an ao al aN M;have r0:=aj p.o;have x:∀j,r.frozen? ⟨b,j,none⟩=false:=fun _=>aA p.o;go_simp;clear r0 x;go_wp2_with fail;have aq:=kS (.string ⟨R.out.toArray⟩) (.bool R.ok) (.bool R.done) (.slice qa R.asked.length qc) (.int .i64 R.aU) (.int .i64 R.work) (.slice ra R.reads.length rc) p.o;have J:=jy r b (.string ⟨R.out.toArray⟩) (.bool R.ok) (.bool R.done) (.slice qa R.asked.length qc) (.int .i64 R.aU) (.int .i64 R.work) (.slice ra R.reads.length rc);have o1:=wP (bw ab.o fun g I=>J.block g (ab.o.lt g I).2 (by intro e;injection e with e;have:=(ab.o.lt g I).1;have:=N.o.1;omega)) N.o.2;have o2:=wP (bw ac.o fun g I=>J.block g (ac.o.lt g I).2 (by intro e;injection e with e;have:=(ac.o.lt g I).1;have:=N.o.1;omega)) N.o.2;have bk:=ay.o.t (J.below a8.o ay.o.size);refine aD (ja rfl rfl aq) rfl ?_;exact⟨_,rfl,⟨_,_,rfl,o1,o2⟩,bk⟩
 ·have q0:=eS W;have M:=ad (F.o.t (ah W));clear W F O;have r0:=aj j.o;have x:∀j,q.frozen? ⟨b,j,none⟩=false:=fun _=>aA j.o;go_wp2_with fail;clear r0 x;have aq:=kS (.string ⟨BZ.toArray⟩) (.bool false) (.bool false) (.slice none 0 0) (.int .i64 0) (.int .i64 0) (.slice none 0 0) j.o;have J:=jy q b (.string ⟨BZ.toArray⟩) (.bool false) (.bool false) (.slice none 0 0) (.int .i64 0) (.int .i64 0) (.slice none 0 0);refine aD (ja rfl rfl aq) rfl ?_;rw[M.o];exact⟨_,rfl,⟨_,_,rfl,jO _ _ _ _,jO _ _ _ _⟩,u.o.t (J.below a8.o u.o.size)⟩
def Oe:List j5→List aaL
 |[]=>[]
 |g::r=>[.string ⟨g.body.toArray⟩,.bool g.F3,.bool g.ok]++Oe r
theorem sC:∀{l:List j5} {i:Nat} {g:j5} (j:Nat) (v:aaL),l[i]? =some g→[Value.string ⟨g.body.toArray⟩,.bool g.F3,.bool g.ok][j]? =some v→(Oe l)[i*3+j]? =some v
 |[],_,_,_,_,h,_=>by simp at h
 |x::r,0,g,j,v,h,a=>by simp at h;subst h;rw[Oe,Nat.zero_mul,dH,qC (cH.1 a).1];exact a
 |x::r,i+1,g,j,v,h,a=>by rw[Oe,jL (by show 3≤_;omega),←sC (l:=r) (i:=i) j v (by simpa using h) a];congr 1;show(i+1)*3+j-3=_;omega
theorem jb{W:aaK}{b:Nat}{T:TypeId}{c:Array aaL}(fZ:List j5)(h:W.heap[b]? =some (.cells c T))(e:c=(Oe fZ).toArray)(j:fZ.length≤1000)(d:∀g∈fZ,g.body.length≤1000000):uZ W (some ⟨b,0,none⟩) fZ:=by
 subst e;refine⟨j,fun i g a=>⟨b,0,rfl,(aB.1 h).1, ?_, ?_, ?_⟩,d⟩
 ·rw[dH];exact(tH _ _ _ _ _ _ h).t (by rw[List.getElem?_toArray];exact sC 0 _ a rfl)
 ·rw[dH];exact(tH _ _ _ _ _ _ h).t (by rw[List.getElem?_toArray];exact sC 1 _ a rfl)
 ·rw[dH];exact(tH _ _ _ _ _ _ h).t (by rw[List.getElem?_toArray];exact sC 2 _ a rfl)
theorem gD(w:aaK):Calls Tryz.prog 20 #[] w (cN w (.agg #[.string ⟨#[65]⟩,.bool false,.bool true])):=by go_enter Tryz.func20,Tryz.ntmps20;go_wp2_with fail;have h:=au w (.cells #[.string ⟨#[65]⟩,.bool false,.bool true] 62);exact aD (lT rfl rfl h) rfl ⟨rfl,az w _⟩
theorem fH(w:aaK)(r:GL w)(s A:Bs)(z:s.length≤1000000)(n:Int)(a:Option Addr)(i k:Nat)(fZ:List j5)(C:fZ.length=k)(c:uZ w a fZ)(h:((zp s fZ).ok=true∧(zp s fZ).done=true)∧(zp s fZ).out=A∧((zp s fZ).asked.length:Int)=n):
 Calls Tryz.prog 19 #[.string ⟨s.toArray⟩,.string ⟨A.toArray⟩,.int .i64 n,.slice a k i] w (cN w (.bool true)):=by
 subst C;have d:=ad (kU w r s z a i fZ c);obtain⟨R,u⟩:∃R,zp s fZ=R:=⟨_,rfl⟩;rw[u] at h d;obtain⟨out,ok,done,asked,aU,work,reads⟩:=R;obtain⟨⟨j,l⟩,p,q⟩:=h;dsimp only at j l p q;subst j l p q;clear u z c r;go_enter Tryz.func19,Tryz.ntmps19;go_wp2_with fail;refine d.o.m ?_;rintro e H⟨v,rfl,⟨av,rv,rfl,x,y⟩,b⟩;obtain⟨D,E,rfl⟩:=aX x;obtain⟨F,G,rfl⟩:=aX y;have B:=ad (b.t ((az H (.cells #[.string ⟨out.toArray⟩,.bool true,.bool true,.slice D asked.length E,.int .i64 aU,.int .i64 work,.slice F reads.length G] 44)).m b.size));clear x y b;go_wp2_with fail;go_ret;exact⟨rfl,B.o⟩
theorem DX(a b c e f g:aaL)(d:Option Addr)(n h:Nat)(w:aaK):(Instr.field 44 (.agg #[a,b,c,.slice d n h,e,f,g]) 3).run Tryz.prog w=.ok (.slice d n h) w:=by kernel_rfl
theorem ve(w:aaK)(k:GL w)(s:Bs)(C:s.length≤1000000)(u:U)(h:(zp s []).asked.head?=some u)(A:xv u):
 Calls Tryz.prog 18 #[.string ⟨s.toArray⟩] w (cN w (.string ⟨(nE u).toArray⟩)):=by
 have x:=ad (kU w k s C none 0 [] (lW w));obtain⟨R,y⟩:∃R,zp s []=R:=⟨_,rfl⟩;rw[y] at h x;obtain⟨out,ok,done,asked,aU,work,reads⟩:=R;dsimp only at h;have p:asked[0]? =some u:=by rw[←h];cases asked<;>rfl
 have K:0<asked.length:=(cH.1 p).1;have F:=ad p;have E:=ad k;have G:=ad A;obtain⟨N,J⟩:∃N,asked.length=N:=⟨_,rfl⟩;have H:=ad J;have O:(0:Int)<(N:Int):=by omega
 have Q:((N:Int)==0)=false:=aL.2 (by omega);clear y C k h p A K;go_enter Tryz.func18,Tryz.ntmps18;go_wp2_with fail;refine(show Calls _ _ _ _ (qb w _) from x.o).m ?_;rintro e j⟨v,rfl,⟨av,rv,rfl,q,B⟩,l⟩;obtain⟨S,L,rfl⟩:=aX q;obtain⟨T,V,rfl⟩:=aX B;obtain⟨d,rfl,-,i⟩:=Rz q F.o;have u0:j.cell? ⟨d,0,none⟩=some (.string ⟨u.scheme.toArray⟩):=i 0 _ rfl;have u1:j.cell? ⟨d,1,none⟩=some (.string ⟨u.host.toArray⟩):=i 1 _ rfl;have u2:j.cell? ⟨d,2,none⟩=some (.int .i64 u.port):=i 2 _ rfl;have u3:j.cell? ⟨d,3,none⟩=some (.string ⟨u.path.toArray⟩):=i 3 _ rfl;have u4:j.cell? ⟨d,4,none⟩=some (.string ⟨u.query.toArray⟩):=i 4 _ rfl;have u5:j.cell? ⟨d,5,none⟩=some (.bool u.hq):=i 5 _ rfl;have r:=ad l;have M:=fun a b c e f g (n:Nat) w=>DX a b c e f g (some ⟨d,0,none⟩) n L w;have I:=ad (wa u j (E.o.next l).gx G.o);rw[show(GM.mk out ok done asked aU work reads).asked.length=N from H.o] at*;clear q B l i;go_wp2_with fail;refine I.o.m ?_;rintro e W⟨rfl,z⟩;have D:=ad (r.o.t (z.m r.o.size));clear z u0 u1 u2 u3 u4 u5;go_wp2_with fail;go_ret;exact⟨rfl,D.o⟩
theorem DZ(w:aaK)(i:GL w):Calls Tryz.prog 7 #[] w (cN w (.bool true)):=by
 have p:=ad (kU w i [120,60,101,115,105,58,105,110,99,108,117,100,101,32,115,114,99,61,34,97,34,47,62,121] (by decide) none 0 [] (lW w));have l:(zp [120,60,101,115,105,58,105,110,99,108,117,100,101,32,115,114,99,61,34,97,34,47,62,121] []).out=[]∧(zp [120,60,101,115,105,58,105,110,99,108,117,100,101,32,115,114,99,61,34,97,34,47,62,121] []).ok=false∧(zp [120,60,101,115,105,58,105,110,99,108,117,100,101,32,115,114,99,61,34,97,34,47,62,121] []).done=false∧(zp [120,60,101,115,105,58,105,110,99,108,117,100,101,32,115,114,99,61,34,97,34,47,62,121] []).asked.length=1:=⟨by kernel_rfl,by kernel_rfl,by kernel_rfl,by kernel_rfl⟩;obtain⟨R,u⟩:∃R,zp [120,60,101,115,105,58,105,110,99,108,117,100,101,32,115,114,99,61,34,97,34,47,62,121] []=R:=⟨_,rfl⟩;rw[u] at l p;obtain⟨out,ok,done,asked,aU,work,reads⟩:=R;obtain⟨q,r,s,h⟩:=l;dsimp only at q r s h;subst q r s;have F:=ad h;have n:=ad i;clear u i h;go_enter Tryz.func7,Tryz.ntmps7;go_wp2_with fail;refine(show Calls _ _ _ _ (qb w _) from p.o).m ?_;rintro e K⟨v,rfl,⟨av,rv,rfl,A,B⟩,j⟩;obtain⟨G,H,rfl⟩:=aX A;obtain⟨I,J,rfl⟩:=aX B;rw[show(GM.mk [] false false asked aU work reads).asked.length=1 from F.o] at*;have a:=ad (j.t ((az K (.cells #[.string ⟨#[]⟩,.bool false,.bool false,.slice G 1 H,.int .i64 aU,.int .i64 work,.slice I reads.length J] 44)).m j.size));clear A B j;go_wp2_with fail;refine(ve _ (n.o.next a.o) _ (by decide) ⟨[104,116,116,112],[104],0,[47,100,47,97],[],false⟩ (by kernel_rfl) ⟨by decide,by decide,by decide,by decide⟩).m ?_;rintro e L⟨rfl,x⟩;have C:nE ⟨[104,116,116,112],[104],0,[47,100,47,97],[],false⟩=[104,116,116,112,58,47,47,104,47,100,47,97]:=by kernel_rfl
 rw[C];have c:=ad (a.o.t (x.m a.o.size));clear x C a;go_wp2_with fail;refine(gD _).m ?_;rintro e D⟨rfl,y⟩;have d:=ad (c.o.t (y.m c.o.size));clear y c;have k:=ad (jb [⟨[65],false,true⟩] (au D (.cells #[.string ⟨#[65]⟩,.bool false,.bool true] 62)) rfl (by decide) (by decide));have b:=ad (d.o.t ((az D (.cells #[.string ⟨#[65]⟩,.bool false,.bool true] 62)).m d.o.size));clear d;go_wp2_with fail;refine(fH _ (n.o.next b.o) _ _ (by decide) _ _ _ _ [⟨[65],false,true⟩] rfl k.o ⟨⟨by kernel_rfl,by kernel_rfl⟩,by kernel_rfl,by kernel_rfl⟩).m ?_;rintro e M⟨rfl,z⟩;have E:=ad (b.o.t (z.m b.o.size));clear z b k;go_wp2_with fail;go_ret;exact⟨rfl,E.o⟩
variable{D:Act}
structure YE where
 p:aaL→aaK→(Nat→Prop)→Prop
 up:∀v w w' (G G':Nat→Prop),Below w.heap.size w w'→(∀z,z<w.heap.size→G' z→G z)→p v w G→p v w' G'
def oB.g(p:oB):YE:=⟨fun v w _=>p.p v w,fun v w w' _ _ a _ h=>p.up v w w' a h⟩
def ZK(L:List Oper)(Φ:List YE)(G:Nat→Prop)(a:Act)(w:aaK)(i:Nat):Prop:=
 match L[i]?,Φ[i]? with
 |some o,some p=>∃v,xU o a v∧p.p v w G
 |_,_=>True
def Z0(P:Program)(L:List Oper)(Φ:List YE)(a0:Act)(W:aaK)(Q:Exit→Act→aaK→Prop)(o:Oper)(p:YE)(c:Bool):Prop:=
 ∀a w (G:Nat→Prop),Below W.heap.size W w→pg L a0 a→(∀z,G z→W.heap.size≤z∧z<w.heap.size)→(∀e∈o.after.toList,Region.binds .any e=true→ZK L Φ G a w e.on)→
  if Region.wanted o (yielded L.toArray a.tmps)=true then Oper.wp P o a w (fun d w'=>∃v,d=a.put o.dst v∧Below w.heap.size w w'∧(if c=true then∃b,v=.pointer (some ⟨b,0,none⟩)∧w.heap.size≤b∧b<w'.heap.size∧p.p v w' (fun z=>G z∨z=b) else p.p v w' G)) Q else p.p undef w G∧c=false
def Yn(P:Program)(L:List Oper)(Φ:List YE)(a0:Act)(W:aaK)(Q:Exit→Act→aaK→Prop):List Oper→List YE→List Bool→Prop
 |[],[],[]=>True
 |o::l,p::c,b::a=>Z0 P L Φ a0 W Q o p b∧Yn P L Φ a0 W Q l c a
 |_,_,_=>False
def GS(Fr:List Bool)(listed:Array Bool)(B:Nat→Nat)(z:Nat):Prop:=∃i:Nat,listed[i]? =some true∧Fr[i]? =some true∧z=B i
def YS(W:aaK)(L:List Oper)(Fr:List Bool)(B:Nat→Nat)(a:Act)(w:aaK)(i:Nat):Prop:=
 match L[i]?,Fr[i]? with
 |some o,some true=>xU o a (.pointer (some ⟨B i,0,none⟩))∧W.heap.size≤B i∧B i<w.heap.size
 |_,_=>True
section
variable{P:Program}{L:List Oper}{Φ:List YE}{Fr:List Bool}{a0:Act}{W:aaK}{Q:Exit→Act→aaK→Prop}{n:Nat}
theorem Yo:∀{l:List Oper} {a:List YE} {d:List Bool} {i:Nat} {o:Oper},Yn P L Φ a0 W Q l a d→l[i]? =some o→∃p b,a[i]? =some p∧d[i]? =some b∧Z0 P L Φ a0 W Q o p b
 |[],_,_,_,_,_,h=>by simp at h
 |o::l,[],_,_,_,h,_=>by cases h
 |o::l,p::a,[],_,_,h,_=>by cases h
 |o::l,p::a,b::d,0,j,h,e=>by simp at e;subst e;exact⟨p,b,rfl,rfl,h.1⟩
 |o::l,p::a,b::d,i+1,j,h,e=>by obtain⟨q,c,k,m,n⟩:=Yo h.2 (show l[i]? =some j by simpa using e);exact⟨q,c,by simpa using k,by simpa using m,n⟩
theorem Yy{o b:Oper}{i j:Nat}(k:sN n L=true)(m:L[i]? =some o)(p:L[j]? =some b)(l:j≠i){v v':aaL}(h:xU b D v'):xU b (D.put o.dst v) v':=by
 unfold xU at h⊢;cases c:b.dst with
 |none=>trivial
 |some d=>rw[c] at h;exact(xV (fun e=>l (AY k p m c e))).t h
theorem ZY(hb:vo 0 L=true)(hd:sN a0.tmps.size L=true)(ht:AS n L=true)(hn:n≤L.length)(hU:Yn P L Φ a0 W Q (L.take n) Φ Fr)
 (hE:∀a w (B:Nat→Nat) (listed:Array Bool),Below W.heap.size W w→pg (L.take n) a0 a→(∀i,i<n→listed[i]? =some true)→(∀i,i<n→ZK L Φ (GS Fr listed B) a w i∧YS W L Fr B a w i)→(∀i j,i<n→j<n→Fr[i]? =some true→Fr[j]? =some true→i≠j→B i≠B j)→mw P L.toArray Q (L.drop n) a w):
 ∀(C:Nat) (listed:Array Bool) (a:Act) (w:aaK) (B:Nat→Nat),listed.size=L.length→jB listed.toList≤C→(∀i,n≤i→i<L.length→listed[i]? =some false)→XJ L listed→Below W.heap.size W w→pg (L.take n) a0 a→(∀i,listed[i]? =some true→ZK L Φ (GS Fr listed B) a w i∧YS W L Fr B a w i)→
  (∀i j,listed[i]? =some true→listed[j]? =some true→Fr[i]? =some true→Fr[j]? =some true→i≠j→B i≠B j)→wpAny P .any L.toArray Q C listed a w:=by
 have a8:∀(l:List Bool) (S:Nat),(∀i,S≤i→i<l.length→l[i]? =some false)→l.length-S≤jB l:=by
  intro l;induction l with
  |nil=>intro S _;simp
  |cons b r ih=>
   intro S h;cases S with
   |zero=>have D:=h 0 (ag _) (by simp);simp at D;subst D;have:=ih 0 (fun i _ q=>by simpa using h (i+1) (by omega) (by simpa using q));simp only[jB,cI,bF];omega
   |succ S=>have:=ih S (fun i hm q=>by simpa using h (i+1) (by omega) (by simpa using q));simp only[jB,bF];omega
 intro C;induction C with
 |zero=>
  intro listed a w B I hf ac hC N V M hD;have D:∀i,i<L.length→listed[i]? =some true:=fun i q=>by have:=vp (l:=listed.toList) (by omega) i (by simpa[I] using q);simpa using this
  have br:n=L.length:=by
   by_cases h:n=L.length
   ·exact h
   ·have:=ac n (ag _) (by omega);rw[D n (by omega)] at this;cases this
  refine xS hb ht (L.drop n) n 0 listed a w rfl (ag _) (by rw[bK];omega) I (fun i q=> ?_) (by rw[bK];omega) (hE a w B listed N V (fun i q=>D i (by omega)) (fun i q=>M i (D i (by omega))) fun i j q d=>hD i j (D i (by omega)) (D j (by omega)));rw[D i q,bN (by omega)]
 |succ C ih=>
  intro listed a w B I hf ac hC N V M hD;by_cases O:∀i,i<n→listed[i]? =some true
  ·refine xS hb ht (L.drop n) n (C+1) listed a w rfl (ag _) (by rw[bK];omega) I (fun i q=> ?_) ?_ (hE a w B listed N V O (fun i q=>M i (O i q)) fun i j q d=>hD i j (O i q) (O j d))
   ·by_cases X:i<n
    ·rw[O i X,bN X]
    ·rw[ac i (by omega) q,cL X]
   ·have:=a8 listed.toList n (fun i h1 h2=>by simpa using ac i h1 (by simpa[I] using h2));rw[bK];have h3:listed.toList.length=L.length:=by simpa using I
    omega
  ·refine⟨fun hr=> ?_,fun i q=> ?_⟩
   ·exfalso;refine O fun i=> ?_;induction i using Nat.strongRecOn with
    |ind i bm=>
     intro X;have ab:i<listed.size:=by omega
     cases hv:listed[i] with
     |true=>rw[MM ab,hv]
     |false=>have:=AW hb I (k:=i) (by omega) (by rw[MM ab,hv]) fun j d=>bm j d (by omega);rw[hr] at this;cases this
   ·have X:i<n:=by
     by_cases h:i<n
     ·exact h
     ·exact(O fun j d=>xR ht hC (by omega) q j (by omega)).elim
    obtain⟨h1,o,ho,hw⟩:=mem_ready.1 q;have bp:i<L.length:=by omega
    have Y:L[i]? =some o:=by simpa using ho
    have aU:(L.take n)[i]? =some o:=by rw[XR X];exact Y
    have ab:i<listed.size:=by omega
    have a9:listed[i]? =some false:=by rw[F5,MM ab] at h1;rw[MM ab];simpa using h1
    obtain⟨p,fb,hp,Z,bf⟩:=Yo hU aU;have bi:∀e∈o.after.toList,Region.binds .any e=true→ZK L Φ (GS Fr listed B) a w e.on:=fun e he a5=>by
     have:=hw e (by simpa using he) a5;refine(M e.on ?_).1;rw[F5] at this;cases hv:listed[e.on]? with
     |none=>rw[hv] at this;cases this
     |some b=>rw[hv] at this;simp at this;rw[this]
    have ao:∀j,listed[j]? =some true→Fr[j]? =some true→W.heap.size≤B j∧B j<w.heap.size:=fun j d H=>by
     have y:=(M j d).2;have bd:j<L.length:=by have:=(aB.1 d).1;omega
     unfold YS at y;rw[cA bd,H] at y;exact y.2
    have hG:∀z,GS Fr listed B z→W.heap.size≤z∧z<w.heap.size:=fun z ⟨j,u,x,y⟩=>by rw[y];exact ao j u x
    have ai:=bf a w (GS Fr listed B) N V.wide hG bi;have F:∀j,j≠i→(listed.setIfInBounds i true)[j]? =some true→listed[j]? =some true:=fun j s d=>by rwa [Km (eo s)] at d
    have aq:∀v w' (A:Nat→Nat),Below w.heap.size w w'→(∀j,j≠i→A j=B j)→p.p v w' (GS Fr (listed.setIfInBounds i true) A)→(fb=true→v=.pointer (some ⟨A i,0,none⟩)∧w.heap.size≤A i∧A i<w'.heap.size)→wpAny P .any L.toArray Q C (listed.setIfInBounds i true) (a.put o.dst v) w':=fun v w' A G T E am=>by
     have a1:xU o (a.put o.dst v) v:=by
      unfold xU;cases a7:o.dst with
      |none=>trivial
      |some bn=>exact Er (by have:=G9 hd Y a7;have:=V.size;omega)
     have bk:∀z,z<w.heap.size→GS Fr (listed.setIfInBounds i true) A z→GS Fr listed B z:=fun z hz ⟨j,u,x,y⟩=>by
      by_cases s:j=i
      ·subst s;rw[Z] at x;have bo:=am (iS x);omega
      ·exact⟨j,F j s u,x,by rw[y,T j s]⟩
     have bl:∀j,(listed.setIfInBounds i true)[j]? =some true→ZK L Φ (GS Fr (listed.setIfInBounds i true) A) (a.put o.dst v) w' j:=fun j d=>by
      by_cases s:j=i
      ·subst s;unfold ZK;rw[Y,hp];exact⟨v,a1,E⟩
      ·have R:=(M j (F j s d)).1;unfold ZK at R⊢;cases af:L[j]? with
       |none=>trivial
       |some oj=>
        cases bg:Φ[j]? with
        |none=>trivial
        |some pj=>rw[af,bg] at R;obtain⟨v',J,K⟩:=R;exact⟨v',Yy hd Y af s J,pj.up v' w w' _ _ G bk K⟩
     have bb:∀j,(listed.setIfInBounds i true)[j]? =some true→YS W L Fr A (a.put o.dst v) w' j:=fun j d=>by
      by_cases s:j=i
      ·subst s;unfold YS;rw[Y,Z];cases fb with
       |false=>trivial
       |true=>obtain⟨J,K,u⟩:=am rfl;exact⟨by rw[←J];exact a1,bP N.size K,u⟩
      ·have R:=(M j (F j s d)).2;unfold YS at R⊢;cases af:L[j]? with
       |none=>trivial
       |some oj=>
        cases H:Fr[j]? with
        |none=>trivial
        |some c=>
         cases c with
         |false=>trivial
         |true=>rw[af,H] at R;obtain⟨J,K,u⟩:=R;rw[T j s];exact⟨Yy hd Y af s J,K,ej u G.size⟩
     have a6:jB (listed.setIfInBounds i true).toList≤C:=by have:=xT listed.toList i (by simpa using a9);rw[Array.toList_setIfInBounds];omega
     have be:∀j,n≤j→j<L.length→(listed.setIfInBounds i true)[j]? =some false:=fun j u x=>by rw[Km (by omega)];exact ac j u x
     refine ih _ _ _ A (by simpa using I) a6 be (G8 hC q) (N.t (G.m N.size)) (V.put (eQ aU) v) (fun j d=>⟨bl j d,bb j d⟩) fun j k d hk H al av=> ?_;by_cases aa:j=i
     ·subst aa;have ay:k≠j:=fun e=>av e.symm;rw[Z] at H;have J:=am (iS H);have K:=ao k (F k ay hk) al;rw[T k ay];omega
     ·by_cases an:k=i
      ·subst an;rw[Z] at al;have J:=am (iS al);have K:=ao j (F j aa d) H;rw[T j aa];omega
      ·rw[T j aa,T k an];exact hD j k (F j aa d) (F k an hk) H al av
    have aN:∀v w',fb=false→Below w.heap.size w w'→p.p v w' (GS Fr listed B)→wpAny P .any L.toArray Q C (listed.setIfInBounds i true) (a.put o.dst v) w':=fun v w' ap G E=>by
     refine aq v w' B G (fun _ _=>rfl) (p.up v w' w' _ _ (ar _ _) (fun z _ hz=> ?_) E) (fun h=>by rw[ap] at h;cases h);obtain⟨j,u,x,y⟩:=hz;have s:j≠i:=fun e=>by subst e;rw[Z,ap] at x;cases x
     exact⟨j,F j s u,x,y⟩
    unfold wpOp;simp only[ho];by_cases a2:Region.wanted o (yielded L.toArray a.tmps)=true
    ·rw[ah a2] at ai⊢;refine .inl (Oper.wp_mono (fun a' w' ⟨v,e,G,E⟩=> ?_) ai);subst e;cases fb with
     |false=>exact aN v w' rfl G E
     |true=>
      rw[ah rfl] at E;obtain⟨b,rfl,a4,a3,E⟩:=E;refine aq _ w' (fun j=>if j=i then b else B j) G (fun j d=>ae d) (p.up _ w' w' _ _ (ar _ _) (fun z _ hz=> ?_) E) (fun _=> ?_)
      ·obtain⟨j,u,x,y⟩:=hz;by_cases s:j=i
       ·exact Or.inr (by rw[y];exact ah s)
       ·exact Or.inl ⟨j,F j s u,x,by rw[y];exact ae s⟩
      ·show Value.pointer (some ⟨b,0,none⟩)=.pointer (some ⟨if i=i then b else B i,0,none⟩)∧w.heap.size≤(if i=i then b else B i)∧(if i=i then b else B i)<w'.heap.size;rw[ah rfl];exact⟨rfl,a4,a3⟩
    ·rw[ae a2] at ai⊢;exact aN undef w ai.2 (ar _ _) ai.1
theorem XP{id:Nat}{w:aaK}(n:Nat)(Φ:List YE)(Fr:List Bool)(hm:P.follows .mixedOrders=true)(hb:vo 0 L=true)(O:sN D.tmps.size L=true)(F:AS n L=true)(I:Nat.ble n L.length=true)(ac:∀i:Nat,Fr[i]? =some true→∃(o:Oper) (d:Nat),(L.take n)[i]? =some o∧o.dst=some d)(N:Yn P L Φ D w Q (L.take n) Φ Fr)
 (hE:∀(f:Nat→aaL) (B:Nat→Nat) w',Below w.heap.size w w'→(∀z,(∃i:Nat,Fr[i]? =some true∧z=B i)→w.heap.size≤z∧z<w'.heap.size)→(∀(i:Nat) (p:YE),Φ[i]? =some p→p.p (f i) w' (fun z=>∃i:Nat,Fr[i]? =some true∧z=B i))→(∀i:Nat,Fr[i]? =some true→f i=.pointer (some ⟨B i,0,none⟩))→(∀i j:Nat,Fr[i]? =some true→Fr[j]? =some true→i≠j→B i≠B j)→mw P L.toArray Q (L.drop n) (xB f (L.take n) 0 D) w'):(Code.region id L.toArray true).wp P Q D w:=by
 have I:=Nat.le_of_ble_eq_true I;have al:(L.take n).length=n:=by rw[gu];omega
 refine wp_region_any hm ?_;refine ZY hb O F I N (fun s w' B listed hB M ab J hD=> ?_) _ _ _ _ (fun _=>0) (by simp) (by rw[Array.toList_replicate,xW];simp) (fun i _ b=>by rw[XQ,ah (by simpa using b)]) (fun j o e r _ _ _=>by rw[XQ] at r;split at r<;>cases r) (ar w.heap.size w).drew ⟨rfl,rfl,fun _ _=>rfl⟩ (fun i b=> ?_) (fun i j b=> ?_)
 ·have af:∀{l:List Oper} {x:List YE} {t:List Bool},Yn P L Φ D w Q l x t→x.length=l.length∧t.length=l.length:=by
   intro l;induction l with
   |nil=>intro x t h;cases x<;>cases t<;>first|exact⟨rfl,rfl⟩|exact h.elim
   |cons o l ih=>intro x t h;cases x<;>cases t<;>first|exact h.elim|(have:=ih h.2;exact⟨by simp[this.1],by simp[this.2]⟩)
  have ai:=af N;have y:∀i:Nat,Fr[i]? =some true→i<n:=fun i b=>by have:=(cH.1 b).1;omega
  have K:∀i:Nat,Fr[i]? =some true→∃(o:Oper) (d:Nat),(L.take n)[i]? =some o∧o.dst=some d∧s.tmps[d]? =some (.pointer (some ⟨B i,0,none⟩))∧w.heap.size≤B i∧B i<w'.heap.size:=fun i b=>by
   obtain⟨o,d,k,m⟩:=ac i b;have W:=y i b;have c:=(J i W).2;unfold YS at c;have G:L[i]? =some o:=by rw[XR W] at k;exact k
   rw[G,b] at c;have u:=c.1;unfold xU at u;rw[m] at u;exact⟨o,d,k,m,u,c.2⟩
  have aa:∀z,z<w'.heap.size→(∃i:Nat,Fr[i]? =some true∧z=B i)→GS Fr listed B z:=fun z _ ⟨i,C,H⟩=>⟨i,ab i (y i C),C,H⟩;obtain⟨vs,hv,Y⟩:=JR (p:=fun i v=>∀(o:Oper) (q:YE),(L.take n)[i]? =some o→Φ[i]? =some q→xU o s v∧q.p v w' (fun z=>∃i:Nat,Fr[i]? =some true∧z=B i)) n fun i b=>by have:=(J i b).1;unfold ZK at this;rw[cA (show i<L.length by omega),cA (show i<Φ.length by omega)] at this;obtain⟨v,k,m⟩:=this;refine⟨v,fun o q E hq=> ?_⟩;rw[XR b,cA (show i<L.length by omega)] at E;rw[cA (show i<Φ.length by omega)] at hq;cases E;cases hq;exact⟨k,YE.up _ _ _ _ _ _ (ar _ _) aa m⟩
  have R:=Es n O;have T:s=eB (L.take n) vs D:=by
   have F:s.tmps=(eB (L.take n) vs D).tmps:=by
    refine Array.ext_getElem? fun d=> ?_;by_cases hex:∃(i:Nat) (o:Oper),(L.take n)[i]? =some o∧o.dst=some d
    ·obtain⟨i,o,k,m⟩:=hex;have b:i<(L.take n).length:=(cH.1 k).1;have A:vs[i]? =some (vs[i]'(by omega)):=cA _
     have c:=(Y i _ A o (Φ[i]'(by omega)) k (cA _)).1
     unfold xU at c;rw[m] at c;rw[AZ R (ag _) k m A];exact c
    ·have X:∀o∈L.take n,o.dst≠some d:=fun o E e=>by obtain⟨i,b⟩:=zP.1 E;exact hex ⟨i,o,b,e⟩
     rw[rF X];exact M.other d X
   have S:s.defers=(eB (L.take n) vs D).defers:=by rw[qO];exact M.defers
   cases s;simp only at F S;rw[F,S]
  have:=hE (fun i=>vs.getD i undef) B w' hB (fun z hz=> ?_) (fun i q hq=> ?_) (fun i b=> ?_) (fun i j b r=> ?_)
  ·rw[←AT (fun i=>vs.getD i undef) (L.take n) vs 0 D (by omega) (fun j v r=>by simp[List.getD_eq_getElem?_getD,r]),←T] at this;exact this
  ·obtain⟨i,C,H⟩:=hz;obtain⟨o,d,_,_,_,Z⟩:=K i C;rw[H];exact Z
  ·have b:i<n:=by have:=(cH.1 hq).1;omega
   have A:vs[i]? =some (vs[i]'(by omega)):=cA _
   rw[List.getD_eq_getElem?_getD,A];exact(Y i _ A ((L.take n)[i]'(by omega)) q (cA _) hq).2
  ·obtain⟨o,d,m,c,G,_⟩:=K i b;have V:i<vs.length:=by have:=y i b;omega
   have u:=AZ (n:=D.tmps.size) (vs:=vs) (a:=D) R (ag _) m c (cA V);rw[←T,G] at u;rw[List.getD_eq_getElem?_getD,cA V];exact(iS u).symm
  ·exact hD i j (y i b) (y j r) b r
 ·rw[XQ] at b;split at b<;>cases b
 ·rw[XQ] at b;split at b<;>cases b
end
end Go.Proofs.YtlemddnecmmfgaaGreatDoor
namespace Go.Proofs.YtlemddnecmmfgaaGreatDoor
open Go.RowKit Go.ChangeShapes Go.WideShapes
theorem ZH:wv (Tryz.prog.underlying 59)=some [(0,9),(1,9)]:=by kernel_rfl
theorem aaf:Tryz.prog.cellsOf 59=2:=by kernel_rfl
theorem ZI:Tryz.prog.cellsOf 24=1:=by kernel_rfl
def Small(fs:List dQ):Prop:=fs.length≤140737488351232∧∀f∈fs,f.1.length≤140737488351232∧f.2.length≤140737488351232
theorem Y2:Tryz.prog.bytesOf 59=32:=by kernel_rfl
section
variable{H:Type}{enc:TypeId×Value→H}{W:World}{sp:Nat→Bool}{held:Bool}
theorem X7{J:Nat}{v:Value}{x:DataW H×List MemPlace}(h:DataW.trod enc Tryz.prog W 0 (fun _=>true) held J 24 [v]=some x)(k:Xw 24 x.1):∃a n c fs,v=.slice a n c∧aZ W (.slice a n c) fs∧Small fs:=by
 rcases Go.Deep.open_slice u24 h with⟨d,s⟩|⟨a,len,cap,ab,n,D,Y,d,_,hl,hm,Q,s,l⟩
 ·simp only[Xy,and_true] at d;exact⟨none,0,0,[],d,.inl ⟨none,0,rfl,rfl⟩,aH _,fun f e=>by cases e⟩
 ·simp only[Xy,and_true] at d;simp only[if_true] at Q;rw[aaf] at l;have key:∀i,i<len→∃f:dQ,W.cell? (a.add (i*2))=some (.string ⟨f.1.toArray⟩)∧W.cell? ((a.add (i*2)).add 1)=some (.string ⟨f.2.toArray⟩)∧f.1.length≤140737488351232∧f.2.length≤140737488351232:=fun i O=>by
   obtain⟨I,L,z⟩:=l i (by omega);obtain⟨_,M,w⟩:=World.cells?_some L;obtain⟨y0,n0,V,C⟩:=wq ZH z 0 0 _ rfl TB;obtain⟨y1,n1,X,E⟩:=wq ZH z 1 1 _ rfl TB
   match I,M with
   |[Z,m],_=>have t:Xw 59 (D i):=Ym u24 (by rw[s] at k;exact k) (qE.2 ⟨i,List.mem_range.2 O,rfl⟩);have F:=C t;have G:=E t;obtain⟨S,A,rfl,z0⟩:=DataW.trod_string u9 V;obtain⟨T,B,rfl,z1⟩:=DataW.trod_string u9 X;simp at A B;subst A;subst B;have u:=w 0 (by omega);have a1:=w 1 (by omega);rw[Addr.add_zero'] at u;exact⟨(S.data.toList,T.data.toList),by simpa using u,by simpa using a1,Xp F,Xp G⟩
  obtain⟨fs,y,r⟩:=YB len key;obtain⟨b,o,spot⟩:=a;have aa:len≤140737488351232:=by have:=X6 u24 (by rw[s] at k;exact k);rw[Y2] at this;simp only[jo,List.length_range,reachBytes] at this;omega
  refine⟨_,_,_,fs,d, ?_,by omega,fun f e=> ?_⟩
  ·by_cases K:len=0
   ·subst K;exact .inl ⟨_,_,rfl,jn y⟩
   ·obtain⟨f,e⟩:∃f,fs[0]? =some f:=⟨fs[0]'(by omega),cA _⟩
    have q:=(r 0 f e).1;have R:spot=none:=by simpa[Addr.add] using World.cell?_spot q
    subst R;rw[F6] at q;refine .inr ⟨b,o,cap,by rw[y],by omega,aV q,fun j g N=> ?_⟩;obtain⟨m,p,_⟩:=r j g N;rw[F6] at m p;rw[F6] at p;exact⟨m,p⟩
  ·obtain⟨i,l⟩:=zP.1 e;exact(r i f l).2.2
end
end Go.Proofs.YtlemddnecmmfgaaGreatDoor
namespace Go.Proofs.YtlemddnecmmfgaaGreatDoor
open Go.RowKit
variable{a:Nat}{d s:aaK}
structure YU (u:U) (t host:aaM) (fs:List dQ) (fZ:List j5):Prop where
 fl:fs.length≤30
 fb:∀(j:Nat) (f:dQ),fs[j]? =some f→f.1.length+f.2.length≤500
 tl:t.size≤2000
 hl:host.size≤500
 ul:u.path.length+u.query.length+u.host.length≤2000
 al:fZ.length≤80
 ab:∀(j:Nat) (g:j5),fZ[j]? =some g→g.body.length≤2000
def Z4(w:aaK)(P:Prop):Ending→aaK→Prop:=fun e w'=>∃b:Bool,e=.returned (.bool b)∧Below w.heap.size w w'∧(b=true→P)
theorem Yh{n:Nat}(h:Below a d s):Below a d (s.drewN n):=⟨h.os,h.tape,h.output,h.size,h.block⟩
theorem XL{O:Obj}(h:d.heap[a]? =some O)(c:Below d.heap.size d s):s.heap[a]? =some O:=(c.block _ (aB.1 h).1).t h
theorem Y1(u:U)(H t:aaM)(I:Int)(a:Option Addr)(c:Nat)(A host:aaM)(C B:Int)(fs:List dQ)(Y:Option Addr)(gc:Nat)(fZ:List j5)(w:aaK)(hF:aZ w (.slice a fs.length c) fs)(N:Small fs)(Z:Xz w Y fZ)(M:ZQ fZ)(E:Z5 u)(ht:t.size≤140737488351232)(hh:host.size≤140737488351232):
 Calls Tryz.prog 6 #[.agg (km u H t I a fs.length c A host C B).toArray,.slice Y fZ.length gc] w (Z4 w (YU u t host fs fZ)):=by
 have hA1:=az w (.cells (km u H t I a fs.length c A host C B).toArray 28);have K:=ad (au w (.cells (km u H t I a fs.length c A host C B).toArray 28));have y:=ad hA1;have S:=ad (aZ.below hF hA1);have Q:=ad (Z.below hA1);have HS:=ad N;have ac:=ad M;have nf:=N.1;have na:=M.1;have av:=E.path;have ay:=E.query;have aN:=E.host;clear hA1 hF Z N M E;go_enter Tryz.func6,Tryz.ntmps6;go_upto_region 1 with fail;generalize w.alloc (.cells (km u H t I a fs.length c A host C B).toArray 28)=W at*;go_wp2_with fail
 go_loopw [5] (fun i wr=>∃(k:Nat),k≤fs.length∧k≤40∧i=.int .i64 k∧Hid (∀(j:Nat) (f:dQ),j<k→fs[j]? =some f→f.1.length+f.2.length≤500)∧Hid (Below W.heap.size W wr)) (fun i _=>fs.length-(intOf i).toNat)
 case atStart=>exact⟨0,aH _,aH _,rfl,ad fun j f h=>absurd h (Nat.not_lt_zero _),ad (ar _ _)⟩
 case round=>
  obtain⟨k,hk,ai,rfl,r,d⟩:=hrel;have V:=aj (XL K.o d.o) 9;by_cases p:k<fs.length∧k<40
  ·obtain⟨p,ap⟩:=p;have x:(k:Int)<(fs.length:Int):=by omega
   have G:(k:Int)<40:=by omega
   have i0:(0:Int)≤(k:Int):=by omega
   obtain⟨f,l⟩:∃f,fs[k]? =some f:=⟨fs[k],cA p⟩;have an:=HS.o.2 f (eQ l);have af:=aZ.below S.o d.o;rcases af with⟨_,_,e,rfl⟩|⟨b,o,c',e,hc,hb,aa⟩
   ·exact absurd p (Nat.not_lt_zero _)
   injection e with D X e3;subst D e3;obtain⟨h1,h2⟩:=aa k f l;have J:=ad l;have D:IntKind.i64.wrap ((f.1.length:Int)+(f.2.length:Int))=(f.1.length:Int)+(f.2.length:Int):=IntWalk.i64_in _ (by omega);clear l aa X;by_cases g:(f.1.length:Int)+(f.2.length:Int)>500
   ·have L:(500:Int)<(f.1.length:Int)+(f.2.length:Int):=g;go_wp2_with fail
    go_quiet (fail)
    go_wp2_with fail;go_ret;exact⟨false,rfl,Yh (y.o.t (d.o.m y.o.size)),fun h=>by cases h⟩
   ·have L:(f.1.length:Int)+(f.2.length:Int)≤500:=by omega
    go_wp2_with fail
    go_quiet (fail)
    go_wp2_with fail;clear D
    go_roundw
    case rel=>exact⟨k+1,by omega,by omega,by go_num,ad (fun j q hj hq=>by
     rcases aaN j k with h|h
     ·exact r.o j q h hq
     ·obtain rfl:j=k:=by omega
      rw[J.o] at hq;injection hq with hq;subst hq;omega),ad (Yh d.o)⟩
    case measure=>(simp[intOf]<;>omega)
  ·have HX:=ad (show fs.length≤30→∀(j:Nat) (f:dQ),fs[j]? =some f→f.1.length+f.2.length≤500 from fun h j f l=>r.o j f (by have:=(cH.1 l).1;omega) l);have O:(fs.length:Int)≤(k:Int)∨((k:Int)<(fs.length:Int)∧(40:Int)≤(k:Int)):=by omega
   have z:=ad (y.o.t (d.o.m y.o.size));have T:=ad (XL K.o d.o);have R:=ad (Q.o.below d.o);clear p r y K Q S hk ai;rcases O with x|⟨x,G⟩;all_goals
    go_wp2_with fail;clear x V;try clear G
    clear d;generalize wr=w1 at*
    go_loopw [6] (fun i wr=>∃(n:Nat),n≤fZ.length∧n≤90∧i=.int .i64 n∧Hid (∀(j:Nat) (g:j5),j<n→fZ[j]? =some g→g.body.length≤2000)∧Hid (Below w1.heap.size w1 wr)) (fun i _=>fZ.length-(intOf i).toNat)
    case atStart=>exact⟨0,aH _,aH _,rfl,ad fun j f h=>absurd h (Nat.not_lt_zero _),ad (ar _ _)⟩
    case round=>
     obtain⟨n,hn,al,rfl,r,d⟩:=hrel;by_cases p:n<fZ.length∧n<90
     ·obtain⟨p,aq⟩:=p;have x:(n:Int)<(fZ.length:Int):=by omega
      have G:(n:Int)<90:=by omega
      have i0:(0:Int)≤(n:Int):=by omega
      obtain⟨g,F⟩:∃g,fZ[n]? =some g:=⟨fZ[n],cA p⟩;have ao:=ac.o.2 g (eQ F);obtain⟨b,o,rfl,hb,h1,-,-⟩:=R.o.below d.o n g F;have J:=ad F;clear F;by_cases q:(g.body.length:Int)>2000
      ·have L:(2000:Int)<(g.body.length:Int):=q;go_wp2_with fail;go_ret;exact⟨false,rfl,z.o.t (d.o.m z.o.size),fun h=>by cases h⟩
      ·have L:(g.body.length:Int)≤2000:=by omega
       go_wp2_with fail
       go_roundw
       case rel=>exact⟨n+1,by omega,by omega,by go_num,ad (fun j q hj hq=>by
        rcases aaN j n with h|h
        ·exact r.o j q h hq
        ·obtain rfl:j=n:=by omega
         rw[J.o] at hq;injection hq with hq;subst hq;omega),d⟩
       case measure=>(simp[intOf]<;>omega)
     ·have HY:=ad (show fZ.length≤80→∀(j:Nat) (g:j5),fZ[j]? =some g→g.body.length≤2000 from fun h j f l=>r.o j f (by have:=(cH.1 l).1;omega) l);have O:(fZ.length:Int)≤(n:Int)∨((n:Int)<(fZ.length:Int)∧(90:Int)≤(n:Int)):=by omega
      have s:=ad (z.o.t (d.o.m z.o.size));have ab:=XL T.o d.o;obtain⟨c1,c3,c4,c7,V,am⟩:=qX6 (aj ab) 1 3 4 7 9 11;have D:IntKind.i64.wrap ((u.path.length:Int)+(u.query.length:Int))=(u.path.length:Int)+(u.query.length:Int):=IntWalk.i64_in _ (by omega);have X:IntKind.i64.wrap ((u.path.length:Int)+(u.query.length:Int)+(u.host.length:Int))=(u.path.length:Int)+(u.query.length:Int)+(u.host.length:Int):=IntWalk.i64_in _ (by omega);clear p r z T R d ab hn al;rcases O with x|⟨x,G⟩;all_goals
       by_cases q1:(fs.length:Int)≤30
       ·by_cases q2:(t.size:Int)≤2000
        ·by_cases q3:(host.size:Int)≤500
         ·by_cases q4:(u.path.length:Int)+(u.query.length:Int)+(u.host.length:Int)≤2000
          ·by_cases q5:(fZ.length:Int)≤80
           ·have HK:=ad (show YU u t host fs fZ from⟨by omega,HX.o (by omega),by omega,by omega,by omega,by omega,HY.o (by omega)⟩);go_wp2_with fail;all_goals (go_ret;exact⟨_,rfl,s.o,fun _=>HK.o⟩)
           ·have q5:(80:Int)<(fZ.length:Int):=by omega
            go_wp2_with fail;all_goals (go_ret;exact⟨_,rfl,s.o,fun h=>by first|cases h|exact absurd (dv h) (by omega)⟩)
          ·have q4:(2000:Int)<(u.path.length:Int)+(u.query.length:Int)+(u.host.length:Int):=by omega
           go_wp2_with fail;all_goals (go_ret;exact⟨_,rfl,s.o,fun h=>by first|cases h|exact absurd (dv h) (by omega)⟩)
         ·have q3:(500:Int)<(host.size:Int):=by omega
          go_wp2_with fail;all_goals (go_ret;exact⟨_,rfl,s.o,fun h=>by first|cases h|exact absurd (dv h) (by omega)⟩)
        ·have q2:(2000:Int)<(t.size:Int):=by omega
         go_wp2_with fail;all_goals (go_ret;exact⟨_,rfl,s.o,fun h=>by first|cases h|exact absurd (dv h) (by omega)⟩)
       ·have q1:(30:Int)<(fs.length:Int):=by omega
        go_wp2_with fail;all_goals (go_ret;exact⟨_,rfl,s.o,fun h=>by first|cases h|exact absurd (dv h) (by omega)⟩)
variable{Z:GM}{Y:List Bool}{x:List Oper}{a k l:Nat}{b:Nat→Prop}{i j:Option Addr}{d s:aaK}
theorem Xq{i:List YE}{a:Act}{o:Oper}(h:∀e∈o.after.toList,Region.binds .any e=true→ZK x i b a d e.on)(k:Nat)(l:(o.after.toList.any fun e=>Region.binds .any e&&e.on==k)=true):ZK x i b a d k:=by obtain⟨e,j,c⟩:=lF.1 l;rw[cW,bZ] at c;rw[←c.2];exact h e j c.1
theorem YV(h:((List.range Y.length).all fun i=> !(Y[i]? ==some true)||((x[i]?).bind (·.dst)).isSome)=true):∀i:Nat,Y[i]? =some true→∃(o:Oper) (d:Nat),x[i]? =some o∧o.dst=some d:=fun i b=>by have:=eV.1 h i (List.mem_range.2 (cH.1 b).1);rw[b] at this;simp only[qS,Bool.not_true,Bool.false_or] at this;obtain⟨d,a⟩:=Option.isSome_iff_exists.1 this;obtain⟨o,c,a⟩:=Option.bind_eq_some_iff.1 a;exact⟨o,d,c,a⟩
theorem XB{W W':aaK}{e:TypeId}{v:aaL}{xs:List aaL}(h:W.ownsRow a e l v k xs)(b:Below W.heap.size W W'):W'.ownsRow a e l v k xs:=bw h fun g c=>b.block g (h.lt g c).2
abbrev ZT(R:GM)(a:Option Addr)(b:Nat)(c:Option Addr)(d:Nat):aaL:=.agg #[.string ⟨R.out.toArray⟩,.bool R.ok,.bool R.done,.slice a R.asked.length b,.int .i64 R.aU,.int .i64 R.work,.slice c R.reads.length d]
structure XS (W:aaK) (R:GM) (qa:Option Addr) (qc:Nat) (ra:Option Addr) (rc:Nat):Prop where
 q:W.ownsRow 0 23 6 (.slice qa R.asked.length qc) R.asked.length (nB R.asked)
 r:W.ownsRow 0 9 1 (.slice ra R.reads.length rc) R.reads.length (cM R.reads)
theorem XS.next{W W':aaK}(h:XS W Z i a j k)(b:Below W.heap.size W W'):XS W' Z i a j k:=⟨XB h.q b,XB h.r b⟩
def XZ(R:GM):YE:=⟨fun v w G=>∃a b c d,v=ZT R a b c d∧XS w R a b c d∧(∀g,(Value.slice a R.asked.length b).ownBlock=some g→¬G g)∧∀g,(Value.slice c R.reads.length d).ownBlock=some g→¬G g,
 fun v w w' G n m i ⟨a,b,c,d,j,e,k,l⟩=>⟨a,b,c,d,j,e.next m,fun g hq h=>k g hq (i g (e.q.lt g hq).2 h),fun g hq h=>l g hq (i g (e.r.lt g hq).2 h)⟩⟩
theorem Zx{v:aaL}(h:Vw d.heap.size s Z v)(j:∀z,b z→z<d.heap.size):(XZ Z).p v s b:=by obtain⟨av,rv,rfl,a,c⟩:=h;obtain⟨k,l,rfl⟩:=aX a;obtain⟨m,n,rfl⟩:=aX c;exact⟨k,l,m,n,rfl,⟨wP a (aH _),wP c (aH _)⟩,fun g e i=>absurd (j g i) (by have:=(a.lt g e).1;omega),fun g e i=>absurd (j g i) (by have:=(c.lt g e).1;omega)⟩
abbrev ZB:Array aaL:=#[.string ⟨#[]⟩,.bool false,.bool false,.slice none 0 0,.int .i64 0,.int .i64 0,.slice none 0 0]
def Yi:YE:=⟨fun v w _=>∃b,v=.pointer (some ⟨b,0,none⟩)∧w.heap[b]? =some (.cells ZB 44),fun v w w' _ _ d _ ⟨b,a,c⟩=>⟨b,a,bz c d⟩⟩
theorem YW{o:Prop}{B:Nat→Nat}{f:Nat→aaL}{i j:Nat}(r:Y[j]? =some true)
 (G:(XZ Z).p (f i) s (fun z=>∃i:Nat,Y[i]? =some true∧z=B i))(H:Yi.p (f j) s (fun z=>∃i:Nat,Y[i]? =some true∧z=B i))(E:∀i:Nat,Y[i]? =some true→f i=.pointer (some ⟨B i,0,none⟩))(F:∀z,(∃i:Nat,Y[i]? =some true∧z=B i)→d.heap.size≤z∧z<s.heap.size)
 (k:∀a c h l b,f i=ZT Z a c h l→f j=.pointer (some ⟨b,0,none⟩)→d.heap.size≤b→s.heap[b]? =some (.cells ZB 44)→XS s Z a c h l→(∀g,(Value.slice a Z.asked.length c).ownBlock=some g→g≠b)→(∀g,(Value.slice h Z.reads.length l).ownBlock=some g→g≠b)→o):o:=by
 obtain⟨a,c,h,l,u,x,y,A⟩:=G;obtain⟨b,q,C⟩:=H;have D:b=B j:=by have:=(E j r).symm.t q;injection this with e;injection e with e;injection e with e;exact e.symm
 have n:∃i:Nat,Y[i]? =some true∧b=B i:=⟨j,r,D⟩;exact k a c h l b u q (F b n).1 C x (fun g m e=>y g m (e▸n)) (fun g m e=>A g m (e▸n))
theorem Yu(z:s.heap[a]? =some (.cells ZB 44))(h:XS s Z i k j l)(p:∀g,(Value.slice i Z.asked.length k).ownBlock=some g→g≠a)(u:∀g,(Value.slice j Z.reads.length l).ownBlock=some g→g≠a)(n:Below d.heap.size d s)(y:d.heap.size≤a){W':aaK}
 (x:W'=((((((s.setCell ⟨a,0,none⟩ (.string ⟨Z.out.toArray⟩)).setCell ⟨a,1,none⟩ (.bool Z.ok)).setCell ⟨a,2,none⟩ (.bool Z.done)).setCell ⟨a,3,none⟩ (.slice i Z.asked.length k)).setCell ⟨a,4,none⟩ (.int .i64 Z.aU)).setCell ⟨a,5,none⟩ (.int .i64 Z.work)).setCell ⟨a,6,none⟩ (.slice j Z.reads.length l)):
 W'.heap[a]? =some (.cells #[.string ⟨Z.out.toArray⟩,.bool Z.ok,.bool Z.done,.slice i Z.asked.length k,.int .i64 Z.aU,.int .i64 Z.work,.slice j Z.reads.length l] 44)∧XS W' Z i k j l∧Below d.heap.size d W':=by
 have o:=kS (.string ⟨Z.out.toArray⟩) (.bool Z.ok) (.bool Z.done) (.slice i Z.asked.length k) (.int .i64 Z.aU) (.int .i64 Z.work) (.slice j Z.reads.length l) z;have m:=jy s a (.string ⟨Z.out.toArray⟩) (.bool Z.ok) (.bool Z.done) (.slice i Z.asked.length k) (.int .i64 Z.aU) (.int .i64 Z.work) (.slice j Z.reads.length l);rw[←x] at o m;exact⟨o,⟨bw h.q fun g c=>m.block g (h.q.lt g c).2 (by intro e;injection e with e;exact p g c e),bw h.r fun g c=>m.block g (h.r.lt g c).2 (by intro e;injection e with e;exact u g c e)⟩,n.t (m.below y n.size)⟩
variable{a:List dQ}{l:Nat}{e d:Option Addr}{z:U}{i:aaK}
theorem ZZ{t host:Bs}{fZ:List j5}(h:YU z ⟨t.toArray⟩ ⟨host.toArray⟩ a fZ)(b:aZ i (.slice e a.length l) a)(c:GL i)(n:Xz i d fZ)(k:Nat):WK i host t a e a.length l d (fZ.take k):=
 ⟨c,b,⟨by have:=h.fl;omega,fun f b=>by obtain⟨j,m⟩:=zP.1 b;have:=h.fb j f m;omega⟩,by have:=h.tl;simp[ByteArray.size] at this;omega,by have:=h.hl;simp[ByteArray.size] at this;omega,by rw[gu];have:=h.al;omega,n.take k,fun g c=>by obtain⟨j,m⟩:=zP.1 (List.mem_of_mem_take c);have:=h.ab j g m;omega⟩
theorem ZS{t host:aaM}{fZ:List j5}(h:YU z t host a fZ):DO z:=by
 have d:=h.ul;by_cases b:z.scheme=my
 ·exact .inl ⟨by rw[b];decide,by omega,by omega,by omega⟩
 by_cases c:z.scheme=ir
 ·exact .inl ⟨by rw[c];decide,by omega,by omega,by omega⟩
 exact .inr ⟨b,c⟩
theorem acw{A:Nat→Prop}{n:Nd}{kc:Nat}(h:fu A i n (wZ n.kind n.place n.text (.slice e n.attrs.length l) (.slice d n.kids.length kc))):∀x,n.kids=[x]→∃g o,d=some ⟨g,o,none⟩∧i.cell? ⟨g,o,none⟩=some (.int .i64 x.kind):=fun x p=>by obtain⟨b,o,a,c,q,r,k,-,-,m⟩:=h.parts.2.get (show n.kids[0]? =some x by rw[p];rfl);have j:=m 0 _ rfl;rw[Nat.zero_mul,qF] at j;exact⟨b,o,k,j⟩
