/- The law's same. -/
import Derived.Test.YtlemddnecmmfgaaGreatDoorKbk
set_option linter.unusedVariables false
set_option maxRecDepth 100000
set_option maxHeartbeats 8000000
namespace Go.Proofs.YtlemddnecmmfgaaGreatDoor
open Go.RowKit
variable{C:Act}
structure YE where
 p:aaL→aaK→(Nat→Prop)→Prop
 up:∀v w w' (G G':Nat→Prop),Below w.heap.size w w'→(∀z,z<w.heap.size→G' z→G z)→p v w G→p v w' G'
def oB.g(p:oB):YE:=⟨fun v w _=>p.p v w,fun v w w' _ _ a _ h=>p.up v w w' a h⟩
def ZK(L:List Oper)(Φ:List YE)(G:Nat→Prop)(a:Act)(w:aaK)(i:Nat):Prop:=
 match L[i]?,Φ[i]? with
 |some o,some p=>∃v,xU o a v∧p.p v w G
 |_,_=>True
def Z0(P:Program)(L:List Oper)(Φ:List YE)(a0:Act)(W:aaK)(Q:Exit→Act→aaK→Prop)(o:Oper)(p:YE)(c:Bool):Prop:=
 ∀a w (G:Nat→Prop),Below W.heap.size W w→pg L a0 a→(∀z,G z→W.heap.size≤z∧z<w.heap.size)→(∀e∈o.after.toList,Region.binds .any e=true→ZK L Φ G a w e.on)→
  if Region.wanted o (yielded L.toArray a.tmps)=true then Oper.wp P o a w (fun d w'=>∃v,d=a.put o.dst v∧Below w.heap.size w w'∧(if c=true then∃b,v=.pointer (some ⟨b,0,none⟩)∧w.heap.size≤b∧b<w'.heap.size∧p.p v w' (fun z=>G z∨z=b) else p.p v w' G)) Q else p.p undef w G∧c=false
def Yn(P:Program)(L:List Oper)(Φ:List YE)(a0:Act)(W:aaK)(Q:Exit→Act→aaK→Prop):List Oper→List YE→List Bool→Prop
 |[],[],[]=>True
 |o::l,p::c,b::a=>Z0 P L Φ a0 W Q o p b∧Yn P L Φ a0 W Q l c a
 |_,_,_=>False
def GS(Fr:List Bool)(listed:Array Bool)(B:Nat→Nat)(z:Nat):Prop:=∃i:Nat,listed[i]? =some true∧Fr[i]? =some true∧z=B i
def YS(W:aaK)(L:List Oper)(Fr:List Bool)(B:Nat→Nat)(a:Act)(w:aaK)(i:Nat):Prop:=
 match L[i]?,Fr[i]? with
 |some o,some true=>xU o a (.pointer (some ⟨B i,0,none⟩))∧W.heap.size≤B i∧B i<w.heap.size
 |_,_=>True
section
variable{P:Program}{L:List Oper}{Φ:List YE}{Fr:List Bool}{a0:Act}{W:aaK}{Q:Exit→Act→aaK→Prop}{n:Nat}
theorem Yo:∀{l:List Oper} {a:List YE} {d:List Bool} {i:Nat} {o:Oper},Yn P L Φ a0 W Q l a d→l[i]? =some o→∃p b,a[i]? =some p∧d[i]? =some b∧Z0 P L Φ a0 W Q o p b
 |[],_,_,_,_,_,h=>by simp at h
 |o::l,[],_,_,_,h,_=>by cases h
 |o::l,p::a,[],_,_,h,_=>by cases h
 |o::l,p::a,b::d,0,j,h,e=>by simp at e;subst e;exact⟨p,b,rfl,rfl,h.1⟩
 |o::l,p::a,b::d,i+1,j,h,e=>by obtain⟨q,c,k,m,n⟩:=Yo h.2 (show l[i]? =some j by simpa using e);exact⟨q,c,by simpa using k,by simpa using m,n⟩
theorem Yy{o b:Oper}{i j:Nat}(k:sN n L=true)(m:L[i]? =some o)(p:L[j]? =some b)(l:j≠i){v v':aaL}(h:xU b C v'):xU b (C.put o.dst v) v':=by
 unfold xU at h⊢;cases c:b.dst with
 |none=>trivial
 |some d=>rw[c] at h;exact(xV (fun e=>l (AY k p m c e))).t h
theorem ZY(hb:vo 0 L=true)(hd:sN a0.tmps.size L=true)(ht:AS n L=true)(hn:n≤L.length)(hU:Yn P L Φ a0 W Q (L.take n) Φ Fr)
 (hE:∀a w (B:Nat→Nat) (listed:Array Bool),Below W.heap.size W w→pg (L.take n) a0 a→(∀i,i<n→listed[i]? =some true)→(∀i,i<n→ZK L Φ (GS Fr listed B) a w i∧YS W L Fr B a w i)→(∀i j,i<n→j<n→Fr[i]? =some true→Fr[j]? =some true→i≠j→B i≠B j)→mw P L.toArray Q (L.drop n) a w):
 ∀(C:Nat) (listed:Array Bool) (a:Act) (w:aaK) (B:Nat→Nat),listed.size=L.length→jB listed.toList≤C→(∀i,n≤i→i<L.length→listed[i]? =some false)→XJ L listed→Below W.heap.size W w→pg (L.take n) a0 a→(∀i,listed[i]? =some true→ZK L Φ (GS Fr listed B) a w i∧YS W L Fr B a w i)→
  (∀i j,listed[i]? =some true→listed[j]? =some true→Fr[i]? =some true→Fr[j]? =some true→i≠j→B i≠B j)→wpAny P .any L.toArray Q C listed a w:=by
 have a8:∀(l:List Bool) (S:Nat),(∀i,S≤i→i<l.length→l[i]? =some false)→l.length-S≤jB l:=by
  intro l;induction l with
  |nil=>intro S _;simp
  |cons b r ih=>
   intro S h;cases S with
   |zero=>have D:=h 0 (ag _) (by simp);simp at D;subst D;have:=ih 0 (fun i _ q=>by simpa using h (i+1) (by omega) (by simpa using q));simp only[jB,cI,bF];omega
   |succ S=>have:=ih S (fun i hm q=>by simpa using h (i+1) (by omega) (by simpa using q));simp only[jB,bF];omega
 intro C;induction C with
 |zero=>
  intro listed a w B I hf ac hC N V M hD;have D:∀i,i<L.length→listed[i]? =some true:=fun i q=>by have:=vp (l:=listed.toList) (by omega) i (by simpa[I] using q);simpa using this
  have br:n=L.length:=by
   by_cases h:n=L.length
   ·exact h
   ·have:=ac n (ag _) (by omega);rw[D n (by omega)] at this;cases this
  refine xS hb ht (L.drop n) n 0 listed a w rfl (ag _) (by rw[bK];omega) I (fun i q=> ?_) (by rw[bK];omega) (hE a w B listed N V (fun i q=>D i (by omega)) (fun i q=>M i (D i (by omega))) fun i j q d=>hD i j (D i (by omega)) (D j (by omega)));rw[D i q,bN (by omega)]
 |succ C ih=>
  intro listed a w B I hf ac hC N V M hD;by_cases O:∀i,i<n→listed[i]? =some true
  ·refine xS hb ht (L.drop n) n (C+1) listed a w rfl (ag _) (by rw[bK];omega) I (fun i q=> ?_) ?_ (hE a w B listed N V O (fun i q=>M i (O i q)) fun i j q d=>hD i j (O i q) (O j d))
   ·by_cases X:i<n
    ·rw[O i X,bN X]
    ·rw[ac i (by omega) q,cL X]
   ·have:=a8 listed.toList n (fun i h1 h2=>by simpa using ac i h1 (by simpa[I] using h2));rw[bK];have h3:listed.toList.length=L.length:=by simpa using I
    omega
  ·refine⟨fun hr=> ?_,fun i q=> ?_⟩
   ·exfalso;refine O fun i=> ?_;induction i using Nat.strongRecOn with
    |ind i bm=>
     intro X;have ab:i<listed.size:=by omega
     cases hv:listed[i] with
     |true=>rw[MM ab,hv]
     |false=>have:=AW hb I (k:=i) (by omega) (by rw[MM ab,hv]) fun j d=>bm j d (by omega);rw[hr] at this;cases this
   ·have X:i<n:=by
     by_cases h:i<n
     ·exact h
     ·exact(O fun j d=>xR ht hC (by omega) q j (by omega)).elim
    obtain⟨h1,o,ho,hw⟩:=mem_ready.1 q;have bp:i<L.length:=by omega
    have Y:L[i]? =some o:=by simpa using ho
    have aU:(L.take n)[i]? =some o:=by rw[XR X];exact Y
    have ab:i<listed.size:=by omega
    have a9:listed[i]? =some false:=by rw[F5,MM ab] at h1;rw[MM ab];simpa using h1
    obtain⟨p,fb,hp,Z,bf⟩:=Yo hU aU;have bi:∀e∈o.after.toList,Region.binds .any e=true→ZK L Φ (GS Fr listed B) a w e.on:=fun e he a5=>by
     have:=hw e (by simpa using he) a5;refine(M e.on ?_).1;rw[F5] at this;cases hv:listed[e.on]? with
     |none=>rw[hv] at this;cases this
     |some b=>rw[hv] at this;simp at this;rw[this]
    have ao:∀j,listed[j]? =some true→Fr[j]? =some true→W.heap.size≤B j∧B j<w.heap.size:=fun j d H=>by
     have y:=(M j d).2;have bd:j<L.length:=by have:=(aB.1 d).1;omega
     unfold YS at y;rw[cA bd,H] at y;exact y.2
    have hG:∀z,GS Fr listed B z→W.heap.size≤z∧z<w.heap.size:=fun z ⟨j,u,x,y⟩=>by rw[y];exact ao j u x
    have ai:=bf a w (GS Fr listed B) N V.wide hG bi;have F:∀j,j≠i→(listed.setIfInBounds i true)[j]? =some true→listed[j]? =some true:=fun j s d=>by rwa [Km (eo s)] at d
    have aq:∀v w' (A:Nat→Nat),Below w.heap.size w w'→(∀j,j≠i→A j=B j)→p.p v w' (GS Fr (listed.setIfInBounds i true) A)→(fb=true→v=.pointer (some ⟨A i,0,none⟩)∧w.heap.size≤A i∧A i<w'.heap.size)→wpAny P .any L.toArray Q C (listed.setIfInBounds i true) (a.put o.dst v) w':=fun v w' A G T E am=>by
     have a1:xU o (a.put o.dst v) v:=by
      unfold xU;cases a7:o.dst with
      |none=>trivial
      |some bn=>exact Er (by have:=G9 hd Y a7;have:=V.size;omega)
     have bk:∀z,z<w.heap.size→GS Fr (listed.setIfInBounds i true) A z→GS Fr listed B z:=fun z hz ⟨j,u,x,y⟩=>by
      by_cases s:j=i
      ·subst s;rw[Z] at x;have bo:=am (iS x);omega
      ·exact⟨j,F j s u,x,by rw[y,T j s]⟩
     have bl:∀j,(listed.setIfInBounds i true)[j]? =some true→ZK L Φ (GS Fr (listed.setIfInBounds i true) A) (a.put o.dst v) w' j:=fun j d=>by
      by_cases s:j=i
      ·subst s;unfold ZK;rw[Y,hp];exact⟨v,a1,E⟩
      ·have R:=(M j (F j s d)).1;unfold ZK at R⊢;cases af:L[j]? with
       |none=>trivial
       |some oj=>
        cases bg:Φ[j]? with
        |none=>trivial
        |some pj=>rw[af,bg] at R;obtain⟨v',J,K⟩:=R;exact⟨v',Yy hd Y af s J,pj.up v' w w' _ _ G bk K⟩
     have bb:∀j,(listed.setIfInBounds i true)[j]? =some true→YS W L Fr A (a.put o.dst v) w' j:=fun j d=>by
      by_cases s:j=i
      ·subst s;unfold YS;rw[Y,Z];cases fb with
       |false=>trivial
       |true=>obtain⟨J,K,u⟩:=am rfl;exact⟨by rw[←J];exact a1,bP N.size K,u⟩
      ·have R:=(M j (F j s d)).2;unfold YS at R⊢;cases af:L[j]? with
       |none=>trivial
       |some oj=>
        cases H:Fr[j]? with
        |none=>trivial
        |some c=>
         cases c with
         |false=>trivial
         |true=>rw[af,H] at R;obtain⟨J,K,u⟩:=R;rw[T j s];exact⟨Yy hd Y af s J,K,ej u G.size⟩
     have a6:jB (listed.setIfInBounds i true).toList≤C:=by have:=xT listed.toList i (by simpa using a9);rw[Array.toList_setIfInBounds];omega
     have be:∀j,n≤j→j<L.length→(listed.setIfInBounds i true)[j]? =some false:=fun j u x=>by rw[Km (by omega)];exact ac j u x
     refine ih _ _ _ A (by simpa using I) a6 be (G8 hC q) (N.t (G.m N.size)) (V.put (eQ aU) v) (fun j d=>⟨bl j d,bb j d⟩) fun j k d hk H al av=> ?_;by_cases aa:j=i
     ·subst aa;have ay:k≠j:=fun e=>av e.symm;rw[Z] at H;have J:=am (iS H);have K:=ao k (F k ay hk) al;rw[T k ay];omega
     ·by_cases an:k=i
      ·subst an;rw[Z] at al;have J:=am (iS al);have K:=ao j (F j aa d) H;rw[T j aa];omega
      ·rw[T j aa,T k an];exact hD j k (F j aa d) (F k an hk) H al av
    have aN:∀v w',fb=false→Below w.heap.size w w'→p.p v w' (GS Fr listed B)→wpAny P .any L.toArray Q C (listed.setIfInBounds i true) (a.put o.dst v) w':=fun v w' ap G E=>by
     refine aq v w' B G (fun _ _=>rfl) (p.up v w' w' _ _ (ar _ _) (fun z _ hz=> ?_) E) (fun h=>by rw[ap] at h;cases h);obtain⟨j,u,x,y⟩:=hz;have s:j≠i:=fun e=>by subst e;rw[Z,ap] at x;cases x
     exact⟨j,F j s u,x,y⟩
    unfold wpOp;simp only[ho];by_cases a2:Region.wanted o (yielded L.toArray a.tmps)=true
    ·rw[ah a2] at ai⊢;refine .inl (Oper.wp_mono (fun a' w' ⟨v,e,G,E⟩=> ?_) ai);subst e;cases fb with
     |false=>exact aN v w' rfl G E
     |true=>
      rw[ah rfl] at E;obtain⟨b,rfl,a4,a3,E⟩:=E;refine aq _ w' (fun j=>if j=i then b else B j) G (fun j d=>ae d) (p.up _ w' w' _ _ (ar _ _) (fun z _ hz=> ?_) E) (fun _=> ?_)
      ·obtain⟨j,u,x,y⟩:=hz;by_cases s:j=i
       ·exact Or.inr (by rw[y];exact ah s)
       ·exact Or.inl ⟨j,F j s u,x,by rw[y];exact ae s⟩
      ·show Value.pointer (some ⟨b,0,none⟩)=.pointer (some ⟨if i=i then b else B i,0,none⟩)∧w.heap.size≤(if i=i then b else B i)∧(if i=i then b else B i)<w'.heap.size;rw[ah rfl];exact⟨rfl,a4,a3⟩
    ·rw[ae a2] at ai⊢;exact aN undef w ai.2 (ar _ _) ai.1
theorem XP{id:Nat}{w:aaK}(n:Nat)(Φ:List YE)(Fr:List Bool)(hm:P.follows .mixedOrders=true)(hb:vo 0 L=true)(O:sN C.tmps.size L=true)(F:AS n L=true)(I:Nat.ble n L.length=true)(ac:∀i:Nat,Fr[i]? =some true→∃(o:Oper) (d:Nat),(L.take n)[i]? =some o∧o.dst=some d)(N:Yn P L Φ C w Q (L.take n) Φ Fr)
 (hE:∀(f:Nat→aaL) (B:Nat→Nat) w',Below w.heap.size w w'→(∀z,(∃i:Nat,Fr[i]? =some true∧z=B i)→w.heap.size≤z∧z<w'.heap.size)→(∀(i:Nat) (p:YE),Φ[i]? =some p→p.p (f i) w' (fun z=>∃i:Nat,Fr[i]? =some true∧z=B i))→(∀i:Nat,Fr[i]? =some true→f i=.pointer (some ⟨B i,0,none⟩))→(∀i j:Nat,Fr[i]? =some true→Fr[j]? =some true→i≠j→B i≠B j)→mw P L.toArray Q (L.drop n) (xB f (L.take n) 0 C) w'):(Code.region id L.toArray true).wp P Q C w:=by
 have I:=Nat.le_of_ble_eq_true I;have al:(L.take n).length=n:=by rw[gu];omega
 refine wp_region_any hm ?_;refine ZY hb O F I N (fun s w' B listed hB M ab J hD=> ?_) _ _ _ _ (fun _=>0) (by simp) (by rw[Array.toList_replicate,xW];simp) (fun i _ b=>by rw[XQ,ah (by simpa using b)]) (fun j o e r _ _ _=>by rw[XQ] at r;split at r<;>cases r) (ar w.heap.size w).drew ⟨rfl,rfl,fun _ _=>rfl⟩ (fun i b=> ?_) (fun i j b=> ?_)
 ·have af:∀{l:List Oper} {x:List YE} {t:List Bool},Yn P L Φ C w Q l x t→x.length=l.length∧t.length=l.length:=by
   intro l;induction l with
   |nil=>intro x t h;cases x<;>cases t<;>first|exact⟨rfl,rfl⟩|exact h.elim
   |cons o l ih=>intro x t h;cases x<;>cases t<;>first|exact h.elim|(have:=ih h.2;exact⟨by simp[this.1],by simp[this.2]⟩)
  have ai:=af N;have y:∀i:Nat,Fr[i]? =some true→i<n:=fun i b=>by have:=(cH.1 b).1;omega
  have K:∀i:Nat,Fr[i]? =some true→∃(o:Oper) (d:Nat),(L.take n)[i]? =some o∧o.dst=some d∧s.tmps[d]? =some (.pointer (some ⟨B i,0,none⟩))∧w.heap.size≤B i∧B i<w'.heap.size:=fun i b=>by
   obtain⟨o,d,k,m⟩:=ac i b;have W:=y i b;have c:=(J i W).2;unfold YS at c;have G:L[i]? =some o:=by rw[XR W] at k;exact k
   rw[G,b] at c;have u:=c.1;unfold xU at u;rw[m] at u;exact⟨o,d,k,m,u,c.2⟩
  have aa:∀z,z<w'.heap.size→(∃i:Nat,Fr[i]? =some true∧z=B i)→GS Fr listed B z:=fun z _ ⟨i,D,H⟩=>⟨i,ab i (y i D),D,H⟩;obtain⟨vs,hv,Y⟩:=JR (p:=fun i v=>∀(o:Oper) (q:YE),(L.take n)[i]? =some o→Φ[i]? =some q→xU o s v∧q.p v w' (fun z=>∃i:Nat,Fr[i]? =some true∧z=B i)) n fun i b=>by have:=(J i b).1;unfold ZK at this;rw[cA (show i<L.length by omega),cA (show i<Φ.length by omega)] at this;obtain⟨v,k,m⟩:=this;refine⟨v,fun o q E hq=> ?_⟩;rw[XR b,cA (show i<L.length by omega)] at E;rw[cA (show i<Φ.length by omega)] at hq;cases E;cases hq;exact⟨k,YE.up _ _ _ _ _ _ (ar _ _) aa m⟩
  have R:=Es n O;have T:s=eB (L.take n) vs C:=by
   have F:s.tmps=(eB (L.take n) vs C).tmps:=by
    refine Array.ext_getElem? fun d=> ?_;by_cases hex:∃(i:Nat) (o:Oper),(L.take n)[i]? =some o∧o.dst=some d
    ·obtain⟨i,o,k,m⟩:=hex;have b:i<(L.take n).length:=(cH.1 k).1;have A:vs[i]? =some (vs[i]'(by omega)):=cA _
     have c:=(Y i _ A o (Φ[i]'(by omega)) k (cA _)).1
     unfold xU at c;rw[m] at c;rw[AZ R (ag _) k m A];exact c
    ·have X:∀o∈L.take n,o.dst≠some d:=fun o E e=>by obtain⟨i,b⟩:=zP.1 E;exact hex ⟨i,o,b,e⟩
     rw[rF X];exact M.other d X
   have S:s.defers=(eB (L.take n) vs C).defers:=by rw[qO];exact M.defers
   cases s;simp only at F S;rw[F,S]
  have:=hE (fun i=>vs.getD i undef) B w' hB (fun z hz=> ?_) (fun i q hq=> ?_) (fun i b=> ?_) (fun i j b r=> ?_)
  ·rw[←AT (fun i=>vs.getD i undef) (L.take n) vs 0 C (by omega) (fun j v r=>by simp[List.getD_eq_getElem?_getD,r]),←T] at this;exact this
  ·obtain⟨i,D,H⟩:=hz;obtain⟨o,d,_,_,_,Z⟩:=K i D;rw[H];exact Z
  ·have b:i<n:=by have:=(cH.1 hq).1;omega
   have A:vs[i]? =some (vs[i]'(by omega)):=cA _
   rw[List.getD_eq_getElem?_getD,A];exact(Y i _ A ((L.take n)[i]'(by omega)) q (cA _) hq).2
  ·obtain⟨o,d,m,c,G,_⟩:=K i b;have V:i<vs.length:=by have:=y i b;omega
   have u:=AZ (n:=C.tmps.size) (vs:=vs) (a:=C) R (ag _) m c (cA V);rw[←T,G] at u;rw[List.getD_eq_getElem?_getD,cA V];exact(iS u).symm
  ·exact hD i j (y i b) (y j r) b r
 ·rw[XQ] at b;split at b<;>cases b
 ·rw[XQ] at b;split at b<;>cases b
end
variable{X:GM}{W:List Bool}{d:List Oper}{a k p:Nat}{b:Nat→Prop}{i j:Option Addr}{l n:aaK}
theorem Xq{i:List YE}{a:Act}{o:Oper}(h:∀e∈o.after.toList,Region.binds .any e=true→ZK d i b a l e.on)(k:Nat)(m:(o.after.toList.any fun e=>Region.binds .any e&&e.on==k)=true):ZK d i b a l k:=by obtain⟨e,j,c⟩:=lF.1 m;rw[cW,bZ] at c;rw[←c.2];exact h e j c.1
theorem YV(h:((List.range W.length).all fun i=> !(W[i]? ==some true)||((d[i]?).bind (·.dst)).isSome)=true):∀i:Nat,W[i]? =some true→∃(o:Oper) (a:Nat),d[i]? =some o∧o.dst=some a:=fun i c=>by have:=eV.1 h i (List.mem_range.2 (cH.1 c).1);rw[c] at this;simp only[qS,Bool.not_true,Bool.false_or] at this;obtain⟨a,b⟩:=Option.isSome_iff_exists.1 this;obtain⟨o,e,b⟩:=Option.bind_eq_some_iff.1 b;exact⟨o,a,e,b⟩
theorem XB{W W':aaK}{e:TypeId}{v:aaL}{xs:List aaL}(h:W.ownsRow a e p v k xs)(b:Below W.heap.size W W'):W'.ownsRow a e p v k xs:=bw h fun g c=>b.block g (h.lt g c).2
abbrev ZT(R:GM)(a:Option Addr)(b:Nat)(c:Option Addr)(d:Nat):aaL:=.agg #[.string ⟨R.out.toArray⟩,.bool R.ok,.bool R.done,.slice a R.asked.length b,.int .i64 R.aU,.int .i64 R.work,.slice c R.reads.length d]
structure XS (W:aaK) (R:GM) (qa:Option Addr) (qc:Nat) (ra:Option Addr) (rc:Nat):Prop where
 q:W.ownsRow 0 23 6 (.slice qa R.asked.length qc) R.asked.length (nB R.asked)
 r:W.ownsRow 0 9 1 (.slice ra R.reads.length rc) R.reads.length (cM R.reads)
theorem XS.next{W W':aaK}(h:XS W X i a j k)(b:Below W.heap.size W W'):XS W' X i a j k:=⟨XB h.q b,XB h.r b⟩
def XZ(R:GM):YE:=⟨fun v w G=>∃a b c d,v=ZT R a b c d∧XS w R a b c d∧(∀g,(Value.slice a R.asked.length b).ownBlock=some g→¬G g)∧∀g,(Value.slice c R.reads.length d).ownBlock=some g→¬G g,
 fun v w w' G n m i ⟨a,b,c,d,j,e,k,l⟩=>⟨a,b,c,d,j,e.next m,fun g hq h=>k g hq (i g (e.q.lt g hq).2 h),fun g hq h=>l g hq (i g (e.r.lt g hq).2 h)⟩⟩
theorem Zx{v:aaL}(h:Vw l.heap.size n X v)(i:∀z,b z→z<l.heap.size):(XZ X).p v n b:=by obtain⟨av,rv,rfl,a,c⟩:=h;obtain⟨j,k,rfl⟩:=aX a;obtain⟨m,o,rfl⟩:=aX c;exact⟨j,k,m,o,rfl,⟨wP a (aH _),wP c (aH _)⟩,fun g d e=>absurd (i g e) (by have:=(a.lt g d).1;omega),fun g d e=>absurd (i g e) (by have:=(c.lt g d).1;omega)⟩
abbrev ZB:Array aaL:=#[.string ⟨#[]⟩,.bool false,.bool false,.slice none 0 0,.int .i64 0,.int .i64 0,.slice none 0 0]
def Yi:YE:=⟨fun v w _=>∃b,v=.pointer (some ⟨b,0,none⟩)∧w.heap[b]? =some (.cells ZB 44),fun v w w' _ _ d _ ⟨b,a,c⟩=>⟨b,a,bz c d⟩⟩
theorem YW{q:Prop}{B:Nat→Nat}{f:Nat→aaL}{i j:Nat}(s:W[j]? =some true)
 (G:(XZ X).p (f i) n (fun z=>∃i:Nat,W[i]? =some true∧z=B i))(H:Yi.p (f j) n (fun z=>∃i:Nat,W[i]? =some true∧z=B i))(E:∀i:Nat,W[i]? =some true→f i=.pointer (some ⟨B i,0,none⟩))(F:∀z,(∃i:Nat,W[i]? =some true∧z=B i)→l.heap.size≤z∧z<n.heap.size)
 (k:∀a c d h b,f i=ZT X a c d h→f j=.pointer (some ⟨b,0,none⟩)→l.heap.size≤b→n.heap[b]? =some (.cells ZB 44)→XS n X a c d h→(∀g,(Value.slice a X.asked.length c).ownBlock=some g→g≠b)→(∀g,(Value.slice d X.reads.length h).ownBlock=some g→g≠b)→q):q:=by
 obtain⟨a,c,d,h,u,x,y,A⟩:=G;obtain⟨b,r,C⟩:=H;have D:b=B j:=by have:=(E j s).symm.t r;injection this with e;injection e with e;injection e with e;exact e.symm
 have o:∃i:Nat,W[i]? =some true∧b=B i:=⟨j,s,D⟩;exact k a c d h b u r (F b o).1 C x (fun g m e=>y g m (e▸o)) (fun g m e=>A g m (e▸o))
theorem Yu(z:n.heap[a]? =some (.cells ZB 44))(d:XS n X i k j p)(s:∀g,(Value.slice i X.asked.length k).ownBlock=some g→g≠a)(u:∀g,(Value.slice j X.reads.length p).ownBlock=some g→g≠a)(m:Below l.heap.size l n)(y:l.heap.size≤a){W':aaK}
 (x:W'=((((((n.setCell ⟨a,0,none⟩ (.string ⟨X.out.toArray⟩)).setCell ⟨a,1,none⟩ (.bool X.ok)).setCell ⟨a,2,none⟩ (.bool X.done)).setCell ⟨a,3,none⟩ (.slice i X.asked.length k)).setCell ⟨a,4,none⟩ (.int .i64 X.aU)).setCell ⟨a,5,none⟩ (.int .i64 X.work)).setCell ⟨a,6,none⟩ (.slice j X.reads.length p)):
 W'.heap[a]? =some (.cells #[.string ⟨X.out.toArray⟩,.bool X.ok,.bool X.done,.slice i X.asked.length k,.int .i64 X.aU,.int .i64 X.work,.slice j X.reads.length p] 44)∧XS W' X i k j p∧Below l.heap.size l W':=by
 have o:=kS (.string ⟨X.out.toArray⟩) (.bool X.ok) (.bool X.done) (.slice i X.asked.length k) (.int .i64 X.aU) (.int .i64 X.work) (.slice j X.reads.length p) z;have h:=jy n a (.string ⟨X.out.toArray⟩) (.bool X.ok) (.bool X.done) (.slice i X.asked.length k) (.int .i64 X.aU) (.int .i64 X.work) (.slice j X.reads.length p);rw[←x] at o h;exact⟨o,⟨bw d.q fun g c=>h.block g (d.q.lt g c).2 (by intro e;injection e with e;exact s g c e),bw d.r fun g c=>h.block g (d.r.lt g c).2 (by intro e;injection e with e;exact u g c e)⟩,m.t (h.below y m.size)⟩
end Go.Proofs.YtlemddnecmmfgaaGreatDoor
namespace Go.Proofs.YtlemddnecmmfgaaGreatDoor
open Go.Lib
section
variable{L:List Bs}{E E':fx}
end
theorem Yv(r:PS×Oc):(N6 r).reads=r.1.reads:=by unfold N6;split<;>rfl
end Go.Proofs.YtlemddnecmmfgaaGreatDoor
namespace Go.Proofs.YtlemddnecmmfgaaGreatDoor
open Go.RowKit
variable{b I:Cm}{z:Deep}{w:List bQ}{N:fx}
def YD(l:List Bs):Prop:=∀x∈l,x.length≤100016
theorem YN:∀(n:Bs),(RX n).length≤16:=fun n=>by
 unfold RX;cases h:Tz.find? (·.1==n) with
 |none=>exact aH _
 |some x=>exact(show∀y∈Tz,y.2.length≤16 by decide) x (List.mem_of_find?_eq_some h)
theorem YA(name key:Bs)(has:Bool)(a:key.length≤100000):(eT name key has).length≤100016:=by
 unfold eT;cases RX name==bA&&has
 ·exact bP (YN name) (by decide)
 ·show(bA++[46]++key).length≤_;rw[bB];show 7+key.length≤_;omega
theorem Yj(b:List (Bs×Bs×Bool))(c:∀u∈b,u.2.1.length≤100000):∀l,YD l→YD (gh l b):=by
 induction b with
 |nil=>exact fun l h=>h
 |cons u r e=>
  intro l h;refine e (fun v d=>c v (by simp[d])) (lQ l (eT u.1 u.2.1 u.2.2)) ?_;unfold lQ;split
  ·exact h
  ·intro x a;rcases gZ.1 a with a|a
   ·exact h x a
   ·rw[fj.1 a];exact YA _ _ _ (c u (by simp))
theorem Yk(s:Bs):∀k i,∀u∈mQ s k i,u.key.length≤64
 |0,i,u,h=>by cases h
 |k+1,i,u,h=>by
  unfold mQ at h;cases a:cv s i with
  |none=>rw[a] at h;cases h
  |some v=>
   rw[a] at h;rcases bL.1 h with rfl|h
   ·exact Found.key (Found.of a)
   ·exact Yk s k _ u h
theorem X4(s:Bs):∀u∈dd s,u.2.1.length≤100000:=fun u h=>by unfold dd mT at h;obtain⟨v,a,rfl⟩:=qE.1 h;exact bP (Yk s _ _ v a) (by decide)
def XA(c:Cm):Prop:=∀S a,YD S.reads→YD (c S a).1.reads
theorem XA.seq(i:XA b)(j:XA I):XA (K9 b I):=fun S a k=>by
 have e:=i S a k;unfold K9;revert e;obtain⟨h,o⟩:=b S a;cases o with
 |yes t=>intro e;have l:=j h (a+t.length) e;revert l;dsimp only;obtain⟨m,o2⟩:=I h (a+t.length);cases o2<;>exact id
 |no=>exact id
 |wait=>exact id
theorem XA.Tu(i:XA b)(j:XA I):XA (RE b I):=fun S a k=>by
 have e:=i S a k;unfold RE Au;revert e;obtain⟨h,o⟩:=b S a;cases o with
 |yes t=>exact id
 |no=>exact fun e=>j h a e
 |wait=>exact id
theorem XA.step{c:Cm}(h:XA c):XA (fun S a=>c S.step a):=fun S a b=>h S.step a b
theorem XA.same(o:PS→Nat→Oc):XA (fun S a=>(S,o S a)):=fun S a b=>b
theorem ZU(P:fx)(vs:Bool)(t:Bs):XA (fun S a=>lS P vs t S a):=fun S a c=>by
 show YD (lS P vs t S a).1.reads;have b:YD (S.read (dd t)).reads:=Yj _ (X4 t) _ c;unfold lS;split
 ·exact c
 ·split
  ·exact b
  ·exact b
theorem Z6{base:U}{a:List bQ}{t:Bs}:XA (fun S _=>(lV base a t S,.yes [])):=fun S n b=>by
 show YD (lV base a t S).reads;unfold lV;split
 ·exact b
 ·exact b
def RdD(deep:Deep):Prop:=∀f,deep=some f→∀u b,(gW b).2.2=0→XA (fun S a=>f u (gW b).1 S a)
theorem ZC{f:U→Nd→PS→Nat→PS×Oc}(d:∀u b,(gW b).2.2=0→XA (fun S a=>f u (gW b).1 S a))(u:U)(g:j5):XA (fun S a=>zx f u S a g):=fun S a c=>by
 show YD (zx f u S a g).1.reads;unfold zx;split
 ·exact c
 split
 ·exact c
 split
 ·exact c
 ·rename_i h;exact d u g.body (Decidable.of_not_not h) S a c
theorem ZD(c:RdD z)(base:U)(s:Bs):XA (fun S a=>gB N z base S a s):=fun S a d=>by
 show YD (gB N z base S a s).1.reads;have b:YD (S.read (dd s)).reads:=Yj _ (X4 s) _ d;unfold gB;dsimp only;generalize S.read (dd s)=e at b⊢;split
 ·exact b
 split
 ·exact b
 split
 ·exact b
 rename_i f;unfold zw;split
 ·exact ZC (c f rfl) _ _ _ a b
 ·split
  ·exact b
  ·exact ZC (c f rfl) _ _ _ a b
theorem ZE(b:RdD z)(base:U)(o:Option Bs):XA (fun S a=>DQ N z base S a o):=by
 cases o with
 |none=>exact XA.same (fun _ _=>.no)
 |some s=>exact ZD b base s
theorem ZV(b:RdD z)(base:U)(l:List bQ):XA (fun S a=>oQ N z base l S a):=by rw[B6];exact(ZE b base _).Tu ((ZE b base _).Tu (XA.same fun _ _=>if(bG l dj).isSome then .yes [] else .no))
theorem YO(h:∀x∈w,x.val.length≤65536)(nm:Bs):((bG w nm).getD []).length≤100000:=by
 induction w with
 |nil=>exact aH _
 |cons a r c=>
  rw[nF];split
  ·exact bP (h a (by simp)) (by decide)
  ·exact c fun x b=>h x (by simp[b])
theorem ZW(o:∀x∈w,x.val.length≤65536)(m:XA b)(e:XA I):XA (AA N w b I):=fun S a i=>by
 unfold AA;by_cases h:(gd w).2.2≠0
 ·rw[ah h];exact e _ _ i
 ·rw[ae h];have n:∀u∈cT (bt (gr N.h N.t N.fs) (gd w).1).2,u.2.1.length≤100000:=fun u k=>by unfold cT at k;obtain⟨v,p,rfl⟩:=qE.1 k;exact KY _ _ (K1 _ (YO o gT)) v p
  have j:YD (S.step.read (cT (bt (gr N.h N.t N.fs) (gd w).1).2)).reads:=Yj _ n _ i;split
  ·exact m _ _ j
  ·exact e _ _ j
theorem YX(G:RdD z)(base:U)(n:Nd):sy n→(∀vs,XA (fun S a=>bT N z base n vs S a))∧∀vs,XA (fun S a=>oT N z base n vs S a):=by
 refine Nd.ind (P:=fun n=>sy n→(∀vs,XA (fun S a=>bT N z base n vs S a))∧∀vs,XA (fun S a=>oT N z base n vs S a)) (fun k p t a l E D=> ?_) n;rw[sy] at D;obtain⟨-,-,-,-,-,j⟩:=D;have c:∀x,x∈l→(∀vs,XA (fun S a=>bT N z base x vs S a))∧∀vs,XA (fun S a=>oT N z base x vs S a):=fun x d=>E x d (j.get d);have i:∀x,x∈l→∀y∈x.attrs,y.val.length≤65536:=fun x d=>by have:=j.get d;obtain⟨k,p,t,a,l⟩:=x;rw[sy] at this;exact this.2.2.1
 clear E j;have e:∀vs,XA (fun S a=>dJ N z base l vs S a):=fun vs=>by
  clear i;induction l with
  |nil=>simp only[AB];exact XA.same (fun _ _=>.yes [])
  |cons x r m=>rw[rm];exact((c x (by simp)).1 vs).seq (m fun y b=>c y (by simp[b]))
 have B:∀(l:List Nd) vs,(∀x,x∈l→∀vs,XA (fun S a=>bT N z base x vs S a))→XA (fun S a=>qJ N z base l vs S a):=fun l vs h=>by
  cases l with
  |nil=>simp only[AD];exact XA.same (fun _ _=>.no)
  |cons x r=>simp only[xC];exact h x (by simp) vs
 have C:∀vs,XA (fun S a=>ot N z base l vs S a):=fun vs=>by
  cases l with
  |nil=>simp only[AE];exact XA.same (fun _ _=>.no)
  |cons x r=>rw[rp];exact((c x (by simp)).1 vs).Tu (B r vs fun y b=>(c y (by simp[b])).1)
 have F:∀vs,XA (fun S a=>eK N z base l vs S a):=fun vs=>by
  clear e C B;induction l with
  |nil=>simp only[AF];exact XA.same (fun _ _=>.yes [])
  |cons x r m=>
   have H:=m (fun y b=>c y (by simp[b])) (fun y b=>i y (by simp[b]));by_cases h:x.kind=12
   ·simp only[vf _ _ _ x r vs h];exact(c x (by simp)).1 vs
   ·rw[rq _ _ _ x r vs h];exact ZW (i x (by simp)) ((c x (by simp)).2 vs) H
 refine⟨fun vs=> ?_,fun vs=>by simp only[xx];exact e vs⟩;simp only[xy];by_cases q:k=2
 ·simp only[ah q];exact(ZU N vs t).step
 simp only[ae q];by_cases u:k=4
 ·simp only[ah u];exact(Z6 (base:=base) (a:=a) (t:=t)).step
 simp only[ae u];by_cases w:k=5∨k=6
 ·simp only[ah w];exact(XA.same (fun _ _=>.yes [])).step
 simp only[ae w];by_cases s:k=3
 ·simp only[ah s];exact(ZV G base a).step
 simp only[ae s];by_cases A:k=7
 ·simp only[ah A];exact(C vs).step
 simp only[ae A];by_cases o:k=10
 ·simp only[ah o];exact(F vs).step
 simp only[ae o];exact(e _).step
theorem ZF(P:fx):∀d,RdD (rl P d)
 |0=>fun f h=>by cases h
 |d+1=>fun f h u b a=>by injection h with h;subst h;exact(YX (ZF P d) u _ (sA a).1).1 false
theorem YM(P:fx)(d:Nat)(base:U)(n:Nd)(a:sy n):YD (qK P d base n).reads:=by
 unfold qK;split
 ·rw[Yv];exact(YX (ZF P d) base n a).1 false N8 0 (fun x h=>by cases h)
 ·intro x h;cases h
theorem Zw(P:fx)(d:Nat)(base:U)(n:Nd)(a:sy n)(c:wN n≤20000000)(b:P.inc≤64):(qK P d base n).reads.length≤90000000:=by
 unfold qK;split
 ·rw[Yv];have:=((Uh P d base).room n a false N8 0 0 ⟨by show 0+(wN n+0)+(P.inc-0)*ie≤_;unfold ie;omega,by show 0+(wN n+0)+(P.inc-0)*ie≤_;unfold ie;omega,fun x h=>(by cases h),aH _,aH _⟩).reads;omega
 ·exact aH _
theorem YI(ls:List Bs)(h:YD ls):Lib.lens ls≤100016*ls.length:=by
 induction ls with
 |nil=>simp[Lib.lens]
 |cons l ls c=>have d:=h l (by simp);have a:=c fun x b=>h x (by simp[b]);unfold Lib.lens at a⊢;simp only[kg,List.sum_cons,bF];omega
theorem YJ{ls:List Bs}(h:YD ls)(a:ls.length≤90000000):(Lib.join ls [32]).length≤140737488355328:=by
 cases ls with
 |nil=>simp[Lib.join_nil]
 |cons x r=>rw[Lib.join_length];have:=YI (x::r) h;simp only[bF] at a this;have b:([32]:Bs).length*r.length=r.length:=Nat.one_mul _;omega
theorem Yt(v:aaL)(ls:List Bs)(w:aaK)(h:cg w v ls)(i:ls.length≤90000000)(r:YD ls):
 Calls Tryz.prog 26 #[v,.string ⟨#[32]⟩] w (cN w (.string ⟨(Lib.join ls [32]).toArray⟩)):=by
 rcases h with⟨a,c,rfl,rfl⟩|⟨b,o,c,rfl,k,q,n⟩
 ·refine(Tryz.strings_Join_none a c ⟨#[32]⟩ w).m ?_;rintro e w'⟨rfl,rfl⟩;exact⟨rfl,ar _ _⟩
 ·have d:((ls.map fun l=>(⟨l.toArray⟩:aaM)).map (·.data.toList))=ls:=by rw[List.map_map];exact List.map_id' ls
  have p:=YJ r i;have:=Tryz.strings_Join b o c (ls.map fun l=>(⟨l.toArray⟩:aaM)) ⟨#[32]⟩ w (fun j x d=>by rw[uI] at d;obtain⟨l,i,rfl⟩:=qG.1 d;exact n j l i) q (by rw[jo];omega) (by rw[jo];exact k) (by rw[d];exact p)
  rw[d,jo] at this;exact this
theorem YK(R:GM)(L:R.asked.length≤1000000)(x:R.reads.length≤90000000)(y:YD R.reads)(w:aaK)(b1 b2:Nat)(v1 v2:aaL)(T:Vw b1 w R v1)(V:Vw b2 w R v2):
 Calls Tryz.prog 12 #[v1,v2] w (cN w (.bool true)):=by
 obtain⟨av,rv,rfl,p,q⟩:=T;obtain⟨X,aa,rfl,r,s⟩:=V;obtain⟨z,C,rfl⟩:=aX p;obtain⟨E,G,rfl⟩:=aX q;obtain⟨A,D,rfl⟩:=aX r;obtain⟨F,H,rfl⟩:=aX s;obtain⟨out,ok,done,asked,aU,work,reads⟩:=R;have j:=ad (jG w (.cells #[.string ⟨out.toArray⟩,.bool ok,.bool done,.slice z asked.length C,.int .i64 aU,.int .i64 work,.slice E reads.length G] 44) (.cells #[.string ⟨out.toArray⟩,.bool ok,.bool done,.slice A asked.length D,.int .i64 aU,.int .i64 work,.slice F reads.length H] 44));have I:=ad (fun(W:aaK) (d:Below w.heap.size w W)=>X2 asked asked asked.length rfl (ag _) (fun i u h=>h) L z A C D W b1 b2 (XB p d) (XB r d));have k:=ad (fun(W:aaK) (d:Below w.heap.size w W)=>Yt _ reads W (cg.wO (XB q d)) x y);have l:=ad (fun(W:aaK) (d:Below w.heap.size w W)=>Yt _ reads W (cg.wO (XB s d)) x y);obtain⟨J,K⟩:∃J,Lib.join reads [32]=J:=⟨_,rfl⟩;rw[K] at k l;clear p q r s y K;dsimp only at L x;go_enter Tryz.func12,Tryz.ntmps12;go_upto_region 1 with fail;generalize((w.alloc (.cells #[.string ⟨out.toArray⟩,.bool ok,.bool done,.slice z asked.length C,.int .i64 aU,.int .i64 work,.slice E reads.length G] 44)).alloc (.cells #[.string ⟨out.toArray⟩,.bool ok,.bool done,.slice A asked.length D,.int .i64 aU,.int .i64 work,.slice F reads.length H] 44))=W0 at*;have b:=ad j.o.below;have N:=ad j.o.b1;have O:=ad j.o.b2;have M:=ad (fun B:BW W0=>I.o B.val (b.o.t (B.below.m b.o.size)));have S:Hid (∀(B:BW W0) (a:Option Addr) (c:Nat),(a=E∧c=G)∨(a=F∧c=H)→Calls Tryz.prog 26 #[.slice a reads.length c,.string ⟨#[32]⟩] B.val (cN B.val (.string ⟨J.toArray⟩))):=ad (fun B a c h=>by
  rcases h with⟨rfl,rfl⟩|⟨rfl,rfl⟩
  ·exact k.o B.val (b.o.t (B.below.m b.o.size))
  ·exact l.o B.val (b.o.t (B.below.m b.o.size)))
 obtain⟨Y,Z,p2,p3,p4,p5,p6⟩:=qX7 (bwX N.o) 0 1 2 3 4 5 6;obtain⟨r0,r1,r2,r3,r4,r5,r6⟩:=qX7 (bwX O.o) 0 1 2 3 4 5 6
 haveI:Nonempty (BW W0):=⟨⟨W0,ar _ _⟩⟩
 clear j I k l;refine aY 52 (fun B:BW W0=>B.val) ⟨W0.drew,cw (ar _ _)⟩ rfl (by kernel_rfl) (by rfl) (by rfl) (by kernel_rfl) (by kernel_rfl) (by kernel_rfl) ?_;simp only[ki,kL];repeat(quiet_step ((first
  |(go_at_call 13;refine(M.o _).m ?_;rintro e v1⟨rfl,n⟩;exact⟨rfl,⟨v1,BW.next _ n⟩,rfl⟩)
  |(go_at_call 26;refine(S.o _ _ _ (by first|exact .inl ⟨rfl,rfl⟩|exact .inr ⟨rfl,rfl⟩)).m ?_;rintro e v1⟨rfl,n⟩;exact⟨rfl,⟨v1,BW.next _ n⟩,rfl⟩))))
 refine wpQuiet_nil ?_;rintro w'⟨B,rfl⟩;rw[ah (by rfl)];have Q:=ad (b.o.t (B.below.m b.o.size));go_simp;go_wp2_with fail;go_ret;exact⟨rfl,Q.o⟩
