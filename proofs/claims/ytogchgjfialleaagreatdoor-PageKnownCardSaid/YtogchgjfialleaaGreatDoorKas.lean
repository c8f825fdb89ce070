/- The parser at work: what is wrong so far; the walk of hide. -/
import Derived.Test.YtogchgjfialleaaGreatDoorKar
set_option linter.unusedVariables false
set_option maxRecDepth 100000
set_option maxHeartbeats 4000000
namespace Go.Proofs.YtogchgjfialleaaGreatDoor
open Go.RowKit
theorem Gc(n:Nd)(q:MH n)(A:Nat→Prop)(w:World)(v:Value)(p:Good w)(m:fu A w n v):Calls Tryz.prog 17 #[v] w (cN w (.int .i64 (xe n))):=by
 obtain⟨aa,ac,ka,kc,rfl,s,t⟩:=m.shape;have h:=az w (.cells (eH n.kind n.place n.text (.slice aa n.attrs.length ac) (.slice ka n.kids.length kc)).toArray 45);have i:=ad h;have b:=ad (au w (.cells (eH n.kind n.place n.text (.slice aa n.attrs.length ac) (.slice ka n.kids.length kc)).toArray 45));have j:=ad (Ga n q 0 false 0 A _ _ (p.next h) (aH _) (m.next h));obtain⟨c,l⟩:∃c,j3 n 0 false 0=c:=⟨_,rfl⟩;obtain⟨E,k⟩:∃E,xe n=E:=⟨_,rfl⟩;have d:=ad (show(if n.kind=1 then c else 13)=E by rw[←k,xe,l]);rw[l] at j;rw[k];clear h m s t q p l k;go_enter Tryz.func17,Tryz.ntmps17;go_upto_region 1 with fail;generalize w.alloc (.cells (eH n.kind n.place n.text (.slice aa n.attrs.length ac) (.slice ka n.kids.length kc)).toArray 45)=x at*;have B:=aj 0 b.out;have C:=aj 1 b.out;have D:=aj 2 b.out;have F:=aj 3 b.out;have G:=aj 4 b.out;by_cases a:n.kind=1
 ·have e:=ad ((ah a).symm.trans d.out);have u:=QX a;rw[e.out] at j;clear a d e;go_wp2_with fail;refine j.out.mono ?_;rintro y z⟨rfl,o⟩;have r:=ad (i.out.trans (o.mono i.out.size));clear o;go_wp2_with fail;go_ret;exact⟨rfl,r.out⟩
 ·have e:=ad ((ae a).symm.trans d.out);have u:=QW a;clear a d;go_wp2_with fail;go_ret;exact⟨by rw[←e.out];rfl,i.out⟩
theorem Dp{W:World}{base:Nat}{T:TypeId}{size g n m cap:Nat}{xs r:List Value}(h:W.ownsRow base T size (.slice (some ⟨g,0,none⟩) n cap) n (xs++r))(q:m≤n)(c:xs.length=m*size):
 W.ownsRow base T size (.slice (some ⟨g,0,none⟩) m cap) m xs:=by
 refine⟨c, ?_⟩;rcases h.2 with⟨b,_⟩|⟨g',s,d,b,i,j,u,k,l,o⟩
 ·cases b
 ·injection b with a t e;injection a with a;injection a with a;subst a;subst e;refine .inr ⟨g,cap,d,rfl,i,j,by omega,k,l, ?_⟩;have p:m*size≤n*size:=Nat.mul_le_mul_right _ q;have:=congrArg (List.take (m*size)) o;rw[List.take_take,Nat.min_eq_left p,←c,List.take_left] at this;rw[←c];exact this
section
variable{lo:KB}{w0 W W':World}{pb:Nat}{ov:Value}{st:List Nd}{kvs ys:List Value}{place e:Int}
theorem PK.pop{l:List Nd}{y:Nd}(H:PK lo w0 W pb ov (l++[y]) kvs ys place e){g cap:Nat}(t:ov=.slice (some ⟨g,0,none⟩) (l.length+1) cap):
 ∃a c kv k A,PK lo w0 (W.setCell ⟨pb,0,none⟩ (.slice (some ⟨g,0,none⟩) l.length cap)) pb (.slice (some ⟨g,0,none⟩) l.length cap) l k A place e∧
  W.cell? ⟨g,l.length*5+3,none⟩=some (.slice a y.attrs.length c)∧W.cell? ⟨g,l.length*5+4,none⟩=some kv∧
  fu (PL lo (pb::bM (.slice (some ⟨g,0,none⟩) l.length cap::k))) (W.setCell ⟨pb,0,none⟩ (.slice (some ⟨g,0,none⟩) l.length cap)) y (wZ y.kind y.place y.text (.slice a y.attrs.length c) kv):=by
 obtain⟨n1,n2,G⟩:=H.apart t;obtain⟨g',X,a,c,kv,xs,k,A,o,s,I,n,F,Q,Y⟩:=H.oM;have B:=o;rw[t] at B;injection B with r Z V;injection r with r;injection r with r;subst r;subst V;have m:ak pb W (W.setCell ⟨pb,0,none⟩ (.slice (some ⟨g,0,none⟩) l.length cap)):=(ak.refl pb W).set;have K:∀b,b∈(pb::bM (.slice (some ⟨g,0,none⟩) l.length cap::k))→b∈(pb::bM (ov::kvs)):=fun b d=>by
  rw[t,s,cR,fD];rw[cR] at d;rcases bL.1 d with e|d
  ·rw[e];exact eF
  rcases bL.1 d with e|d
  ·rw[e];exact bY _ eF
  ·exact bY _ (bY _ (uJ _ d))
 have p:∀b,PL lo (pb::bM (ov::kvs)) b→b<W.heap.size→PL lo (pb::bM (.slice (some ⟨g,0,none⟩) l.length cap::k)) b∧(W.setCell ⟨pb,0,none⟩ (.slice (some ⟨g,0,none⟩) l.length cap)).heap[b]? =W.heap[b]? :=fun b o J=>⟨⟨o.1,fun d=>o.2 (K b d)⟩,m.block b J (by intro e;cases e;exact o.2 eF)⟩
 have u:∀b,b∈bM k→b∈bM kvs:=fun b d=>by rw[s,fD];exact uJ _ d
 have w:∀q,kv.ownBlock=some q→q∈bM kvs:=fun q hq=>cQ.2 ⟨kv,by rw[s];simp,hq⟩;have N:∀b,b∈bM kvs→b<W.heap.size:=fun b d=>by obtain⟨v,S,T⟩:=cQ.1 d;exact PK.next.qY H.Ge v S b T
 have M:∀b,b∈bM kvs→(W.setCell ⟨pb,0,none⟩ (.slice (some ⟨g,0,none⟩) l.length cap)).heap[b]? =W.heap[b]? :=fun b d=>m.block b (N b d) (by intro e;cases e;exact(n2 _ d).2 rfl);have D:(bM k).Nodup∧∀q,kv.ownBlock=some q→q∉bM k:=by rw[s,fD] at G;have C:=List.nodup_append.1 G;exact⟨C.1,fun q hq i=>C.2.2 q i q (cQ.2 ⟨kv,by simp,hq⟩) rfl⟩
 have E:=H.own;rw[t,show(l++[y]).length=l.length+1 by simp,I] at E;have O:=Dp E (fB _) n;have L:pb≠g:=n1;have R:=O.kept m (.inr (fun e=>by injection e with e;exact L e.symm));refine⟨a,c,kv,k,A,⟨H.up.trans (m.below H.far H.up.size),aw (j:=0) H.box,R,Q.cO m.size p (fun b d=>M b (u b d)), ?_,H.far,H.Tn,(p _ H.mp.1 (aB.1 H.mp.2).1).1,(p _ H.mp.1 (aB.1 H.mp.2).1).2.trans H.mp.2⟩,F.c3,F.c4, ?_⟩
 ·rw[cR];refine lI.2 ⟨fun i=> ?_,lI.2 ⟨fun i=>(n2 g (u g i)).1 rfl,D.1⟩⟩;rcases bL.1 i with e|i
  ·exact n1 e
  ·exact(n2 pb (u pb i)).2 rfl
 ·rw[Nd.eta y];refine mJ.2 ⟨_,_,rfl,F.at_.cO m.size p, ?_⟩;refine Ab (F.own.kept m (.inr fun e=>(n2 pb (w pb e)).2 rfl)) (F.row.map fun x v h=>eD m.size p x v h) (fun z n=>⟨?_,fun i=> ?_⟩)
  ·have:=(F.own.lt z n).1;have:=H.Tn;omega
  ·rw[cR] at i;rcases bL.1 i with e|i
   ·exact(n2 z (w z n)).2 e
   rcases bL.1 i with e|i
   ·exact(n2 z (w z n)).1 e
   ·exact D.2 z n i
end
theorem Nk{a:List Value}{k p:Int}{t:Bs}{av kv:Value}(d i:Int)(l:Bs)(b h:Value):
 (((((a++eH k p t av kv).set a.length (.int .i64 d)).set (a.length+1) (.int .i64 i)).set (a.length+2) (.string ⟨l.toArray⟩)).set (a.length+3) b).set (a.length+4) h=a++eH d i l b h:=by
 have e:∀(j:Nat) (m:List Value) (v:Value),(a++m).set (a.length+j) v=a++m.set j v:=fun j m v=>by rw[List.set_append,ae (by omega),zQ]
 have c:=e 0;rw[qF] at c;rw[c,e 1,e 2,e 3,e 4];rfl
def xh(W:World)(g o:Nat)(k p:Int)(t:Bs)(av kv:Value):World:=
 ((((W.setCell ⟨g,o,none⟩ (.int .i64 k)).setCell ⟨g,o+1,none⟩ (.int .i64 p)).setCell ⟨g,o+2,none⟩ (.string ⟨t.toArray⟩)).setCell ⟨g,o+3,none⟩ av).setCell ⟨g,o+4,none⟩ kv
theorem KE(W:World)(g o:Nat)(k p:Int)(t:Bs)(av kv:Value):ak g W (xh W g o k p t av kv):=(((((ak.refl g W).set).set).set).set).set
theorem Nl{W:World}{base:Nat}{T:TypeId}{g n cap:Nat}{b:List Value}{o r:Int}{s:Bs}{d q:Value}(h:W.ownsRow base T 5 (.slice (some ⟨g,0,none⟩) (n+1) cap) (n+1) (b++eH o r s d q))(c:b.length=n*5)(k p:Int)(t:Bs)(av kv:Value):
 (xh W g (n*5) k p t av kv).ownsRow base T 5 (.slice (some ⟨g,0,none⟩) (n+1) cap) (n+1) (b++eH k p t av kv):=by
 have e:=nt (j:=n*5) (u:=.int .i64 k) h (by omega);have i:=nt (j:=n*5+1) (u:=.int .i64 p) e (by omega);have l:=nt (j:=n*5+2) (u:=.string ⟨t.toArray⟩) i (by omega);have m:=nt (j:=n*5+3) (u:=av) l (by omega);have a:=nt (j:=n*5+4) (u:=kv) m (by omega);rw[←c] at a;rw[Nk] at a;unfold xh;rw[←c];exact a
section
variable{lo:KB}{w0 W W':World}{pb:Nat}{ov:Value}{st:List Nd}{kvs ys:List Value}{place e:Int}
theorem PK.push{l:List Nd}{y:Nd}(H:PK lo w0 W pb ov l kvs ys place e){g cap:Nat}(s:ov=.slice (some ⟨g,0,none⟩) l.length cap){o:World}{O:Obj}{d k:Nat}{a:Option Addr}{c:Nat}
 (M:y.kids=[])(Q:aP (PL lo (pb::bM (ov::kvs))) W y.attrs (.slice a y.attrs.length c))
 (J:o.ownsRow w0.heap.size 45 5 (.slice (some ⟨d,0,none⟩) (l.length+1) k) (l.length+1) (ys++eH 0 0 [] (.slice none 0 0) (.slice none 0 0)))
 (u:(W.alloc O).grownBy o ov.ownBlock)(I:some d=ov.ownBlock∨W.heap.size+1≤d):
 PK lo w0 ((xh o d (l.length*5) y.kind y.place y.text (.slice a y.attrs.length c) (.slice none 0 0)).setCell ⟨pb,0,none⟩ (.slice (some ⟨d,0,none⟩) (l.length+1) k)) pb (.slice (some ⟨d,0,none⟩) (l.length+1) k) (l++[y]) (kvs++[.slice none 0 0]) (ys++eH y.kind y.place y.text (.slice a y.attrs.length c) (.slice none 0 0)) place e:=by
 obtain⟨n1,n2,n3⟩:=H.apart s;have z:Below W.heap.size W (W.alloc O):=(ar _ _).alloc (ag _) _;have ab:=z.size;have ac:=u.size;have X:=H.lt;have aa:=H.own.lt g (by rw[s];rfl);have V:ov.ownBlock=some g:=by rw[s];rfl
 rw[V] at u I;have w:d=g∨W.heap.size+1≤d:=I.imp (fun h=>by injection h) id;have T:w0.heap.size≤d∧d<o.heap.size:=J.lt d rfl;have G:∀b,b∈bM kvs→b<W.heap.size:=fun b r=>by obtain⟨v,Y,Z⟩:=cQ.1 r;exact PK.next.qY H.Ge v Y b Z
 have hz:=H.Ge.len.2;have B:=KE o d (l.length*5) y.kind y.place y.text (.slice a y.attrs.length c) (.slice none 0 0);have o5:=Nl J hz y.kind y.place y.text (.slice a y.attrs.length c) (.slice none 0 0);generalize xh o d (l.length*5) y.kind y.place y.text (.slice a y.attrs.length c) (.slice none 0 0)=n at*;have x:ak pb n (n.setCell ⟨pb,0,none⟩ (.slice (some ⟨d,0,none⟩) (l.length+1) k)):=(ak.refl pb n).set;have s5:=B.size;have s6:=x.size;have K:pb≠d:=by rcases w with h|h<;>omega
 have C:∀b,b<W.heap.size→b≠g→n.heap[b]? =W.heap[b]? :=fun b m p=>(B.block b (by omega) (by intro e;injection e with e;rcases w with h|h<;>omega)).trans ((u.block b (by omega) (by intro e;injection e with e;exact p e)).trans (z.block b m))
 have D:∀b,b<W.heap.size→b≠g→b≠pb→(n.setCell ⟨pb,0,none⟩ (.slice (some ⟨d,0,none⟩) (l.length+1) k)).heap[b]? =W.heap[b]? :=fun b m p N=>(x.block b (by omega) (by intro e;injection e with e;exact N e)).trans (C b m p)
 have F:bM (kvs++[.slice none 0 0])=bM kvs:=by rw[fD];simp[bM,Value.ownBlock]
 have t:∀b,PL lo (pb::bM (ov::kvs)) b→b<W.heap.size→PL lo (pb::bM (.slice (some ⟨d,0,none⟩) (l.length+1) k::(kvs++[.slice none 0 0]))) b∧(n.setCell ⟨pb,0,none⟩ (.slice (some ⟨d,0,none⟩) (l.length+1) k)).heap[b]? =W.heap[b]? :=fun b m p=>by
  have E:b≠pb:=fun e=>m.2 (by rw[e];exact eF);have R:b≠g:=fun e=>m.2 (by rw[s,cR,e];exact bY _ eF);have S:b∉bM kvs:=fun e=>m.2 (by rw[s,cR];exact bY _ (bY _ e));refine⟨⟨m.1,fun i=> ?_⟩,D b p R E⟩;rw[cR,F] at i;rcases bL.1 i with e|i
  ·exact E e
  rcases bL.1 i with e|i
  ·rcases w with h|h<;>omega
  ·exact S i
 have L:W.heap.size≤(n.setCell ⟨pb,0,none⟩ (.slice (some ⟨d,0,none⟩) (l.length+1) k)).heap.size:=by omega
 have A:=((H.up.trans (z.mono H.up.size))).grown u (by have:=H.up.size;omega) (fun q hq=>by injection hq with hq;omega);refine⟨(A.trans (B.below T.1 (by have:=A.size;omega))).trans (x.below H.far (by have:=A.size;omega)), ?_, ?_, ?_, ?_,H.far,H.Tn,(t _ H.mp.1 (aB.1 H.mp.2).1).1,(t _ H.mp.1 (aB.1 H.mp.2).1).2.trans H.mp.2⟩
 ·exact aw (j:=0) ((C pb X n1).trans H.box)
 ·rw[show(l++[y]).length=l.length+1 by simp];exact o5.kept x (.inr fun e=>by injection e with e;exact K e.symm)
 ·exact gy.snoc (y:=y) (Q.cO L t) (by rw[M];exact jO _ _ _ _) (show fm _ _ y.kids [] by rw[M];rfl) (H.Ge.cO L t (fun b r=>D b (G b r) (n2 b r).1 (n2 b r).2))
 ·rw[cR,F];refine lI.2 ⟨fun i=> ?_,lI.2 ⟨fun i=> ?_,n3⟩⟩
  ·rcases bL.1 i with e|i
   ·exact K e
   ·exact(n2 pb i).2 rfl
  ·have:=G d i;rcases w with h|h
   ·exact(n2 d i).1 h
   ·omega
end
def pE(o:Option (Nat×Int)):Int:=match o with|none=>0|some p=>(p.1:Int)
def eE(o:Option (Nat×Int)):Int:=match o with|none=>0|some p=>p.2
def vX(o:Option (Nat×Int)):Prop:=∀p,o=some p→p.2≠0
theorem nv{a b:Option (Nat×Int)}(c:vX a)(d:vX b):vX (mD a b):=by
 cases a with
 |none=>exact d
 |some x=>exact c
theorem dI:vX none:=fun p h=>by cases h
theorem eZ{q:Nat}{c:Int}(h:c≠0):vX (some (q,c)):=fun p e=>by cases e;exact h
theorem jH{p:Prop} [Decidable p]{a b:Option (Nat×Int)}(c:vX a)(d:vX b):vX (if p then a else b):=by split<;>assumption
theorem xi(a:Option (Nat×Int)):mD a none=a:=by cases a<;>rfl
theorem Ac(a b c:Option (Nat×Int)):mD (mD a b) c=mD a (mD b c):=by cases a<;>rfl
theorem aA{W:World}{b n:Nat}{xs:Array Value}{T:TypeId}(h:W.heap[b]? =some (.cells xs T)):W.frozen? ⟨b,n,none⟩=false:=aF _ _ _ _ _ h
section
variable{lo:KB}{w0 W W':World}{pb:Nat}{ov:Value}{st:List Nd}{kvs ys:List Value}{place e:Int}
theorem iK{o:Option (Nat×Int)}(H:PK lo w0 W pb ov st kvs ys (pE o) (eE o))(i:vX o)(q:Nat)(c:Int):
 Calls Tryz.prog 77 #[.pointer (some ⟨pb,0,none⟩),.int .i64 q,.int .i64 c] W fun b w'=>b=.returned (.tuple #[])∧PK lo w0 w' pb ov st kvs ys (pE (mD o (some (q,c)))) (eE (mD o (some (q,c))))∧ak pb W w':=by
 refine(Nf H q c).mono ?_;rintro b w'⟨e,a,h⟩;refine⟨e, ?_,h⟩;cases o with
 |none=>exact a
 |some p=>have d:¬eE (some p)=0:=i p rfl;rw[ae d,ae d] at a;exact a
theorem iX(w:World){p q i j:Nat}(u v:Value)(h:p≠q):(w.setCell ⟨p,i,none⟩ u).setCell ⟨q,j,none⟩ v=(w.setCell ⟨q,j,none⟩ v).setCell ⟨p,i,none⟩ u:=by
 unfold World.setCell;congr 1;refine Array.ext_getElem? fun k=> ?_;simp only[Array.getElem?_modify];by_cases a:p=k
 ·have b:¬q=k:=fun e=>h (a.trans e.symm);simp[a,b]
 ·simp[a]
theorem KF(w:World){g o p i:Nat}(k q:Int)(t:Bs)(av kv v:Value)(h:p≠g):xh (w.setCell ⟨p,i,none⟩ v) g o k q t av kv=(xh w g o k q t av kv).setCell ⟨p,i,none⟩ v:=by unfold xh;rw[iX _ _ _ h,iX _ _ _ h,iX _ _ _ h,iX _ _ _ h,iX _ _ _ h]
theorem Dq{W:World}{base g n cap:Nat}{T:TypeId}{l:List Value}{k p:Int}{t:Bs}{av kv:Value}(h:W.ownsRow base T 5 (.slice (some ⟨g,0,none⟩) (n+1) cap) (n+1) (l++eH k p t av kv))(s:l.length=n*5):
 (W.cell? ⟨g,n*5,none⟩=some (.int .i64 k)∧W.cell? ⟨g,n*5+1,none⟩=some (.int .i64 p)∧W.cell? ⟨g,n*5+2,none⟩=some (.string ⟨t.toArray⟩)∧W.cell? ⟨g,n*5+3,none⟩=some av∧W.cell? ⟨g,n*5+4,none⟩=some kv)∧∀j,W.frozen? ⟨g,j,none⟩=false:=by
 obtain⟨a,c,e,q⟩:=mK h;obtain⟨g',m,B,C,o⟩:=q (by omega);injection e with d y z;rw[m] at d;injection d with d;injection d with d;subst d;have i:∀(j:Nat) (v:Value),(eH k p t av kv)[j]? =some v→W.cell? ⟨g,n*5+j,none⟩=some v:=fun j v r=>by have:=o (n*5+j) v (by rw[jL (by omega),s,zQ];exact r);rw[dH] at this;exact this
 refine⟨⟨i 0 _ rfl,i 1 _ rfl,i 2 _ rfl,i 3 _ rfl,i 4 _ rfl⟩,fun j=> ?_⟩;rcases h.2 with⟨b,_⟩|⟨A,w,x,b,_,u,_⟩
 ·cases b
 ·injection b with b _ _;injection b with b;injection b with b;subst b;exact aF _ _ _ _ _ u
theorem Jk{pb g b n cap a s:Nat}(h:pb<s∧b<s∧g<s)(c:some pb≠(Value.slice (some ⟨g,0,none⟩) n cap).ownBlock∧some b≠(Value.slice (some ⟨g,0,none⟩) n cap).ownBlock)(d:some a=(Value.slice (some ⟨g,0,none⟩) n cap).ownBlock∨s+1≤a):¬a=pb∧¬pb=a∧¬a=b∧¬b=a:=by
 rcases d with e|e
 ·exact⟨fun q=>c.1 (q▸e),fun q=>c.1 (q.symm▸e),fun q=>c.2 (q▸e),fun q=>c.2 (q.symm▸e)⟩
 ·omega
theorem Ad{w w':World}{O:Obj}{r:Option Nat}{b j n:Nat}{xs:Array Value}{T:TypeId}(c:w.heap[b]? =some (.cells xs T))(h:(w.drew.alloc O).grownBy w' r)(e:some b≠r):w'.frozen? ⟨b,j,none⟩=false:=by have a:=(aB.1 c).1;have d:w'.heap[b]? =(w.drew.alloc O).heap[b]? :=h.block b (by rw[aO];exact Nat.lt_succ_of_lt a) e;exact aA ((d.trans (heap_alloc_old w.drew O a)).trans c)
def gV(lo:KB)(w0 W:World)(pb:Nat)(st:List Nd)(place e:Int):Prop:=∃ov kvs ys,PK lo w0 W pb ov st kvs ys place e
theorem Ae{l:List Nd}{N g cap:Nat}(H:PK lo w0 W pb ov l kvs ys place e)(o:l.length=N)(w:ov=.slice (some ⟨g,0,none⟩) N cap){d:World}{O:Obj}{b i:Nat}{k p:Int}{QM:List bQ}{a:Option Addr}{c n:Nat}(t:QM.length=n)
 (r:aP (PL lo (pb::bM (ov::kvs))) W QM (.slice a n c))
 (x:d.ownsRow w0.heap.size 45 5 (.slice (some ⟨b,0,none⟩) (N+1) i) (N+1) (ys++eH 0 0 [] (.slice none 0 0) (.slice none 0 0)))
 (s:(W.drew.alloc O).grownBy d (Value.slice (some ⟨g,0,none⟩) N cap).ownBlock)(m:some b=(Value.slice (some ⟨g,0,none⟩) N cap).ownBlock∨W.heap.size+1≤b):
 gV lo w0 ((((((d.setCell ⟨b,N*5,none⟩ (.int .i64 k)).setCell ⟨b,N*5+1,none⟩ (.int .i64 p)).setCell ⟨b,N*5+2,none⟩ (.string ⟨#[]⟩)).setCell ⟨b,N*5+3,none⟩ (.slice a n c)).setCell ⟨b,N*5+4,none⟩ (.slice none 0 0)).setCell ⟨pb,0,none⟩ (.slice (some ⟨b,0,none⟩) (N+1) i)) pb (l++[.mk k p [] QM []]) place e∧
 gV lo w0 ((((((d.setCell ⟨pb,0,none⟩ (.slice (some ⟨b,0,none⟩) (N+1) i)).setCell ⟨b,N*5,none⟩ (.int .i64 k)).setCell ⟨b,N*5+1,none⟩ (.int .i64 p)).setCell ⟨b,N*5+2,none⟩ (.string ⟨#[]⟩)).setCell ⟨b,N*5+3,none⟩ (.slice a n c)).setCell ⟨b,N*5+4,none⟩ (.slice none 0 0)) pb (l++[.mk k p [] QM []]) place e:=by
 subst o;subst w;subst t;have u:¬pb=b:=by
  obtain⟨n1,-,-⟩:=H.apart (g:=g) rfl;have:=H.lt;rcases m with e|e
  ·intro q;exact n1 (q.trans (iS e))
  ·omega
 have h:=PK.push (y:=.mk k p [] QM []) (H.next (ax W 1)) rfl rfl (r.next (ax W 1)) x s m;have j:gV lo w0 _ pb (l++[.mk k p [] QM []]) place e:=⟨_,_,_,h⟩;refine⟨j, ?_⟩;rw[←KF _ _ _ _ _ _ _ u] at j;exact j
def Jl(y:Nd)(n f:Nat):Option (Nat×Int):=mD (if oy y 14 then none else some (f,13)) (if 16<n+1 then some (f,3) else none)
theorem Nn{l:List Nd}{y:Nd}(H:PK lo w0 W pb ov (l++[y]) kvs ys 0 0)(hl:l.length≤100)(hk:y.kids.length≤10000000)(k:Int)(nm t:Bs)(d:Nat)(s:Int){ta:Option Addr}{u tc:Nat}:
 Calls Tryz.prog 42 #[.pointer (some ⟨pb,0,none⟩),.agg #[.int .i64 k,.string ⟨nm.toArray⟩,.slice ta u tc,.string ⟨t.toArray⟩,.int .i64 d,.int .i64 s]] W fun G w'=>G=.returned (.tuple #[])∧gV lo w0 w' pb (l++[y]++[.mk 14 d [] [] []]) (pE (Jl y l.length d)) (eE (Jl y l.length d)):=by
 obtain⟨g,cap,a,c,kv,xs,ks,zs,ho,-⟩:=H.oM;have hA:Below W.heap.size W (W.alloc (.cells (ei k nm (.slice ta u tc) t d s).toArray 78)):=(ar _ _).alloc (ag _) _;have M:Hid (PK lo w0 _ pb ov (l++[y]) kvs ys (pE none) (eE none)):=ad (H.next hA);have Y:=ad (au W (.cells (ei k nm (.slice ta u tc) t d s).toArray 78));have r:=ad ho;have S:=ad (Jj M.out (by omega) hk 14);have av:=H.lt;have HP:=ad (show pb≠W.heap.size by omega);have HG:=ad (show g<W.heap.size from(H.own.lt g (by rw[ho];rfl)).2);obtain⟨E,Z⟩:∃E,Jl y l.length d=E:=⟨_,rfl⟩;obtain⟨o1,J⟩:∃o,(if oy y 14 then none else some (d,(13:Int)):Option (Nat×Int))=o:=⟨_,rfl⟩;obtain⟨R,hR⟩:∃R,oy y 14=R:=⟨_,rfl⟩;rw[Z];rw[hR] at S;have V:=ad (show(if R then none else some (d,(13:Int)):Option (Nat×Int))=o1 by rw[←hR];exact J);have C:=ad (show mD o1 (if 16<l.length+1 then some (d,3) else none)=E by rw[←Z,←J];rfl);have af:Hid (vX o1):=ad (by rw[←J];exact jH dI (eZ (by decide)));clear H ho hA hR J Z av;go_enter Tryz.func42,Tryz.ntmps42;go_upto_region 1 with fail;generalize W.alloc (.cells (ei k nm (.slice ta u tc) t d s).toArray 78)=W1 at*;generalize W.heap.size=b at*;go_wp2_with fail;refine S.out.mono ?_;rintro G w2⟨rfl,aa⟩;have Q:=ad (M.out.next aa);have w:=ad ((aa.block _ (aB.1 Y.out).1).trans Y.out);clear aa S M Y
 go_upto_if 6 with fail
 go_cut [] (fun B=>Hid (PK lo w0 B pb ov (l++[y]) kvs ys (pE o1) (eE o1))∧Hid (B.heap[b]? =some (.cells (ei k nm (.slice ta u tc) t d s).toArray 78)))
 case first=>
  cases R
  ·have L:=ad (iK Q.out dI d 13);have q:=aj 4 w.out;go_wp2_with fail;refine L.out.mono ?_;rintro G w3⟨rfl,z,A⟩;have i:Hid (PK lo w0 w3 pb ov (l++[y]) kvs ys (pE o1) (eE o1)):=ad (by rw[←V.out];exact z);have m:=ad ((A.block b (aB.1 w.out).1 (by intro e;injection e with e;exact HP.out e.symm)).trans w.out);clear z A q;go_wp2_with fail
   go_meet
   exact⟨i,m⟩
  ·have i:Hid (PK lo w0 w2 pb ov (l++[y]) kvs ys (pE o1) (eE o1)):=ad (by rw[←V.out];exact Q.out);go_wp2_with fail
   go_meet
   exact⟨i,w⟩
 case rest=>
  obtain⟨i,m⟩:=hcut;clear Q w;obtain⟨N,hN⟩:∃N,l.length+1=N:=⟨_,rfl⟩;rw[hN] at r C;have al:(l++[y]).length=N:=by simp[hN]
  have T:=ad al;have i1:N≤1000:=by omega
  clear hN al hl hk;have j:=i.out.box.c.c0;rw[r.out] at j
  go_upto_if 16 with fail
  go_cut [] (fun B=>Hid (PK lo w0 B pb ov (l++[y]) kvs ys (pE E) (eE E))∧Hid (B.heap[b]? =some (.cells (ei k nm (.slice ta u tc) t d s).toArray 78)))
  case first=>
   by_cases I:16<N
   ·have i4:(16:Int)<(N:Int):=by omega
    have L:=ad (iK i.out af.out d 3);have q:=aj 4 m.out;have K:=ad ((congrArg (mD o1) (ah I)).symm.trans C.out);clear I;go_wp2_with fail;refine L.out.mono ?_;rintro G w3⟨rfl,z,A⟩;have h:Hid (PK lo w0 w3 pb ov (l++[y]) kvs ys (pE E) (eE E)):=ad (by rw[←K.out];exact z);have F:=ad ((A.block b (aB.1 m.out).1 (by intro e;injection e with e;exact HP.out e.symm)).trans m.out);clear z A q j;go_wp2_with fail
    go_meet
    exact⟨h,F⟩
   ·have i4:¬(16:Int)<(N:Int):=by omega
    have K:=ad ((congrArg (mD o1) (ae I)).symm.trans C.out);have h:Hid (PK lo w0 _ pb ov (l++[y]) kvs ys (pE E) (eE E)):=ad (by rw[←K.out,xi];exact i.out);clear I;go_wp2_with fail
    go_meet
    exact⟨h,m⟩
  case rest=>
   clear i m j C af V;obtain⟨h,F⟩:=hcut;have j:=h.out.box.c.c0;have ap:=h.out.box.c.f0;rw[r.out] at j;have i2:(0:Int)≤(N:Int):=by omega
   have i3:(N:Int)<(N:Int)+1:=by omega
   have q:=aj 4 F.out;have X:=ad h.out.own;rw[T.out,r.out] at X;have HZ:=ad (T.out▸h.out.Ge.len.2:ys.length=N*5);obtain⟨n1,n2,n3⟩:=h.out.apart r.out;have D:Hid (some pb≠(Value.slice (some ⟨g,0,none⟩) N cap).ownBlock∧some b≠(Value.slice (some ⟨g,0,none⟩) N cap).ownBlock):=ad ⟨fun e=>by injection e with e;exact n1 e,fun e=>absurd (iS e:b=g) (Nat.ne_of_gt HG.out)⟩;have am:=ad (And.intro h.out.lt (And.intro (aB.1 F.out).1 (X.out.lt g rfl).2));have an:∀O,(wc.alloc O).cell? ⟨pb,0,none⟩=some (.slice (some ⟨g,0,none⟩) N cap):=fun O=>aI j O;have ay:∀O,(wc.alloc O).cell? ⟨b,4,none⟩=some (.int .i64 d):=fun O=>aI q O;clear n1 n2 n3;go_upto_region 5 with fail;go_region_law
    (refine gM (by rfl) _ _ 43 (by rfl) 45 (.agg #[.int .i64 0,.int .i64 0,.string ⟨#[]⟩,.slice none 0 0,.slice none 0 0]) 5 80 BG Ji (by rfl) (by decide) w0.heap.size wc.drew (.slice (some ⟨g,0,none⟩) N cap) N ys (by rfl) (cp X.out (ax wc 1)) (eH 0 0 [] (.slice none 0 0) (.slice none 0 0)) (by rfl) (by rfl) (by rfl) (by simp[Value.oneCell']) (by omega) (by omega) (by exact h.out.up.size) ?_;intro g2 aU w5 ac x ab;have ao:=x.cell (aI (W:=wc.drew) j _) D.out.1;have aq:w5.frozen? ⟨pb,0,none⟩=false:=Ad (n:=0) h.out.box x D.out.1;have aN:=x.cell (aI (W:=wc.drew) q _) D.out.2;obtain⟨⟨z0,z1,z2,z3,z4⟩,zf⟩:=Dq ac HZ.out;obtain⟨m1,m2,m3,m4⟩:=Jk am.out D.out ab;have ai:=ad (Ae (k:=14) (p:=d) (QM:=[]) (a:=none) (c:=0) (n:=0) h.out T.out r.out rfl (.inl ⟨rfl,none,0,rfl⟩) ac x ab);clear ac x ab)
   all_goals
    clear ao aq aN z0 z1 z2 z3 z4 zf m1 m2 m3 m4 j ap q an ay
    go_end0
    first
     |with_reducible exact ⟨rfl,ai.out.1⟩
     |with_reducible exact ⟨rfl,ai.out.2⟩
end
