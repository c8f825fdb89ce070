/- The walk of the parser's begin. -/
import Derived.Test.YtlemddnecmmfgaaGreatDoorJam
set_option linter.unusedVariables false
set_option maxRecDepth 100000
set_option maxHeartbeats 4000000
namespace Go.Proofs.YtlemddnecmmfgaaGreatDoor
open Go.RowKit
theorem Gc(n:Nd)(r:MH n)(A:Nat→Prop)(w:aaK)(v:aaL)(q:Good w)(l:fu A w n v):Calls Tryz.prog 23 #[v] w (cN w (.int .i64 (xe n))):=by
 obtain⟨aa,ac,ka,kc,rfl,x,y⟩:=l.shape;have e:=az w (.cells (eH n.kind n.place n.text (.slice aa n.attrs.length ac) (.slice ka n.kids.length kc)).toArray 37);have h:=ad e;have u:=ad (au w (.cells (eH n.kind n.place n.text (.slice aa n.attrs.length ac) (.slice ka n.kids.length kc)).toArray 37));have i:=ad (Ga n r 0 false 0 A _ _ (q.next e) (aH _) (l.next e));obtain⟨c,k⟩:∃c,hX n 0 false 0=c:=⟨_,rfl⟩;obtain⟨E,j⟩:∃E,xe n=E:=⟨_,rfl⟩;have b:=ad (show(if n.kind=1 then c else 13)=E by rw[←j,xe,k]);rw[k] at i;rw[j];clear e l x y r q k j;go_enter Tryz.func23,Tryz.ntmps23;go_upto_region 1 with fail;generalize w.alloc (.cells (eH n.kind n.place n.text (.slice aa n.attrs.length ac) (.slice ka n.kids.length kc)).toArray 37)=B at*;obtain⟨F,G,H,I,J⟩:=qX5 (aj u.o) 0 1 2 3 4;by_cases a:n.kind=1
 ·have d:=ad ((ah a).symm.t b.o);have z:=QX a;rw[d.o] at i;clear a b d;go_wp2_with fail;refine i.o.m ?_;rintro C D⟨rfl,p⟩;have s:=ad (h.o.t (p.m h.o.size));clear p;go_wp2_with fail;go_ret;exact⟨rfl,s.o⟩
 ·have d:=ad ((ae a).symm.t b.o);have z:=QW a;clear a b;go_wp2_with fail;go_ret;exact⟨by rw[←d.o];rfl,h.o⟩
variable{d:Nat}
theorem Dp{W:aaK}{T:TypeId}{size g n m cap:Nat}{xs s:List aaL}(h:W.ownsRow d T size (.slice (some ⟨g,0,none⟩) n cap) n (xs++s))(r:m≤n)(c:xs.length=m*size):
 W.ownsRow d T size (.slice (some ⟨g,0,none⟩) m cap) m xs:=by
 refine⟨c, ?_⟩;rcases h.2 with⟨b,_⟩|⟨g',t,e,b,j,k,w,l,o,p⟩
 ·cases b
 ·injection b with a u i;injection a with a;injection a with a;subst a;subst i;refine .inr ⟨g,cap,e,rfl,j,k,by omega,l,o, ?_⟩;have q:m*size≤n*size:=Nat.mul_le_mul_right _ r;have:=congrArg (List.take (m*size)) p;rw[List.take_take,Nat.min_eq_left q,←c,List.take_left] at this;rw[←c];exact this
section
variable{lo:KB}{w0 W W':aaK}{pb:Nat}{ov:aaL}{st:List Nd}{kvs ys:List aaL}{place e:Int}
theorem PK.pop{l:List Nd}{y:Nd}(H:PK lo w0 W pb ov (l++[y]) kvs ys place e){cap:Nat}(w:ov=.slice (some ⟨d,0,none⟩) (l.length+1) cap):
 ∃a c kv m C,PK lo w0 (W.setCell ⟨pb,0,none⟩ (.slice (some ⟨d,0,none⟩) l.length cap)) pb (.slice (some ⟨d,0,none⟩) l.length cap) l m C place e∧
  W.cell? ⟨d,l.length*5+3,none⟩=some (.slice a y.attrs.length c)∧W.cell? ⟨d,l.length*5+4,none⟩=some kv∧
  fu (PL lo (pb::bM (.slice (some ⟨d,0,none⟩) l.length cap::m))) (W.setCell ⟨pb,0,none⟩ (.slice (some ⟨d,0,none⟩) l.length cap)) y (wZ y.kind y.place y.text (.slice a y.attrs.length c) kv):=by
 obtain⟨n1,n2,J⟩:=H.apart w;obtain⟨g',Z,a,c,kv,xs,m,C,p,u,K,o,F,S,hg⟩:=H.oM;have D:=p;rw[w] at D;injection D with s q2 Y;injection s with s;injection s with s;subst s;subst Y;have n:ak pb W (W.setCell ⟨pb,0,none⟩ (.slice (some ⟨d,0,none⟩) l.length cap)):=(ak.refl pb W).set;have M:∀b,b∈(pb::bM (.slice (some ⟨d,0,none⟩) l.length cap::m))→b∈(pb::bM (ov::kvs)):=fun b i=>by
  rw[w,u,cR,fD];rw[cR] at i;rcases bL.1 i with e|i
  ·rw[e];exact eF
  rcases bL.1 i with e|i
  ·rw[e];exact bY _ eF
  ·exact bY _ (bY _ (uJ _ i))
 have r:∀b,PL lo (pb::bM (ov::kvs)) b→b<W.heap.size→PL lo (pb::bM (.slice (some ⟨d,0,none⟩) l.length cap::m)) b∧(W.setCell ⟨pb,0,none⟩ (.slice (some ⟨d,0,none⟩) l.length cap)).heap[b]? =W.heap[b]? :=fun b p L=>⟨⟨p.1,fun i=>p.2 (M b i)⟩,n.block b L (by intro e;cases e;exact p.2 eF)⟩
 have A:∀b,b∈bM m→b∈bM kvs:=fun b i=>by rw[u,fD];exact uJ _ i
 have B:∀q,kv.ownBlock=some q→q∈bM kvs:=fun q hq=>cQ.2 ⟨kv,by rw[u];simp,hq⟩;have Q:∀b,b∈bM kvs→b<W.heap.size:=fun b i=>by obtain⟨v,V,X⟩:=cQ.1 i;exact PK.next.qY H.Ge v V b X
 have O:∀b,b∈bM kvs→(W.setCell ⟨pb,0,none⟩ (.slice (some ⟨d,0,none⟩) l.length cap)).heap[b]? =W.heap[b]? :=fun b i=>n.block b (Q b i) (by intro e;cases e;exact(n2 _ i).2 rfl);have G:(bM m).Nodup∧∀q,kv.ownBlock=some q→q∉bM m:=by rw[u,fD] at J;have E:=List.nodup_append.1 J;exact⟨E.1,fun q hq k=>E.2.2 q k q (cQ.2 ⟨kv,by simp,hq⟩) rfl⟩
 have I:=H.own;rw[w,show(l++[y]).length=l.length+1 by simp,K] at I;have R:=Dp I (fB _) o;have N:pb≠d:=n1;have T:=R.kept n (.inr (fun e=>by injection e with e;exact N e.symm));refine⟨a,c,kv,m,C,⟨H.up.t (n.below H.far H.up.size),aw (j:=0) H.box,T,S.cO n.size r (fun b i=>O b (A b i)), ?_,H.far,H.Tn,(r _ H.mp.1 (aB.1 H.mp.2).1).1,(r _ H.mp.1 (aB.1 H.mp.2).1).2.t H.mp.2⟩,F.c3,F.c4, ?_⟩
 ·rw[cR];refine lI.2 ⟨fun k=> ?_,lI.2 ⟨fun k=>(n2 d (A d k)).1 rfl,G.1⟩⟩;rcases bL.1 k with e|k
  ·exact n1 e
  ·exact(n2 pb (A pb k)).2 rfl
 ·rw[Nd.eta y];refine mJ.2 ⟨_,_,rfl,F.at_.cO n.size r, ?_⟩;refine Ab (F.own.kept n (.inr fun e=>(n2 pb (B pb e)).2 rfl)) (F.row.map fun x v h=>eD n.size r x v h) (fun z o=>⟨?_,fun k=> ?_⟩)
  ·have:=(F.own.lt z o).1;have:=H.Tn;omega
  ·rw[cR] at k;rcases bL.1 k with e|k
   ·exact(n2 z (B z o)).2 e
   rcases bL.1 k with e|k
   ·exact(n2 z (B z o)).1 e
   ·exact G.2 z o k
end
variable{b:Bs}{a M:Int}{r:List aaL}{d i s E:Nat}{q R:aaL}
theorem Nk(h l:Int)(n:Bs)(c i:aaL):
 (((((r++eH a M b q R).set r.length (.int .i64 h)).set (r.length+1) (.int .i64 l)).set (r.length+2) (.string ⟨n.toArray⟩)).set (r.length+3) c).set (r.length+4) i=r++eH h l n c i:=by
 have e:∀(j:Nat) (m:List aaL) (v:aaL),(r++m).set (r.length+j) v=r++m.set j v:=fun j m v=>by rw[List.set_append,ae (by omega),zQ]
 have d:=e 0;rw[qF] at d;rw[d,e 1,e 2,e 3,e 4];rfl
def xh(W:aaK)(g o:Nat)(k p:Int)(t:Bs)(av kv:aaL):aaK:=
 ((((W.setCell ⟨g,o,none⟩ (.int .i64 k)).setCell ⟨g,o+1,none⟩ (.int .i64 p)).setCell ⟨g,o+2,none⟩ (.string ⟨t.toArray⟩)).setCell ⟨g,o+3,none⟩ av).setCell ⟨g,o+4,none⟩ kv
theorem KE(W:aaK)(g o:Nat)(k p:Int)(t:Bs)(av kv:aaL):ak g W (xh W g o k p t av kv):=(((((ak.refl g W).set).set).set).set).set
theorem Nl{W:aaK}{T:TypeId}(h:W.ownsRow d T 5 (.slice (some ⟨i,0,none⟩) (s+1) E) (s+1) (r++eH a M b q R))(e:r.length=s*5)(k p:Int)(t:Bs)(av kv:aaL):
 (xh W i (s*5) k p t av kv).ownsRow d T 5 (.slice (some ⟨i,0,none⟩) (s+1) E) (s+1) (r++eH k p t av kv):=by
 have l:=nt (j:=s*5) (u:=.int .i64 k) h (by omega);have m:=nt (j:=s*5+1) (u:=.int .i64 p) l (by omega);have o:=nt (j:=s*5+2) (u:=.string ⟨t.toArray⟩) m (by omega);have w:=nt (j:=s*5+3) (u:=av) o (by omega);have c:=nt (j:=s*5+4) (u:=kv) w (by omega);rw[←e] at c;rw[Nk] at c;unfold xh;rw[←e];exact c
section
variable{lo:KB}{w0 W W':aaK}{pb:Nat}{ov:aaL}{st:List Nd}{kvs ys:List aaL}{place e:Int}
theorem PK.push{l:List Nd}{y:Nd}(H:PK lo w0 W pb ov l kvs ys place e)(w:ov=.slice (some ⟨d,0,none⟩) l.length i){p:aaK}{O:Obj}{a:Option Addr}{c:Nat}
 (S:y.kids=[])(V:aP (PL lo (pb::bM (ov::kvs))) W y.attrs (.slice a y.attrs.length c))
 (N:p.ownsRow w0.heap.size 37 5 (.slice (some ⟨s,0,none⟩) (l.length+1) E) (l.length+1) (ys++eH 0 0 [] (.slice none 0 0) (.slice none 0 0)))
 (z:(W.alloc O).grownBy p ov.ownBlock)(M:some s=ov.ownBlock∨W.heap.size+1≤s):
 PK lo w0 ((xh p s (l.length*5) y.kind y.place y.text (.slice a y.attrs.length c) (.slice none 0 0)).setCell ⟨pb,0,none⟩ (.slice (some ⟨s,0,none⟩) (l.length+1) E)) pb (.slice (some ⟨s,0,none⟩) (l.length+1) E) (l++[y]) (kvs++[.slice none 0 0]) (ys++eH y.kind y.place y.text (.slice a y.attrs.length c) (.slice none 0 0)) place e:=by
 obtain⟨n1,n2,n3⟩:=H.apart w;have C:Below W.heap.size W (W.alloc O):=(ar _ _).alloc (ag _) _;have ai:=C.size;have al:=z.size;have ab:=H.lt;have af:=H.own.lt d (by rw[w];rfl);have aa:ov.ownBlock=some d:=by rw[w];rfl
 rw[aa] at z M;have A:s=d∨W.heap.size+1≤s:=M.imp (fun h=>by injection h) id;have Z:w0.heap.size≤s∧s<p.heap.size:=N.lt s rfl;have L:∀b,b∈bM kvs→b<W.heap.size:=fun b u=>by obtain⟨v,hv,ac⟩:=cQ.1 u;exact PK.next.qY H.Ge v hv b ac
 have hz:=H.Ge.len.2;have F:=KE p s (l.length*5) y.kind y.place y.text (.slice a y.attrs.length c) (.slice none 0 0);have o5:=Nl N hz y.kind y.place y.text (.slice a y.attrs.length c) (.slice none 0 0);generalize xh p s (l.length*5) y.kind y.place y.text (.slice a y.attrs.length c) (.slice none 0 0)=o at*;have B:ak pb o (o.setCell ⟨pb,0,none⟩ (.slice (some ⟨s,0,none⟩) (l.length+1) E)):=(ak.refl pb o).set;have s5:=F.size;have s6:=B.size;have Q:pb≠s:=by rcases A with h|h<;>omega
 have G:∀b,b<W.heap.size→b≠d→o.heap[b]? =W.heap[b]? :=fun b n r=>(F.block b (by omega) (by intro e;injection e with e;rcases A with h|h<;>omega)).t ((z.block b (by omega) (by intro e;injection e with e;exact r e)).t (C.block b n))
 have I:∀b,b<W.heap.size→b≠d→b≠pb→(o.setCell ⟨pb,0,none⟩ (.slice (some ⟨s,0,none⟩) (l.length+1) E)).heap[b]? =W.heap[b]? :=fun b n r T=>(B.block b (by omega) (by intro e;injection e with e;exact T e)).t (G b n r)
 have K:bM (kvs++[.slice none 0 0])=bM kvs:=by rw[fD];simp[bM,Value.ownBlock]
 have x:∀b,PL lo (pb::bM (ov::kvs)) b→b<W.heap.size→PL lo (pb::bM (.slice (some ⟨s,0,none⟩) (l.length+1) E::(kvs++[.slice none 0 0]))) b∧(o.setCell ⟨pb,0,none⟩ (.slice (some ⟨s,0,none⟩) (l.length+1) E)).heap[b]? =W.heap[b]? :=fun b n r=>by
  have J:b≠pb:=fun e=>n.2 (by rw[e];exact eF);have X:b≠d:=fun e=>n.2 (by rw[w,cR,e];exact bY _ eF);have Y:b∉bM kvs:=fun e=>n.2 (by rw[w,cR];exact bY _ (bY _ e));refine⟨⟨n.1,fun k=> ?_⟩,I b r X J⟩;rw[cR,K] at k;rcases bL.1 k with e|k
  ·exact J e
  rcases bL.1 k with e|k
  ·rcases A with h|h<;>omega
  ·exact Y k
 have R:W.heap.size≤(o.setCell ⟨pb,0,none⟩ (.slice (some ⟨s,0,none⟩) (l.length+1) E)).heap.size:=by omega
 have D:=((H.up.t (C.m H.up.size))).grown z (by have:=H.up.size;omega) (fun q hq=>by injection hq with hq;omega);refine⟨(D.t (F.below Z.1 (by have:=D.size;omega))).t (B.below H.far (by have:=D.size;omega)), ?_, ?_, ?_, ?_,H.far,H.Tn,(x _ H.mp.1 (aB.1 H.mp.2).1).1,(x _ H.mp.1 (aB.1 H.mp.2).1).2.t H.mp.2⟩
 ·exact aw (j:=0) ((G pb ab n1).t H.box)
 ·rw[show(l++[y]).length=l.length+1 by simp];exact o5.kept B (.inr fun e=>by injection e with e;exact Q e.symm)
 ·exact gy.snoc (y:=y) (V.cO R x) (by rw[S];exact jO _ _ _ _) (show fm _ _ y.kids [] by rw[S];rfl) (H.Ge.cO R x (fun b u=>I b (L b u) (n2 b u).1 (n2 b u).2))
 ·rw[cR,K];refine lI.2 ⟨fun k=> ?_,lI.2 ⟨fun k=> ?_,n3⟩⟩
  ·rcases bL.1 k with e|k
   ·exact Q e
   ·exact(n2 pb k).2 rfl
  ·have:=L s k;rcases A with h|h
   ·exact(n2 s k).1 h
   ·omega
end
variable{l:Array aaL}{b:Int}{s:List Nd}{r u z E:Nat}{C:Obj}{d j:Option (Nat×Int)}{i:TypeId}{x:aaK}
def pE(o:Option (Nat×Int)):Int:=match o with|none=>0|some p=>(p.1:Int)
def eE(o:Option (Nat×Int)):Int:=match o with|none=>0|some p=>p.2
def vX(o:Option (Nat×Int)):Prop:=∀p,o=some p→p.2≠0
theorem nv(c:vX d)(e:vX j):vX (mD d j):=by
 cases d with
 |none=>exact e
 |some x=>exact c
theorem dI:vX none:=fun p h=>by cases h
theorem eZ(h:b≠0):vX (some (r,b)):=fun p e=>by cases e;exact h
theorem jH{p:Prop} [Decidable p](c:vX d)(e:vX j):vX (if p then d else j):=by split<;>assumption
theorem xi(a:Option (Nat×Int)):mD a none=a:=by cases a<;>rfl
theorem Ac(a b c:Option (Nat×Int)):mD (mD a b) c=mD a (mD b c):=by cases a<;>rfl
theorem aA{W:aaK}{b n:Nat}(h:W.heap[b]? =some (.cells l i)):W.frozen? ⟨b,n,none⟩=false:=aF _ _ _ _ _ h
section
variable{lo:KB}{w0 W W':aaK}{pb:Nat}{ov:aaL}{st:List Nd}{kvs ys:List aaL}{place e:Int}
theorem iK(H:PK lo w0 W pb ov st kvs ys (pE d) (eE d))(j:vX d)(q:Nat)(c:Int):
 Calls Tryz.prog 80 #[.pointer (some ⟨pb,0,none⟩),.int .i64 q,.int .i64 c] W fun b w'=>b=.returned (.tuple #[])∧PK lo w0 w' pb ov st kvs ys (pE (mD d (some (q,c)))) (eE (mD d (some (q,c))))∧ak pb W w':=by
 refine(Nf H q c).m ?_;rintro b w'⟨h,a,i⟩;refine⟨h, ?_,i⟩;cases d with
 |none=>exact a
 |some p=>have e:¬eE (some p)=0:=j p rfl;rw[ae e,ae e] at a;exact a
theorem iX(w:aaK){p q i j:Nat}(u v:aaL)(h:p≠q):(w.setCell ⟨p,i,none⟩ u).setCell ⟨q,j,none⟩ v=(w.setCell ⟨q,j,none⟩ v).setCell ⟨p,i,none⟩ u:=by
 unfold World.setCell;congr 1;refine Array.ext_getElem? fun k=> ?_;simp only[Array.getElem?_modify];by_cases a:p=k
 ·have b:¬q=k:=fun e=>h (a.t e.symm);simp[a,b]
 ·simp[a]
theorem KF(w:aaK)(k q:Int)(t:Bs)(av kv v:aaL)(h:z≠r):xh (w.setCell ⟨z,E,none⟩ v) r u k q t av kv=(xh w r u k q t av kv).setCell ⟨z,E,none⟩ v:=by unfold xh;rw[iX _ _ _ h,iX _ _ _ h,iX _ _ _ h,iX _ _ _ h,iX _ _ _ h]
theorem Dq{W:aaK}{o:List aaL}{p:Int}{t:Bs}{av kv:aaL}(h:W.ownsRow r i 5 (.slice (some ⟨u,0,none⟩) (z+1) E) (z+1) (o++eH b p t av kv))(y:o.length=z*5):
 (W.cell? ⟨u,z*5,none⟩=some (.int .i64 b)∧W.cell? ⟨u,z*5+1,none⟩=some (.int .i64 p)∧W.cell? ⟨u,z*5+2,none⟩=some (.string ⟨t.toArray⟩)∧W.cell? ⟨u,z*5+3,none⟩=some av∧W.cell? ⟨u,z*5+4,none⟩=some kv)∧∀j,W.frozen? ⟨u,j,none⟩=false:=by
 obtain⟨a,c,e,w⟩:=mK h;obtain⟨g',q,H,I,s⟩:=w (by omega);injection e with l D F;rw[q] at l;injection l with l;injection l with l;subst l;have m:∀(j:Nat) (v:aaL),(eH b p t av kv)[j]? =some v→W.cell? ⟨u,z*5+j,none⟩=some v:=fun j v x=>by have:=s (z*5+j) v (by rw[jL (by omega),y,zQ];exact x);rw[dH] at this;exact this
 refine⟨⟨m 0 _ rfl,m 1 _ rfl,m 2 _ rfl,m 3 _ rfl,m 4 _ rfl⟩,fun j=> ?_⟩;rcases h.2 with⟨d,_⟩|⟨G,B,C,d,_,A,_⟩
 ·cases d
 ·injection d with d _ _;injection d with d;injection d with d;subst d;exact aF _ _ _ _ _ A
theorem Jk{pb g b n cap a s:Nat}(h:pb<s∧b<s∧g<s)(c:some pb≠(Value.slice (some ⟨g,0,none⟩) n cap).ownBlock∧some b≠(Value.slice (some ⟨g,0,none⟩) n cap).ownBlock)(d:some a=(Value.slice (some ⟨g,0,none⟩) n cap).ownBlock∨s+1≤a):¬a=pb∧¬pb=a∧¬a=b∧¬b=a:=by
 rcases d with e|e
 ·exact⟨fun q=>c.1 (q▸e),fun q=>c.1 (q.symm▸e),fun q=>c.2 (q▸e),fun q=>c.2 (q.symm▸e)⟩
 ·omega
theorem Ad{w':aaK}{r:Option Nat}{b j n:Nat}(c:x.heap[b]? =some (.cells l i))(h:(x.drew.alloc C).grownBy w' r)(e:some b≠r):w'.frozen? ⟨b,j,none⟩=false:=by have a:=(aB.1 c).1;have d:w'.heap[b]? =(x.drew.alloc C).heap[b]? :=h.block b (by rw[aO];exact Nat.lt_succ_of_lt a) e;exact aA ((d.t (heap_alloc_old x.drew C a)).t c)
def gV(lo:KB)(w0 W:aaK)(pb:Nat)(st:List Nd)(place e:Int):Prop:=∃ov kvs ys,PK lo w0 W pb ov st kvs ys place e
theorem Ae(H:PK lo w0 W pb ov s kvs ys place e)(j:s.length=r)(B:ov=.slice (some ⟨u,0,none⟩) r z){b:Nat}{k p:Int}{QM:List bQ}{a:Option Addr}{c n:Nat}(w:QM.length=n)
 (m:aP (PL lo (pb::bM (ov::kvs))) W QM (.slice a n c))
 (D:x.ownsRow w0.heap.size 37 5 (.slice (some ⟨E,0,none⟩) (r+1) b) (r+1) (ys++eH 0 0 [] (.slice none 0 0) (.slice none 0 0)))
 (o:(W.drew.alloc C).grownBy x (Value.slice (some ⟨u,0,none⟩) r z).ownBlock)(i:some E=(Value.slice (some ⟨u,0,none⟩) r z).ownBlock∨W.heap.size+1≤E):
 gV lo w0 ((((((x.setCell ⟨E,r*5,none⟩ (.int .i64 k)).setCell ⟨E,r*5+1,none⟩ (.int .i64 p)).setCell ⟨E,r*5+2,none⟩ (.string ⟨#[]⟩)).setCell ⟨E,r*5+3,none⟩ (.slice a n c)).setCell ⟨E,r*5+4,none⟩ (.slice none 0 0)).setCell ⟨pb,0,none⟩ (.slice (some ⟨E,0,none⟩) (r+1) b)) pb (s++[.mk k p [] QM []]) place e∧
 gV lo w0 ((((((x.setCell ⟨pb,0,none⟩ (.slice (some ⟨E,0,none⟩) (r+1) b)).setCell ⟨E,r*5,none⟩ (.int .i64 k)).setCell ⟨E,r*5+1,none⟩ (.int .i64 p)).setCell ⟨E,r*5+2,none⟩ (.string ⟨#[]⟩)).setCell ⟨E,r*5+3,none⟩ (.slice a n c)).setCell ⟨E,r*5+4,none⟩ (.slice none 0 0)) pb (s++[.mk k p [] QM []]) place e:=by
 subst j;subst B;subst w;have A:¬pb=E:=by
  obtain⟨n1,-,-⟩:=H.apart (g:=u) rfl;have:=H.lt;rcases i with e|e
  ·intro q;exact n1 (q.t (iS e))
  ·omega
 have h:=PK.push (y:=.mk k p [] QM []) (H.next (ax W 1)) rfl rfl (m.next (ax W 1)) D o i;have d:gV lo w0 _ pb (s++[.mk k p [] QM []]) place e:=⟨_,_,_,h⟩;refine⟨d, ?_⟩;rw[←KF _ _ _ _ _ _ _ A] at d;exact d
def Jl(y:Nd)(n f:Nat):Option (Nat×Int):=mD (if oy y 14 then none else some (f,13)) (if 16<n+1 then some (f,3) else none)
theorem Nn{y:Nd}(H:PK lo w0 W pb ov (s++[y]) kvs ys 0 0)(hl:s.length≤100)(hk:y.kids.length≤10000000)(k:Int)(nm t:Bs)(d:Nat)(z:Int){ta:Option Addr}:
 Calls Tryz.prog 42 #[.pointer (some ⟨pb,0,none⟩),.agg #[.int .i64 k,.string ⟨nm.toArray⟩,.slice ta r u,.string ⟨t.toArray⟩,.int .i64 d,.int .i64 z]] W fun K w'=>K=.returned (.tuple #[])∧gV lo w0 w' pb (s++[y]++[.mk 14 d [] [] []]) (pE (Jl y s.length d)) (eE (Jl y s.length d)):=by
 obtain⟨g,cap,a,c,kv,xs,ks,zs,ho,-⟩:=H.oM;have hA:Below W.heap.size W (W.alloc (.cells (ei k nm (.slice ta r u) t d z).toArray 76)):=(ar _ _).alloc (ag _) _;have T:Hid (PK lo w0 _ pb ov (s++[y]) kvs ys (pE none) (eE none)):=ad (H.next hA);have HR:=ad (au W (.cells (ei k nm (.slice ta r u) t d z).toArray 76));have x:=ad ho;have X:=ad (Jj T.o (by omega) hk 14);have ay:=H.lt;have HP:=ad (show pb≠W.heap.size by omega);have HG:=ad (show g<W.heap.size from(H.own.lt g (by rw[ho];rfl)).2);obtain⟨E,hE⟩:∃E,Jl y s.length d=E:=⟨_,rfl⟩;obtain⟨o1,M⟩:∃o,(if oy y 14 then none else some (d,(13:Int)):Option (Nat×Int))=o:=⟨_,rfl⟩;obtain⟨R,hR⟩:∃R,oy y 14=R:=⟨_,rfl⟩;rw[hE];rw[hR] at X;have Z:=ad (show(if R then none else some (d,(13:Int)):Option (Nat×Int))=o1 by rw[←hR];exact M);have G:=ad (show mD o1 (if 16<s.length+1 then some (d,3) else none)=E by rw[←hE,←M];rfl);have ai:Hid (vX o1):=ad (by rw[←M];exact jH dI (eZ (by decide)));clear H ho hA hR M hE ay;go_enter Tryz.func42,Tryz.ntmps42;go_upto_region 1 with fail;generalize W.alloc (.cells (ei k nm (.slice ta r u) t d z).toArray 76)=W1 at*;generalize W.heap.size=b at*;go_wp2_with fail;refine X.o.m ?_;rintro K w2⟨rfl,ab⟩;have V:=ad (T.o.next ab);have A:=ad ((ab.block _ (aB.1 HR.o).1).t HR.o);clear ab X T HR
 go_upto_if 6 with fail
 go_cut [] (fun F=>Hid (PK lo w0 F pb ov (s++[y]) kvs ys (pE o1) (eE o1))∧Hid (F.heap[b]? =some (.cells (ei k nm (.slice ta r u) t d z).toArray 76)))
 case first=>
  cases R
  ·have S:=ad (iK V.o dI d 13);have w:=aj A.o 4;go_wp2_with fail;refine S.o.m ?_;rintro K w3⟨rfl,C,D⟩;have i:Hid (PK lo w0 w3 pb ov (s++[y]) kvs ys (pE o1) (eE o1)):=ad (by rw[←Z.o];exact C);have q:=ad ((D.block b (aB.1 A.o).1 (by intro e;injection e with e;exact HP.o e.symm)).t A.o);clear C D w;go_wp2_with fail
   go_meet
   exact⟨i,q⟩
  ·have i:Hid (PK lo w0 w2 pb ov (s++[y]) kvs ys (pE o1) (eE o1)):=ad (by rw[←Z.o];exact V.o);go_wp2_with fail
   go_meet
   exact⟨i,A⟩
 case rest=>
  obtain⟨i,q⟩:=hcut;clear V A;obtain⟨N,hN⟩:∃N,s.length+1=N:=⟨_,rfl⟩;rw[hN] at x G;have am:(s++[y]).length=N:=by simp[hN]
  have Y:=ad am;have i1:N≤1000:=by omega
  clear hN am hl hk;have j:=i.o.box.c.c0;rw[x.o] at j
  go_upto_if 16 with fail
  go_cut [] (fun F=>Hid (PK lo w0 F pb ov (s++[y]) kvs ys (pE E) (eE E))∧Hid (F.heap[b]? =some (.cells (ei k nm (.slice ta r u) t d z).toArray 76)))
  case first=>
   by_cases L:16<N
   ·have i4:(16:Int)<(N:Int):=by omega
    have S:=ad (iK i.o ai.o d 3);have w:=aj q.o 4;have Q:=ad ((congrArg (mD o1) (ah L)).symm.t G.o);clear L;go_wp2_with fail;refine S.o.m ?_;rintro K w3⟨rfl,C,D⟩;have h:Hid (PK lo w0 w3 pb ov (s++[y]) kvs ys (pE E) (eE E)):=ad (by rw[←Q.o];exact C);have J:=ad ((D.block b (aB.1 q.o).1 (by intro e;injection e with e;exact HP.o e.symm)).t q.o);clear C D w j;go_wp2_with fail
    go_meet
    exact⟨h,J⟩
   ·have i4:¬(16:Int)<(N:Int):=by omega
    have Q:=ad ((congrArg (mD o1) (ae L)).symm.t G.o);have h:Hid (PK lo w0 _ pb ov (s++[y]) kvs ys (pE E) (eE E)):=ad (by rw[←Q.o,xi];exact i.o);clear L;go_wp2_with fail
    go_meet
    exact⟨h,q⟩
  case rest=>
   clear i q j G ai Z;obtain⟨h,J⟩:=hcut;have j:=h.o.box.c.c0;have aq:=h.o.box.c.f0;rw[x.o] at j;have i2:(0:Int)≤(N:Int):=by omega
   have i3:(N:Int)<(N:Int)+1:=by omega
   have w:=aj J.o 4;have aa:=ad h.o.own;rw[Y.o,x.o] at aa;have HZ:=ad (Y.o▸h.o.Ge.len.2:ys.length=N*5);obtain⟨n1,n2,n3⟩:=h.o.apart x.o;have I:Hid (some pb≠(Value.slice (some ⟨g,0,none⟩) N cap).ownBlock∧some b≠(Value.slice (some ⟨g,0,none⟩) N cap).ownBlock):=ad ⟨fun e=>by injection e with e;exact n1 e,fun e=>absurd (iS e:b=g) (Nat.ne_of_gt HG.o)⟩;have an:=ad (And.intro h.o.lt (And.intro (aB.1 J.o).1 (aa.o.lt g rfl).2));have ao:∀O,(wc.alloc O).cell? ⟨pb,0,none⟩=some (.slice (some ⟨g,0,none⟩) N cap):=fun O=>aI j O;have aN:∀O,(wc.alloc O).cell? ⟨b,4,none⟩=some (.int .i64 d):=fun O=>aI w O;clear n1 n2 n3;go_upto_region 5 with fail;go_region_law
    (refine gM (by rfl) _ _ 35 (by rfl) 37 (.agg #[.int .i64 0,.int .i64 0,.string ⟨#[]⟩,.slice none 0 0,.slice none 0 0]) 5 80 BG Ji (by rfl) (by decide) w0.heap.size wc.drew (.slice (some ⟨g,0,none⟩) N cap) N ys (by rfl) (cp aa.o (ax wc 1)) (eH 0 0 [] (.slice none 0 0) (.slice none 0 0)) (by rfl) (by rfl) (by rfl) (by simp[Value.oneCell']) (by omega) (by omega) (by exact h.o.up.size) ?_;intro g2 a0 w5 af B ac;have ap:=B.cell (aI (W:=wc.drew) j _) I.o.1;have av:w5.frozen? ⟨pb,0,none⟩=false:=Ad (n:=0) h.o.box B I.o.1;have aU:=B.cell (aI (W:=wc.drew) w _) I.o.2;obtain⟨⟨z0,z1,z2,z3,z4⟩,zf⟩:=Dq af HZ.o;obtain⟨m1,m2,m3,m4⟩:=Jk an.o I.o ac;have al:=ad (Ae (k:=14) (p:=d) (QM:=[]) (a:=none) (c:=0) (n:=0) h.o Y.o x.o rfl (.inl ⟨rfl,none,0,rfl⟩) af B ac);clear af B ac)
   all_goals
    clear ap av aU z0 z1 z2 z3 z4 zf m1 m2 m3 m4 j aq w ao aN
    go_end0
    first
     |with_reducible exact ⟨rfl,al.o.1⟩
     |with_reducible exact ⟨rfl,al.o.2⟩
end
variable{p:Nat}{l:Option Addr}
theorem uP:∀(l:List (Option (Nat×Int))) (x:Option (Nat×Int)),fW (l++[x])=mD (fW l) x
 |[],none=>rfl
 |[],some _=>rfl
 |none::r,x=>uP r x
 |some _::_,_=>rfl
theorem Dr{b:Type}{l:List b}{f:b→Option (Nat×Int)}{a:b}(h:l[p]? =some a):fW ((l.take (p+1)).map f)=mD (fW ((l.take p).map f)) (f a):=by rw[List.take_add_one,h,List.map_append];exact uP _ _
theorem xj{a:Type}{n:Nat}(l:List a)(f:a→Option (Nat×Int))(o:Option (Nat×Int))(h:l.length=n):∃F:Nat→Option (Nat×Int),F 0=o∧(∀i x,l[i]? =some x→F (i+1)=mD (F i) (f x))∧F n=mD o (fW (l.map f)):=by
 refine⟨fun i=>mD o (fW ((l.take i).map f)),xi o,fun i x b=> ?_, ?_⟩
 ·show mD o (fW ((l.take (i+1)).map f))=mD (mD o (fW ((l.take i).map f))) (f x);rw[Dr b,Ac]
 ·show mD o (fW ((l.take n).map f))=_;rw[oe (by omega)]
theorem Af:∀{l:List (Option (Nat×Int))},(∀o∈l,vX o)→vX (fW l)
 |[],_=>dI
 |none::r,h=>Af (l:=r) fun o a=>h o (bY _ a)
 |some x::r,h=>h (some x) eF
theorem BJ{W:aaK}{b j:Nat}{c:Array aaL}{T:TypeId}{v:aaL}(h:W.heap[b]? =some (.cells c T))(a:W.cell? ⟨b,j,none⟩=some v):c[j]? =some v:=by unfold World.cell? at a;rw[h] at a;exact a
theorem cg.get{W:aaK}{n c i:Nat}{ls:List Bs}{x:Bs}(h:cg W (.slice l n c) ls)(j:ls[i]? =some x):∃b o,l=some ⟨b,o,none⟩∧W.cell? ⟨b,o+i,none⟩=some (.string ⟨x.toArray⟩):=by
 rcases h with⟨q,k,d,e⟩|⟨b,o,k,d,e,t,p⟩
 ·subst e;cases j
 ·injection d with m r s;exact⟨b,o,m,p i x j⟩
theorem cg.aN{W W':aaK}{pb:Nat}{ov:aaL}{place e:Int}(w:Wd W pb ov place e)(u:∃a n c,ov=.slice a n c){v:aaL}{ls:List Bs}(h:cg W v ls)(m:ak pb W W'):cg W' v ls:=by
 rcases h with h|⟨b,o,c,rfl,p,k,i⟩
 ·exact .inl h
 ·rcases ls with _|⟨x,r⟩
  ·exact .inl ⟨_,_,rfl,rfl⟩
  ·have s:b≠pb:=fun e=>by
    subst e;have d:=BJ w (i 0 x rfl);obtain⟨a,n,y,rfl⟩:=u
    match o,d with
    |0,d=>cases d
    |1,d=>cases d
    |2,d=>cases d
    |_+3,d=>simp at d
   exact .inr ⟨b,o,c,rfl,p,ej k m.size,fun j l q=>(uL (a:=⟨b,o+j,none⟩) (m.block b k (by intro e;injection e with e;exact s e))).t (i j l q)⟩
section
variable{lo:KB}{w0 W W':aaK}{pb:Nat}{ov:aaL}{st:List Nd}{kvs ys:List aaL}{place e:Int}
def Ag(t:Tok)(nm:Bs):Option (Nat×Int):=if t.attrs.any (fun a=>a.name==nm) then none else some (t.src,12)
def Ah(ls:List Bs)(a:bQ):Option (Nat×Int):=if ls.contains a.name&&lJ a.name a.val then none else some (a.place.toNat,12)
theorem Ai(k:Int)(t:Tok):qZ k t=mD (fW (((aE k).1.take (aE k).2).map (Ag t))) (fW (t.attrs.map (Ah (aE k).1))):=rfl
theorem No(t:Tok)(nm:Bs):vX (Ag t nm):=jH dI (eZ (by decide))
theorem Np(ls:List Bs)(a:bQ):vX (Ah ls a):=jH dI (eZ (by decide))
theorem Jm{b:Type}{f:b→Option (Nat×Int)}(h:∀a,vX (f a))(l:List b):vX (fW (l.map f)):=Af fun o c=>by obtain⟨a,_,rfl⟩:=qE.1 c;exact h a
structure PT (lo:KB) (w0 W0 W:aaK) (pb b d:Nat) (ov:aaL) (st:List Nd) (kvs ys:List aaL) (o:Option (Nat×Int)) (k:Int) (ev:aaL) (m:Nat) (ls:List Bs) (t:Tok) (av:aaL):Prop where
 pk:PK lo w0 W pb ov st kvs ys (pE o) (eE o)
 ok:vX o
 tn:ak pb W0 W
 el:W.heap[b]? =some (.cells #[.int .i64 k,ev,.int .i64 m] 143)
 tk:W.heap[d]? =some (.cells (ei t.kind t.name av t.text t.src t.bJ).toArray 76)
 ss:cg W ev ls
 at_:aP (PL lo (pb::bM (ov::kvs))) W t.attrs av
 ne:pb<b∧pb<d
theorem PK.Wv(H:PK lo w0 W pb ov st kvs ys place e):∃a n c,ov=.slice a n c:=by obtain⟨a,c,h⟩:=aX H.own;exact⟨a,_,c,h⟩
section
variable{W0:aaK}{b d:Nat}{o:Option (Nat×Int)}{k:Int}{ev:aaL}{m:Nat}{ls:List Bs}{t:Tok}{av:aaL}
theorem PT.next(H:PT lo w0 W0 W pb b d ov st kvs ys o k ev m ls t av)(a:Below W.heap.size W W'):PT lo w0 W0 W' pb b d ov st kvs ys o k ev m ls t av:=
 ⟨H.pk.next a,H.ok,H.tn.t (ak.ai a),(a.block _ (aB.1 H.el).1).t H.el,(a.block _ (aB.1 H.tk).1).t H.tk,H.ss.below a,H.at_.next a,H.ne⟩
theorem PT.aN{c:Option (Nat×Int)}(H:PT lo w0 W0 W pb b d ov st kvs ys o k ev m ls t av)(j:PK lo w0 W' pb ov st kvs ys (pE c) (eE c))(n:vX c)(a:ak pb W W'):PT lo w0 W0 W' pb b d ov st kvs ys c k ev m ls t av:=by have l:=H.ne;refine⟨j,n,H.tn.t a,(a.block _ (aB.1 H.el).1 (by intro e;injection e with e;omega)).t H.el,(a.block _ (aB.1 H.tk).1 (by intro e;injection e with e;omega)).t H.tk,H.ss.aN H.pk.box H.pk.Wv a, ?_,l⟩;exact H.at_.cO a.size fun q h i=>⟨h,a.block q i (by intro e;cases e;exact h.2 eF)⟩
theorem PT.Ww(H:PT lo w0 W0 W pb b d ov st kvs ys o k ev m ls t av):PT lo w0 W0 W pb b d ov st kvs ys (mD o none) k ev m ls t av:=by rw[xi];exact H
theorem PT.c(H:PT lo w0 W0 W pb b d ov st kvs ys o k ev m ls t av):W.cell? ⟨b,1,none⟩=some ev∧W.cell? ⟨b,2,none⟩=some (.int .i64 m)∧W.cell? ⟨d,2,none⟩=some av∧W.cell? ⟨d,4,none⟩=some (.int .i64 t.src):=
 ⟨tH _ _ 1 _ _ _ H.el,tH _ _ 2 _ _ _ H.el,tH _ _ 2 _ _ _ H.tk,tH _ _ 4 _ _ _ H.tk⟩
end
theorem KG{o:Option (Nat×Int)}(ao:PK lo w0 W pb ov st kvs ys (pE o) (eE o))(ho:vX o)(r:Int){k:Int}(hs:cg W (.slice l (aE k).1.length p) (aE k).1)(X:(aE k).2≤(aE k).1.length)(an:(aE k).1.length≤3)(am:(aE k).1.length≤p)
 {t:Tok}{ta:Option Addr}{tc:Nat}(a6:aP (PL lo (pb::bM (ov::kvs))) W t.attrs (.slice ta t.attrs.length tc))(hl:t.attrs.length≤1000000)(hp:∀a∈t.attrs,0≤a.place):
 Calls Tryz.prog 83 #[.pointer (some ⟨pb,0,none⟩),.agg #[.int .i64 r,.slice l (aE k).1.length p,.int .i64 ((aE k).2:Int)],.agg #[.int .i64 t.kind,.string ⟨t.name.toArray⟩,.slice ta t.attrs.length tc,.string ⟨t.text.toArray⟩,.int .i64 t.src,.int .i64 t.bJ]] W
  fun O w'=>O=.returned (.tuple #[])∧PK lo w0 w' pb ov st kvs ys (pE (mD o (qZ k t))) (eE (mD o (qZ k t)))∧ak pb W w':=by
 rw[Ai];obtain⟨ls,a8⟩:∃ls,(aE k).1=ls:=⟨_,rfl⟩;obtain⟨m,a9⟩:∃m,(aE k).2=m:=⟨_,rfl⟩;rw[a8] at hs X an am⊢;rw[a9] at X⊢;obtain⟨n,hn⟩:∃n,ls.length=n:=⟨_,rfl⟩;have T:Below W.heap.size W ((W.alloc (.cells #[.int .i64 r,.slice l n p,.int .i64 m] 143)).alloc (.cells (ei t.kind t.name (.slice ta t.attrs.length tc) t.text t.src t.bJ).toArray 76)):=
  ((ar _ _).alloc (ag _) _).alloc (by rw[aO];omega) _
 have a0:=ao.lt;rw[hn] at hs;have HT:Hid (PT lo w0 W _ pb W.heap.size (W.heap.size+1) ov st kvs ys o r (.slice l n p) m ls t (.slice ta t.attrs.length tc)):=ad
  ⟨ao.next T,ho,ak.ai T,jX W _ _,iT W _ _,hs.below T,a6.next T,a0,Nat.lt_succ_of_lt a0⟩
 rw[hn] at X an am⊢;have HN:=ad hn;have HP:=ad hp;obtain⟨N,V⟩:∃N,t.attrs.length=N:=⟨_,rfl⟩;obtain⟨F,hF⟩:=xj (n:=m) (ls.take m) (Ag t) o (by rw[gu];omega);obtain⟨G,a4,a5,ay⟩:=xj t.attrs (Ah ls) (F m) V;rw[hF.2.2,Ac] at ay;have HF:=ad hF;have HG:=ad (And.intro a4 (And.intro a5 ay));obtain⟨E,hE⟩:∃E,mD o (mD (fW ((ls.take m).map (Ag t))) (fW (t.attrs.map (Ah ls))))=E:=⟨_,rfl⟩;rw[hE] at HG⊢;have i1:(m:Int)≤(p:Int):=by omega
 have i0:(0:Int)≤(m:Int):=by omega
 have HM:=ad (And.intro X (And.intro an am));have af:=ad V;rw[V] at HT⊢;have i4:m≤3:=by omega
 rw[V] at hl;have HL:=ad hl;clear ao ho hs a6 T a0 a8 a9 hn hp X an am V hE hF a4 a5 ay;go_enter Tryz.func83,Tryz.ntmps83;go_upto_region 1 with fail;generalize(W.alloc (.cells #[.int .i64 r,.slice l n p,.int .i64 m] 143)).alloc (.cells (ei t.kind t.name (.slice ta N tc) t.text t.src t.bJ).toArray 76)=W1 at*;generalize W.heap.size=b at*;obtain⟨u,y,z,A⟩:=HT.o.c;go_upto_region 2 with fail;have a2:Hid (PT lo w0 W W1 pb b (b+1) ov st kvs ys (F 0) r (.slice l n p) m ls t (.slice ta N tc)):=ad (by rw[HF.o.1];exact HT.o);clear HT u y z A;have bd:∀(fn:Fn) (first cap:Array aaL) (w:aaK),(Instr.makeFunc fn first cap).run Tryz.prog w=.ok (.func fn first cap) w:=fun _ _ _ _=>rfl
 go_loopw [16] (fun J wr=>∃i:Nat,i≤m∧J=.int .i64 i∧Hid (PT lo w0 W wr pb b (b+1) ov st kvs ys (F i) r (.slice l n p) m ls t (.slice ta N tc))) (fun J _=>m-(intOf J).toNat)
 case atStart=>exact⟨0,aH _,rfl,a2⟩
 case round=>
  obtain⟨i,hi,rfl,S⟩:=hrel;clear a2;by_cases aU:i<m
  ·have i2:(i:Int)<(m:Int):=by omega
   have i3:(0:Int)≤(i:Int):=by omega
   obtain⟨x,D⟩:∃x,ls[i]? =some x:=⟨_,cA (by rw[HN.o];have:=HM.o.1;omega)⟩;have a1:=ad (HF.o.2.1 i x (by rw[XR aU];exact D));obtain⟨M,Q,rfl,cx⟩:=S.o.ss.get D;have hA3:Below wr.heap.size wr (wr.alloc (.cells #[.string ⟨x.toArray⟩] 9)):=(ar _ _).alloc (ag _) _;have q:=ad (S.o.next hA3);have ac:=ad (au wr (.cells #[.string ⟨x.toArray⟩] 9));clear D hA3;go_upto_region 4 with fail;generalize wr.alloc (.cells #[.string ⟨x.toArray⟩] 9)=H at*;generalize wr.heap.size=ab at*;have ap:=ad (lL 121 #[.pointer (some ⟨ab,0,none⟩)] (fun a=>a.name==x) t.attrs (by rw[af.o];exact HL.o) ta tc H (fun vs w=>cP Tryz.func121 (by kernel_rfl) rfl vs w)
    (fun a _ W4 h4=>Gg x a ab W4 (tH _ _ 0 _ _ _ ((h4.block _ (aB.1 ac.o).1).t ac.o))) _ (by rw[af.o];exact q.o.at_))
   obtain⟨d,I⟩:∃d,(t.attrs.any fun a=>a.name==x)=d:=⟨_,rfl⟩;rw[I,af.o] at ap;have K:=ad (show Ag t x=if d then none else some (t.src,12) by unfold Ag;rw[I]);obtain⟨u,y,z,A⟩:=q.o.c;clear I cx;go_wp2_with fail;refine ap.o.m ?_;rintro e R⟨rfl,a7⟩;have L:=ad (q.o.next a7);clear a7 u y z A q ap;obtain⟨u,y,z,A⟩:=L.o.c;rcases d with _|_
   ·have aa:=ad (iK L.o.pk L.o.ok t.src 12);go_wp2_with fail;refine aa.o.m ?_;rintro O Y⟨rfl,B,C⟩;have s:Hid (PT lo w0 W Y pb b (b+1) ov st kvs ys (F (i+1)) r (.slice (some ⟨M,Q,none⟩) n p) m ls t (.slice ta N tc)):=ad (by rw[a1.o,K.o];exact L.o.aN B (nv L.o.ok (eZ (by decide))) C);clear B C;go_wp2_with fail
    go_roundw
    case rel=>exact⟨i+1,by omega,by go_num,s⟩
    case measure=>(simp[intOf]<;>omega)
   ·have s:Hid (PT lo w0 W R pb b (b+1) ov st kvs ys (F (i+1)) r (.slice (some ⟨M,Q,none⟩) n p) m ls t (.slice ta N tc)):=ad (by rw[a1.o,K.o];exact L.o.Ww);go_wp2_with fail
    go_roundw
    case rel=>exact⟨i+1,by omega,by go_num,s⟩
    case measure=>(simp[intOf]<;>omega)
  ·obtain rfl:i=m:=by omega
   have a3:Hid (PT lo w0 W wr pb b (b+1) ov st kvs ys (G 0) r (.slice l n p) i ls t (.slice ta N tc)):=ad (by rw[HG.o.1];exact S.o);obtain⟨u,y,z,A⟩:=S.o.c;clear S HF hi;go_upto_region 8 with fail;clear u y z A i0 i1
   go_loopw [33] (fun J wr=>∃j:Nat,j≤N∧J=.int .i64 j∧Hid (PT lo w0 W wr pb b (b+1) ov st kvs ys (G j) r (.slice l n p) i ls t (.slice ta N tc))) (fun J _=>N-(intOf J).toNat)
   case atStart=>exact⟨0,aH _,rfl,a3⟩
   case round=>
    obtain⟨j,hj,rfl,al⟩:=hrel;clear a3;by_cases aU:j<N
    ·have i2:(j:Int)<(N:Int):=by omega
     have i3:(0:Int)≤(j:Int):=by omega
     obtain⟨x,D⟩:∃x,t.attrs[j]? =some x:=⟨_,cA (by rw[af.o];exact aU)⟩;have aq:=ad (HG.o.2.1 j x D);have bb:=ad (Int.toNat_of_nonneg (HP.o x (eQ D)));obtain⟨M,Q,rfl,-,-,-,hc⟩:=al.o.at_.get D;obtain⟨x0,x1,x2⟩:=hc ⟨wr,ar _ _⟩;dsimp only at x0 x1 x2;have hA3:Below wr.heap.size wr (wr.alloc (.cells (BF x).toArray 159)):=(ar _ _).alloc (ag _) _;have q:=ad (al.o.next hA3);have ac:=ad (au wr (.cells (BF x).toArray 159));clear D hA3 hc;go_upto_region 10 with fail;generalize wr.alloc (.cells (BF x).toArray 159)=H at*;generalize wr.heap.size=ab at*;have Z:=ad (tP H _ ls x.name q.o.ss (by rw[HN.o];have:=HM.o;omega));have av:=ad (Kz H x.name x.val);obtain⟨d,I⟩:∃d,ls.contains x.name=d:=⟨_,rfl⟩;obtain⟨v,hv⟩:∃v,lJ x.name x.val=v:=⟨_,rfl⟩;rw[I] at Z;rw[hv] at av;have K:=ad (show Ah ls x=if(d&&v) then none else some (x.place.toNat,12) by unfold Ah;rw[I,hv]);have aa:Hid (Calls Tryz.prog 80 #[.pointer (some ⟨pb,0,none⟩),.int .i64 x.place,.int .i64 12] H fun O w'=>O=.returned (.tuple #[])∧PK lo w0 w' pb ov st kvs ys (pE (mD (G j) (some (x.place.toNat,12)))) (eE (mD (G j) (some (x.place.toNat,12))))∧ak pb H w'):=
      ad (by have h:=iK q.o.pk q.o.ok x.place.toNat 12;rw[bb.o] at h;exact h)
     obtain⟨u,y,z,A⟩:=q.o.c;obtain⟨y0,y1,y2⟩:=qX3 (aj ac.o) 0 1 2;clear I hv x0 x1 x2;rcases d with _|_
     ·go_wp2_with fail;refine Z.o.m ?_;rintro e R⟨rfl,rfl⟩;go_wp2_with fail;refine aa.o.m ?_;rintro O Y⟨rfl,B,C⟩;have s:Hid (PT lo w0 W Y pb b (b+1) ov st kvs ys (G (j+1)) r (.slice l n p) i ls t (.slice (some ⟨M,Q,none⟩) N tc)):=ad (by rw[aq.o,K.o];exact q.o.aN B (nv q.o.ok (eZ (by decide))) C);clear B C y0 y1 y2 u y z A;go_wp2_with fail
      go_roundw
      case rel=>exact⟨j+1,by omega,by go_num,s⟩
      case measure=>(simp[intOf]<;>omega)
     ·rcases v with _|_
      ·go_wp2_with fail;refine Z.o.m ?_;rintro e R⟨rfl,rfl⟩;go_wp2_with fail;refine av.o.m ?_;rintro e R⟨rfl,rfl⟩;go_wp2_with fail;refine aa.o.m ?_;rintro O Y⟨rfl,B,C⟩;have s:Hid (PT lo w0 W Y pb b (b+1) ov st kvs ys (G (j+1)) r (.slice l n p) i ls t (.slice (some ⟨M,Q,none⟩) N tc)):=ad (by rw[aq.o,K.o];exact q.o.aN B (nv q.o.ok (eZ (by decide))) C);clear B C y0 y1 y2 u y z A;go_wp2_with fail
       go_roundw
       case rel=>exact⟨j+1,by omega,by go_num,s⟩
       case measure=>(simp[intOf]<;>omega)
      ·have s:Hid (PT lo w0 W H pb b (b+1) ov st kvs ys (G (j+1)) r (.slice l n p) i ls t (.slice (some ⟨M,Q,none⟩) N tc)):=ad (by rw[aq.o,K.o];exact q.o.Ww);go_wp2_with fail;refine Z.o.m ?_;rintro e R⟨rfl,rfl⟩;go_wp2_with fail;refine av.o.m ?_;rintro e R⟨rfl,rfl⟩;go_wp2_with fail
       go_roundw
       case rel=>exact⟨j+1,by omega,by go_num,s⟩
       case measure=>(simp[intOf]<;>omega)
    ·obtain rfl:j=N:=by omega
     have HE:Hid (PK lo w0 wr pb ov st kvs ys (pE E) (eE E)∧ak pb W wr):=ad ⟨by rw[←HG.o.2.2];exact al.o.pk,al.o.tn⟩;go_wp2_with fail
     go_end0
     exact⟨rfl,HE.o⟩
end
theorem Gi(k:Int):(aE k).2≤(aE k).1.length∧(aE k).1.length≤3:=by
 unfold aE
 repeat' split
 all_goals decide
theorem cg.Wv{W:aaK}{v:aaL}{ls:List Bs}(h:cg W v ls):∃a c,v=.slice a ls.length c∧ls.length≤c:=by
 rcases h with⟨a,c,rfl,rfl⟩|⟨b,o,c,rfl,d,_⟩
 ·exact⟨a,c,rfl,aH _⟩
 ·exact⟨_,c,rfl,d⟩
def uQ(t:Tok):Bool:=decide (kindOf t.name=3∨kindOf t.name=6)
def Q2(y:Nd)(t:Tok):Option (Nat×Int):=if(uQ t !=decide (t.kind=3))|| !oy y (kindOf t.name) then some (t.src,13) else none
theorem Aj(k:Int)(t:Tok):vX (qZ k t):=by rw[Ai];exact nv (Jm (No t) _) (Jm (Np _) _)
def Nq(y:Nd)(n:Nat)(t:Tok):Option (Nat×Int):=mD (mD (Q2 y t) (if 16<n+1 then some (t.src,3) else none)) (qZ (kindOf t.name) t)
def KH(l:List Nd)(y:Nd)(t:Tok):List Nd:=if uQ t then l++[fV y (.mk (kindOf t.name) t.src [] t.attrs [])] else l++[y]++[.mk (kindOf t.name) t.src [] t.attrs []]
section
variable{lo:KB}{w0 W W':aaK}{pb:Nat}{ov:aaL}{st:List Nd}{kvs ys:List aaL}{place e:Int}
theorem KI{l:List Nd}{y:Nd}(ac:PK lo w0 W pb ov (l++[y]) kvs ys 0 0)(hl:l.length≤100)(hk:y.kids.length≤1000000){t:Tok}{ta:Option Addr}{tc:Nat}(bs:aP (PL lo (pb::bM (ov::kvs))) W t.attrs (.slice ta t.attrs.length tc))(b1:t.attrs.length≤1000000)(hp:∀a∈t.attrs,0≤a.place):
 Calls Tryz.prog 41 #[.pointer (some ⟨pb,0,none⟩),.agg #[.int .i64 t.kind,.string ⟨t.name.toArray⟩,.slice ta t.attrs.length tc,.string ⟨t.text.toArray⟩,.int .i64 t.src,.int .i64 t.bJ]] W
  fun F w'=>F=.returned (.tuple #[])∧gV lo w0 w' pb (KH l y t) (pE (Nq y l.length t)) (eE (Nq y l.length t)):=by
 obtain⟨g,cap,-,-,-,-,-,-,ho,-⟩:=ac.oM;have hA:Below W.heap.size W (W.alloc (.cells (ei t.kind t.name (.slice ta t.attrs.length tc) t.text t.src t.bJ).toArray 76)):=(ar _ _).alloc (ag _) _;have HK:Hid (PK lo w0 _ pb ov (l++[y]) kvs ys (pE none) (eE none)):=ad (ac.next hA);have HA:=ad (bs.next hA);have HR:=ad (au W (.cells (ei t.kind t.name (.slice ta t.attrs.length tc) t.text t.src t.bJ).toArray 76));have X:=ad ho;have b2:=ac.lt;have HP:=ad b2;have HG:=ad (show g<W.heap.size from(ac.own.lt g (by rw[ho];rfl)).2);obtain⟨S,hS⟩:∃S,KH l y t=S:=⟨_,rfl⟩;obtain⟨E,hE⟩:∃E,Nq y l.length t=E:=⟨_,rfl⟩;rw[hS,hE];have HS:=ad hS;have HE:=ad hE;have K:=ad (And.intro hl (And.intro hk (And.intro b1 hp)));have a7:=ad (fun w=>Nh w t.name);obtain⟨k,aq⟩:∃k,kindOf t.name=k:=⟨_,rfl⟩;have ay:=ad aq;rw[aq] at a7;have am:=ad (show uQ t=decide (k=3∨k=6) by unfold uQ;rw[aq]);have Q:=ad (show Q2 y t=if(uQ t !=decide (t.kind=3))|| !oy y k then some (t.src,13) else none by unfold Q2;rw[aq]);obtain⟨N,hN⟩:∃N,t.attrs.length=N:=⟨_,rfl⟩;have al:=ad hN;rw[hN] at HK HA HR⊢;clear ac ho bs hA b2 hl hk b1 hp hS hE aq hN;go_enter Tryz.func41,Tryz.ntmps41;go_upto_region 1 with fail;generalize W.alloc (.cells (ei t.kind t.name (.slice ta N tc) t.text t.src t.bJ).toArray 76)=H at*;generalize W.heap.size=d at*;have c1:=aj HR.o 1;go_wp2_with fail;refine(a7.o H).m ?_;rintro F w2⟨a1,ev,rfl,bl⟩;obtain⟨C,D,rfl,bv⟩:=bl.Wv;have hA3:Below w2.heap.size w2 (w2.alloc (.cells #[.int .i64 k,.slice C (aE k).1.length D,.int .i64 ((aE k).2:Int)] 143)):=(ar _ _).alloc (ag _) _;have an:=a1.t (hA3.m a1.size);have i:Hid (PT lo w0 H _ pb w2.heap.size d ov (l++[y]) kvs ys none k (.slice C (aE k).1.length D) (aE k).2 (aE k).1 t (.slice ta N tc)):=ad
  ⟨HK.o.next an,dI,ak.ai an,au _ _,(an.block _ (aB.1 HR.o).1).t HR.o,bl.below hA3,HA.o.next an,by have:=HK.o.lt;have:=a1.size;omega,HP.o⟩
 clear a1 an hA3 bl c1 HK HR a7 HA;have a3:=ad (Gi k);have bo:=ad bv;clear bv;obtain⟨x,bf⟩:∃x,uQ t=x:=⟨_,rfl⟩;rw[bf] at am Q;have a5:=ad bf;clear bf;go_upto_region 2 with fail;generalize w2.alloc (.cells #[.int .i64 k,.slice C (aE k).1.length D,.int .i64 ((aE k).2:Int)] 143)=W3 at*;generalize w2.heap.size=b at*;have Y:=aj i.o.el 0
 go_cut [5] (fun s wx=>s=.bool x∧Hid (PT lo w0 H wx pb b d ov (l++[y]) kvs ys none k (.slice C (aE k).1.length D) (aE k).2 (aE k).1 t (.slice ta N tc)))
 case first=>
  by_cases q:k=3
  ·have I:=ad (show x=true by rw[am.o];simp[q]);have q3:=jY q;clear q;go_wp2_with fail
   go_meet
   exact⟨by rw[I.o],i⟩
  ·by_cases h6:k=6
   ·have I:=ad (show x=true by rw[am.o];simp[h6]);have q3:=eS q;have q6:=jY h6;clear q h6;go_wp2_with fail
    go_meet
    exact⟨by rw[I.o],i⟩
   ·have I:=ad (show x=false by rw[am.o];simp[q,h6]);have q3:=eS q;have q6:=eS h6;clear q h6;go_wp2_with fail
    go_meet
    exact⟨by rw[I.o],i⟩
 case rest=>
  clear i Y am;obtain⟨rfl,i⟩:=hcut;have Y:=aj i.o.el 0;have x0:=aj i.o.tk 0;obtain⟨R,hR⟩:∃R,oy y k=R:=⟨_,rfl⟩;rw[hR] at Q;have HM:=ad (Jj i.o.pk (by have:=K.o.1;omega) (by have:=K.o.2.1;omega) k);rw[hR] at HM;clear hR;obtain⟨o1,bi⟩:∃o,Q2 y t=o:=⟨_,rfl⟩;rw[bi] at Q;have br:=ad bi;have a8:Hid (vX o1):=ad (by rw[Q.o];exact jH (eZ (by decide)) dI);clear bi;obtain⟨u,be⟩:∃u,((x !=decide (t.kind=3))|| !R)=u:=⟨_,rfl⟩;rw[be] at Q;have af:=ad be;clear be;go_upto_region 3 with fail
  go_cut [29] (fun s wx=>s=.bool u∧Hid (PT lo w0 H wx pb b d ov (l++[y]) kvs ys none k (.slice C (aE k).1.length D) (aE k).2 (aE k).1 t (.slice ta N tc)))
  case first=>
   by_cases q:t.kind=3
   ·have r:=ad (show((x !=true)|| !R)=u by rw[←af.o];simp[q]);have q3:=jY q;clear q af;cases x
    ·have V:=ad (show u=true by rw[←r.o];rfl);clear r;go_wp2_with fail
     go_meet
     exact⟨by rw[V.o],i⟩
    ·have V:=ad (show u= !R by rw[←r.o];rfl);clear r;go_wp2_with fail;refine HM.o.m ?_;rintro F w4⟨rfl,ao⟩;have B:=ad (i.o.next ao);clear ao;go_wp2_with fail
     go_meet
     exact⟨by rw[V.o],B⟩
   ·have r:=ad (show((x !=false)|| !R)=u by rw[←af.o];simp[q]);have q3:=eS q;clear q af;cases x
    ·have V:=ad (show u= !R by rw[←r.o];rfl);clear r;go_wp2_with fail;refine HM.o.m ?_;rintro F w4⟨rfl,ao⟩;have B:=ad (i.o.next ao);clear ao;go_wp2_with fail
     go_meet
     exact⟨by rw[V.o],B⟩
    ·have V:=ad (show u=true by rw[←r.o];rfl);clear r;go_wp2_with fail
     go_meet
     exact⟨by rw[V.o],i⟩
  case rest=>
   clear i Y x0 af HM;obtain⟨rfl,i⟩:=hcut
   go_upto_if 29 with fail
   go_cut [] (fun wx=>Hid (PT lo w0 H wx pb b d ov (l++[y]) kvs ys o1 k (.slice C (aE k).1.length D) (aE k).2 (aE k).1 t (.slice ta N tc)))
   case first=>
    cases u
    ·have B:Hid (PT lo w0 H _ pb b d ov (l++[y]) kvs ys o1 k (.slice C (aE k).1.length D) (aE k).2 (aE k).1 t (.slice ta N tc)):=ad (by rw[Q.o];exact i.o);go_wp2_with fail
     go_meet
     exact B
    ·have HF:=ad (iK i.o.pk i.o.ok t.src 13);obtain⟨-,-,-,x4⟩:=i.o.c;go_wp2_with fail;refine HF.o.m ?_;rintro F w4⟨rfl,ap,av⟩;have B:Hid (PT lo w0 H w4 pb b d ov (l++[y]) kvs ys o1 k (.slice C (aE k).1.length D) (aE k).2 (aE k).1 t (.slice ta N tc)):=ad (i.o.aN (by rw[Q.o];exact ap) a8.o av);clear ap av x4;go_wp2_with fail
     go_meet
     exact B
   case rest=>
    clear i Q;have i:=hcut;clear hcut;obtain⟨o2,a2⟩:∃o,mD o1 (if 16<l.length+1 then some (t.src,(3:Int)) else none)=o:=⟨_,rfl⟩;obtain⟨L,hL⟩:∃L,l.length+1=L:=⟨_,rfl⟩;rw[hL] at a2 X;have aU:=ad a2;have bp:=ad hL;have a9:Hid (vX o2):=ad (by rw[←a2];exact nv a8.o (jH (eZ (by decide)) dI));have j1:L≤1000:=by have:=K.o.1;omega
    have T:=i.o.pk.box.c.c0;rw[X.o] at T;clear hL a2
    go_upto_if 39 with fail
    go_cut [] (fun wx=>Hid (PT lo w0 H wx pb b d ov (l++[y]) kvs ys o2 k (.slice C (aE k).1.length D) (aE k).2 (aE k).1 t (.slice ta N tc)))
    case first=>
     by_cases hd:16<L
     ·have i4:(16:Int)<(L:Int):=by omega
      have HF:=ad (iK i.o.pk i.o.ok t.src 3);obtain⟨-,-,-,x4⟩:=i.o.c;have r:=ad ((congrArg (mD o1) (ah hd)).symm.t aU.o);clear hd;go_wp2_with fail;refine HF.o.m ?_;rintro F w4⟨rfl,ap,av⟩;have B:Hid (PT lo w0 H w4 pb b d ov (l++[y]) kvs ys o2 k (.slice C (aE k).1.length D) (aE k).2 (aE k).1 t (.slice ta N tc)):=ad (i.o.aN (by rw[←r.o];exact ap) a9.o av);clear ap av x4 T;go_wp2_with fail
      go_meet
      exact B
     ·have i4:¬(16:Int)<(L:Int):=by omega
      have r:=ad ((congrArg (mD o1) (ae hd)).symm.t aU.o);have B:Hid (PT lo w0 H _ pb b d ov (l++[y]) kvs ys o2 k (.slice C (aE k).1.length D) (aE k).2 (aE k).1 t (.slice ta N tc)):=ad (by rw[←r.o];exact i.o.Ww);clear hd;go_wp2_with fail
      go_meet
      exact B
    case rest=>
     clear i T;have i:=hcut;clear hcut;have I:=ad (show mD o2 (qZ k t)=E by rw[←HE.o,Nq,br.o,ay.o,bp.o,aU.o]);have a4:=ad (KG (k:=k) i.o.pk i.o.ok k i.o.ss a3.o.1 a3.o.2 bo.o (ta:=ta) (tc:=tc) (by rw[al.o];exact i.o.at_) K.o.2.2.1 K.o.2.2.2);rw[al.o,I.o] at a4;go_upto_region 7 with fail;have bx:=i.o.el;have b4:=i.o.tk;obtain⟨Y,u,e2⟩:=qX3 (aj bx) 0 1 2;obtain⟨x0,x1,x2,x3,x4,x5⟩:=qX6 (aj b4) 0 1 2 3 4 5;clear bx b4;go_wp2_with fail;refine a4.o.m ?_;rintro F Z⟨rfl,b0,b3⟩;have ab:=ad (i.o.aN b0 (by rw[←I.o];exact nv a9.o (Aj k t)) b3);clear b0 b3 Y u e2 x0 x1 x2 x3 x4 x5 a4 i;have Y:=aj ab.o.el 0;obtain⟨-,-,x2,x4⟩:=ab.o.c;go_upto_region 9 with fail;clear Y x2 x4;have hA6:Below Z.heap.size Z (Z.alloc (.cells (eH k t.src [] (.slice ta N tc) (.slice none 0 0)).toArray 37)):=(ar _ _).alloc (ag _) _;have G:=ad (ab.o.pk.next hA6);have bm:=ad (ab.o.at_.next hA6);have aa:=ad (au Z (.cells (eH k t.src [] (.slice ta N tc) (.slice none 0 0)).toArray 37));have b6:=ad (show g<Z.heap.size from(ab.o.pk.own.lt g (by rw[X.o];rfl)).2);clear hA6 ab;have a6:=ad (show(l++[y]).length=L by simp[bp.o]);generalize Z.alloc (.cells #[.int .i64 k,.int .i64 t.src,.string ⟨#[]⟩,.slice ta N tc,.slice none 0 0] 37)=j at*;generalize Z.heap.size=A at*;have n0:j.cell? ⟨A,0,none⟩=some (.int .i64 k):=tH _ _ 0 _ _ _ aa.o;have n1:j.cell? ⟨A,1,none⟩=some (.int .i64 t.src):=tH _ _ 1 _ _ _ aa.o;have n2:j.cell? ⟨A,2,none⟩=some (.string ⟨#[]⟩):=tH _ _ 2 _ _ _ aa.o;have n3:j.cell? ⟨A,3,none⟩=some (.slice ta N tc):=tH _ _ 3 _ _ _ aa.o;have n4:j.cell? ⟨A,4,none⟩=some (.slice none 0 0):=tH _ _ 4 _ _ _ aa.o;cases x
     ·have a0:=ad (show l++[y]++[.mk k t.src [] t.attrs []]=S by rw[←HS.o,KH,a5.o,ay.o];rfl);have T:=G.o.box.c.c0;have ca:=G.o.box.c.f0;rw[X.o] at T;have i2:(0:Int)≤(L:Int):=by omega
      have i3:(L:Int)<(L:Int)+1:=by omega
      have bb:=ad G.o.own;rw[a6.o,X.o] at bb;have HZ:=ad (a6.o▸G.o.Ge.len.2:ys.length=L*5);obtain⟨m1,-,-⟩:=G.o.apart X.o;have M:Hid (some pb≠(Value.slice (some ⟨g,0,none⟩) L cap).ownBlock∧some A≠(Value.slice (some ⟨g,0,none⟩) L cap).ownBlock):=ad ⟨fun e=>by injection e with e;exact m1 e,fun e=>absurd (iS e:A=g) (Nat.ne_of_gt b6.o)⟩;have b7:=ad (And.intro G.o.lt (And.intro (aB.1 aa.o).1 (bb.o.lt g rfl).2));have b8:∀O,(j.alloc O).cell? ⟨pb,0,none⟩=some (.slice (some ⟨g,0,none⟩) L cap):=fun O=>aI T O;have cd:∀O,(j.alloc O).cell? ⟨A,0,none⟩=some (.int .i64 k):=fun O=>aI n0 O;have ce:∀O,(j.alloc O).cell? ⟨A,1,none⟩=some (.int .i64 t.src):=fun O=>aI n1 O;have ch:∀O,(j.alloc O).cell? ⟨A,2,none⟩=some (.string ⟨#[]⟩):=fun O=>aI n2 O;have ci:∀O,(j.alloc O).cell? ⟨A,3,none⟩=some (.slice ta N tc):=fun O=>aI n3 O;have ck:∀O,(j.alloc O).cell? ⟨A,4,none⟩=some (.slice none 0 0):=fun O=>aI n4 O;clear m1 HE br a8 aU a9 I a3 bo HS ay a5 HP HG K;go_upto_region 11 with fail;go_region_law
       (refine gM (by rfl) _ _ 35 (by rfl) 37 (.agg #[.int .i64 0,.int .i64 0,.string ⟨#[]⟩,.slice none 0 0,.slice none 0 0]) 5 80 BG Ji (by rfl) (by decide) w0.heap.size j.drew (.slice (some ⟨g,0,none⟩) L cap) L ys (by rfl) (cp bb.o (ax j 1)) (eH 0 0 [] (.slice none 0 0) (.slice none 0 0)) (by rfl) (by rfl) (by rfl) (by simp[Value.oneCell']) (by omega) (by omega) (by exact G.o.up.size) ?_;intro g2 cK w7 bk J bg;have b9:=J.cell (aI (W:=j.drew) T _) M.o.1;have cb:w7.frozen? ⟨pb,0,none⟩=false:=Ad (n:=0) G.o.box J M.o.1;have cl:=J.cell (aI (W:=j.drew) n0 _) M.o.2;have cn:=J.cell (aI (W:=j.drew) n1 _) M.o.2;have co:=J.cell (aI (W:=j.drew) n2 _) M.o.2;have cs:=J.cell (aI (W:=j.drew) n3 _) M.o.2;have ct:=J.cell (aI (W:=j.drew) n4 _) M.o.2;obtain⟨⟨z0,z1,z2,z3,z4⟩,zf⟩:=Dq bk HZ.o;obtain⟨m1,m2,m3,m4⟩:=Jk b7.o M.o bg;have bd:=ad (Ae (k:=k) (p:=t.src) (QM:=t.attrs) (a:=ta) (c:=tc) (n:=N) G.o a6.o X.o al.o bm.o bk J bg);clear bk J bg)
      all_goals
       clear b9 cb cl cn co cs ct z0 z1 z2 z3 z4 zf m1 m2 m3 m4 T ca n0 n1 n2 n3 n4 b8 cd ce ch ci ck;rw[a0.o] at bd
       go_end0
       first
        |with_reducible exact ⟨rfl,bd.o.1⟩
        |with_reducible exact ⟨rfl,bd.o.2⟩
     ·have a0:=ad (show l++[fV y (.mk k t.src [] t.attrs [])]=S by rw[←HS.o,KH,a5.o,ay.o];rfl);have bn:=ad (BH (z:=.mk k t.src [] t.attrs []) (za:=ta) (zc:=tc) (zb:=none) (zn:=0) (zd:=0) G.o (by have:=K.o.1;omega) (by have:=K.o.2.1;omega) (mJ.2 ⟨_,_,rfl,by show aP _ _ t.attrs (.slice ta t.attrs.length tc);rw[al.o];exact bm.o,.inl ⟨rfl,none,0,rfl⟩⟩));have b5:Hid (Calls Tryz.prog 78 #[.pointer (some ⟨pb,0,none⟩),.agg #[.int .i64 k,.int .i64 t.src,.string ⟨#[]⟩,.slice ta N tc,.slice none 0 0]] j fun F w'=>F=.returned (.tuple #[])∧gV lo w0 w' pb S (pE E) (eE E)):=ad (by have h:=bn.o;rw[show(Nd.mk k t.src [] t.attrs []).attrs.length=N from al.o,a0.o] at h;refine h.m ?_;rintro F w'⟨h1,cc,cx,h2⟩;exact⟨h1,ov,cc,cx,h2⟩)
      clear bn a0;go_wp2_with fail;refine b5.o.m ?_;rintro F w7⟨rfl,h7⟩;have H7:=ad h7;clear h7;go_wp2_with fail
      go_end0
      exact⟨rfl,H7.o⟩
end
