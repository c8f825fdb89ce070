/- The walk of the parser's add. -/
import Derived.Test.YtogchgjfialleaaGreatDoorKam
set_option linter.unusedVariables false
set_option maxRecDepth 100000
set_option maxHeartbeats 4000000
namespace Go.Proofs.YtogchgjfialleaaGreatDoor
open Go.RowKit
theorem nt{W:World}{base:Nat}{T:TypeId}{size g n cap j:Nat}{xs:List Value}{u:Value}(h:W.ownsRow base T size (.slice (some ⟨g,0,none⟩) n cap) n xs)(r:j<n*size):
 (W.setCell ⟨g,j,none⟩ u).ownsRow base T size (.slice (some ⟨g,0,none⟩) n cap) n (xs.set j u):=by
 refine⟨by rw[List.length_set];exact h.1, ?_⟩;rcases h.2 with⟨b,_⟩|⟨g',p,c,b,e,i,k,l,m,o⟩
 ·cases b
 ·injection b with a q d;injection a with a;injection a with a;subst a;subst d;refine .inr ⟨g,cap,c.setIfInBounds j u,rfl,e,aw (j:=j) i,k,l,by rw[Array.size_setIfInBounds];exact m, ?_⟩;rw[Array.toList_setIfInBounds,List.take_set,o]
theorem cQ{l:List Value}{b:Nat}:b∈bM l↔∃v∈l,v.ownBlock=some b:=by unfold bM;rw[zO]
theorem fD(l m:List Value):bM (l++m)=bM l++bM m:=by unfold bM;rw[List.filterMap_append]
theorem cR(g n c:Nat)(l:List Value):bM (.slice (some ⟨g,0,none⟩) n c::l)=g::bM l:=by unfold bM;rw[List.filterMap_cons];rfl
section
variable{lo:KB}{w0 W W':World}{pb:Nat}{ov:Value}{st:List Nd}{kvs ys:List Value}{place e:Int}
theorem PK.apart(H:PK lo w0 W pb ov st kvs ys place e){g n cap:Nat}(i:ov=.slice (some ⟨g,0,none⟩) n cap):pb≠g∧(∀b,b∈bM kvs→b≠g∧b≠pb)∧(bM kvs).Nodup:=by have h:=H.vW;rw[i,cR] at h;have a:=lI.1 h;have c:=lI.1 a.2;exact⟨fun e=>a.1 (by rw[e];exact eF),fun b d=>⟨fun e=>c.1 (by rw[←e];exact d),fun e=>a.1 (by rw[←e];exact bY _ d)⟩,c.2⟩
theorem QY{a:List Value}{k p:Int}{t:Bs}{av kv:Value}(u:Value):(a++eH k p t av kv).set (a.length+4) u=a++eH k p t av u:=by rw[List.set_append,ae (by omega),zQ];rfl
theorem QZ{a:List Value}{k p:Int}{t:Bs}{av kv:Value}(b:Bs):(a++eH k p t av kv).set (a.length+2) (.string ⟨b.toArray⟩)=a++eH k p b av kv:=by rw[List.set_append,ae (by omega),zQ];rfl
theorem PK.text{l:List Nd}{y:Nd}(H:PK lo w0 W pb ov (l++[y]) kvs ys place e){g cap:Nat}(h:ov=.slice (some ⟨g,0,none⟩) (l.length+1) cap)(t:Bs):
 ∃O,PK lo w0 (W.setCell ⟨g,l.length*5+2,none⟩ (.string ⟨t.toArray⟩)) pb ov (l++[vN y t]) kvs O place e:=by
 obtain⟨g',R,a,c,kv,xs,Z,zs,d,S,T,Y,F,X,V⟩:=H.oM;rw[h] at d;injection d with i q2 N;injection i with i;injection i with i;subst i;subst N;obtain⟨n1,n2,n3⟩:=H.apart h;have p:ak g W (W.setCell ⟨g,l.length*5+2,none⟩ (.string ⟨t.toArray⟩)):=(ak.refl g W).set;have o:=H.own;have D:w0.heap.size≤g:=(o.lt g (by rw[h];rfl)).1;have m:∀b,b≠g→b<W.heap.size→(W.setCell ⟨g,l.length*5+2,none⟩ (.string ⟨t.toArray⟩)).heap[b]? =W.heap[b]? :=fun b d n=>p.block b n (by intro e;cases e;exact d rfl);have r:∀b,PL lo (pb::bM (ov::kvs)) b→b≠g:=fun b d e=>d.2 (by rw[h,cR,e];exact bY _ eF);have E:∀b,b∈bM kvs→b<W.heap.size:=fun b k=>by obtain⟨v,K,L⟩:=cQ.1 k;exact PK.next.qY H.Ge v K b L
 have J:=H.Ge.cO p.size (fun b d n=>⟨d,m b (r b d) n⟩) (fun b k=>m b (n2 b k).1 (E b k));obtain⟨a2,w,M,ab,aa,Q,x,z,A,B,C,q⟩:=J.last;subst x;refine⟨Q++eH y.kind y.place t (.slice a2 y.attrs.length w) M,H.up.trans (p.below D H.up.size),(m pb n1 H.lt).trans H.box, ?_, ?_,H.vW,H.far,H.Tn,H.mp.1,(m _ (r _ H.mp.1) (aB.1 H.mp.2).1).trans H.mp.2⟩
 ·have G:(l++[vN y t]).length=l.length+1:=by simp
  have I:(l++[y]).length=l.length+1:=by simp
  rw[G];rw[I,h] at o;have:=nt (j:=l.length*5+2) (u:=.string ⟨t.toArray⟩) o (by omega);have s:=q.len.2;rw[z,←s,QZ] at this;rw[←s,h];exact this
 ·exact gy.snoc (y:=vN y t) A B C q
theorem PK.add{l:List Nd}{y z:Nd}(H:PK lo w0 W pb ov (l++[y]) kvs ys place e){g cap:Nat}(o:ov=.slice (some ⟨g,0,none⟩) (l.length+1) cap)
 {k:World}{ab:Obj}{i E:Nat}{kv:Value}{ks xs:List Value}{za zb:Option Addr}{zc zn zd:Nat}(V:kvs=ks++[kv])
 (hz:fu (PL lo (pb::bM (ov::kvs))) W z (wZ z.kind z.place z.text (.slice za z.attrs.length zc) (.slice zb zn zd)))(a7:fm (PL lo (pb::bM (ov::kvs))) W y.kids xs)
 (Z:k.ownsRow w0.heap.size 45 5 (.slice (some ⟨i,0,none⟩) (y.kids.length+1) E) (y.kids.length+1) (xs++eH z.kind z.place z.text (.slice za z.attrs.length zc) (.slice zb zn zd)))
 (J:(W.alloc ab).grownBy k kv.ownBlock)(X:some i=kv.ownBlock∨W.heap.size+1≤i):
 ∃bb,PK lo w0 (k.setCell ⟨g,l.length*5+4,none⟩ (.slice (some ⟨i,0,none⟩) (y.kids.length+1) E)) pb ov (l++[fV y z]) (ks++[.slice (some ⟨i,0,none⟩) (y.kids.length+1) E]) bb place e∧k.cell? ⟨g,l.length*5+4,none⟩=some kv∧k.frozen? ⟨g,l.length*5+4,none⟩=false:=by
 obtain⟨n1,n2,n3⟩:=H.apart o;have G:Below W.heap.size W (W.alloc ab):=(ar _ _).alloc (ag _) _;have bf:=G.size;have bg:=J.size;have a1:=H.own.lt g (by rw[o];rfl);have a6:=H.lt;have am:∀b,b∈bM kvs→b<W.heap.size:=fun b n=>by obtain⟨v,N,w⟩:=cQ.1 n;exact PK.next.qY H.Ge v N b w
 have T:∀q,kv.ownBlock=some q→q∈bM kvs:=fun q hq=>cQ.2 ⟨kv,by rw[V];simp,hq⟩;have S:some g≠kv.ownBlock:=fun e=>(n2 g (T g e.symm)).1 rfl;have ap:some pb≠kv.ownBlock:=fun e=>(n2 pb (T pb e.symm)).2 rfl;have R:i≠g∧i≠pb∧i<k.heap.size∧w0.heap.size≤i:=by
  have K:=Z.lt i rfl;rcases X with e|e
  ·exact⟨fun C=>S (by rw[←C];exact e),fun C=>ap (by rw[←C];exact e),K.2,K.1⟩
  ·exact⟨by omega,by omega,K.2,K.1⟩
 have ac:∀b,b<W.heap.size→some b≠kv.ownBlock→k.heap[b]? =W.heap[b]? :=fun b m D=>(J.block b (by omega) D).trans (G.block b m);obtain⟨u,hu⟩:∃u,(.slice (some ⟨i,0,none⟩) (y.kids.length+1) E:Value)=u:=⟨_,rfl⟩;have aa:u.ownBlock=some i:=by rw[←hu];rfl
 rw[hu] at Z⊢;have M:ak g k (k.setCell ⟨g,l.length*5+4,none⟩ u):=(ak.refl g k).set;have bi:=M.size;obtain⟨s,B⟩:∃s,k.setCell ⟨g,l.length*5+4,none⟩ u=s:=⟨_,rfl⟩;have O:∀b,b<W.heap.size→some b≠kv.ownBlock→b≠g→s.heap[b]? =W.heap[b]? :=fun b m D Q=>by rw[←B];exact(M.block b (by omega) (by intro e;cases e;exact Q rfl)).trans (ac b m D)
 have ao:k.ownsRow w0.heap.size 45 5 ov (l++[y]).length ys:=(cp H.own G).kept J (.inr (by rw[o];exact S));obtain⟨g',bd,a,c,t,bl,r,zs,e0,e1,C,bk,F,an,a0⟩:=H.oM;rw[o] at e0;injection e0 with p q2 q3;injection p with p;injection p with p;subst p;subst q3;have a2:r=ks∧t=kv:=by rw[V] at e1;have:=List.append_inj' e1 rfl;exact⟨this.1.symm,by have:=this.2;injection this with h;exact h.symm⟩
 obtain⟨rfl,rfl⟩:=a2;subst V;have Y:(bM r).Nodup∧(∀b,b∈bM r→some b≠t.ownBlock):=by rw[fD] at n3;have h5:=List.nodup_append.1 n3;exact⟨h5.1,fun b n e=>h5.2.2 b n b (cQ.2 ⟨t,by simp,e.symm⟩) rfl⟩
 have a3:∀b,b∈bM r→b≠i:=fun b n e=>by
  rcases X with h|h
  ·exact Y.2 b n (by rw[e];exact h)
  ·have:=am b (by rw[fD];exact uJ _ n);omega
 have A:∀b,PL lo (pb::bM (ov::(r++[t]))) b→b<W.heap.size→PL lo (pb::bM (ov::(r++[u]))) b∧s.heap[b]? =W.heap[b]? :=fun b m D=>by
  have aN:b≠pb:=fun e=>m.2 (by rw[e];exact eF);have I:b≠g:=fun e=>m.2 (by rw[o,cR,e];exact bY _ eF);have af:b∉bM (r++[t]):=fun e=>m.2 (by rw[o,cR];exact bY _ (bY _ e));have ai:some b≠t.ownBlock:=fun e=>af (cQ.2 ⟨t,by simp,e.symm⟩);refine⟨⟨m.1,fun d=> ?_⟩,O b D ai I⟩;rw[o,cR,fD] at d;rcases bL.1 d with e|d
  ·exact aN e
  rcases bL.1 d with e|d
  ·exact I e
  rcases gZ.1 d with d|d
  ·exact af (by rw[fD];exact uJ _ d)
  ·obtain⟨v,N,w⟩:=cQ.1 d;obtain rfl:v=u:=by simpa using N
   rw[aa] at w;injection w with w;subst w;rcases X with h|h
   ·exact ai h
   ·omega
 have L:W.heap.size≤s.heap.size:=by rw[←B];omega
 have a4:=an.cO L A (fun b n=>O b (am b (by rw[fD];exact uJ _ n)) (Y.2 b n) (n2 b (by rw[fD];exact uJ _ n)).1);have a5:s.ownsRow w0.heap.size 45 5 u (y.kids.length+1) (xs++eH z.kind z.place z.text (.slice za z.attrs.length zc) (.slice zb zn zd)):=by rw[←B];exact Z.kept M (.inr (by rw[aa];intro e;injection e with e;exact R.1 e))
 have a8:fm (PL lo (pb::bM (ov::(r++[u])))) s (y.kids++[z]) (xs++eH z.kind z.place z.text (.slice za z.attrs.length zc) (.slice zb zn zd)):=
  fm.snoc (eD L A _ _ hz) (a7.map fun x v h=>eD L A x v h)
 have a9:=an.len.2;have aq:=nt (j:=l.length*5+4) (u:=u) (show k.ownsRow w0.heap.size 45 5 (.slice (some ⟨g,0,none⟩) (l.length+1) cap) (l.length+1) ys by rw[←o];have:=ao;rwa [show(l++[y]).length=l.length+1 by simp] at this) (by omega);rw[B,C,←a9,QY] at aq;rw[B];refine⟨zs++eH y.kind y.place y.text (.slice a y.attrs.length c) u,⟨?_, ?_, ?_, ?_, ?_,H.far,H.Tn,(A _ H.mp.1 (aB.1 H.mp.2).1).1,(A _ H.mp.1 (aB.1 H.mp.2).1).2.trans H.mp.2⟩, ?_, ?_⟩
 ·rw[←B];have av:=((H.up.trans (G.mono H.up.size))).grown J (by have:=H.up.size;omega) (fun q hq=>by obtain⟨v,N,w⟩:=cQ.1 (T q hq);exact(F.own.lt q hq).1)
  exact av.trans (M.below a1.1 (by have:=av.size;omega))
 ·exact(O pb a6 ap n1).trans H.box
 ·rw[show(l++[fV y z]).length=l.length+1 by simp,o];exact aq
 ·exact gy.snoc (y:=fV y z) (F.at_.cO L A) (show s.ownsRow w0.heap.size 45 5 u (y.kids++[z]).length _ by rw[bB];exact a5) a8 a4
 ·rw[o,cR,fD];have aU:bM [u]=[i]:=by unfold bM;rw[List.filterMap_cons,aa];rfl
  rw[aU];have al:∀b,b∈bM r→b∈bM (r++[t]):=fun b n=>by rw[fD];exact uJ _ n
  refine lI.2 ⟨fun d=> ?_,lI.2 ⟨fun d=> ?_,List.nodup_append.2 ⟨Y.1,by simp,fun a ha b n e=> ?_⟩⟩⟩
  ·rcases bL.1 d with e|d
   ·exact n1 e
   rcases gZ.1 d with d|d
   ·exact(n2 pb (al pb d)).2 rfl
   ·exact R.2.1 (by have:pb=i:=(by simpa using d);exact this.symm)
  ·rcases gZ.1 d with d|d
   ·exact(n2 g (al g d)).1 rfl
   ·exact R.1 (by have:g=i:=(by simpa using d);exact this.symm)
  ·have ay:b=i:=by simpa using n
   exact a3 a ha (by rw[e,ay])
 ·have I:k.heap[g]? =W.heap[g]? :=ac g a0 S;exact(uL (a:=⟨g,l.length*5+4,none⟩) I).trans F.c4
 ·rcases ao.2 with⟨m,_⟩|⟨g3,c3,be,m,_,Q,_⟩
  ·rw[o] at m;cases m
  ·rw[o] at m;injection m with p _ _;injection p with p;injection p with p;subst p;exact aF _ _ _ _ _ Q
end
section
variable{lo:KB}{w0 W W':World}{pb:Nat}{ov:Value}{st:List Nd}{kvs ys:List Value}{place e:Int}
theorem PK.Xi(H:PK lo w0 W pb ov st kvs ys place e){g n cap:Nat}(c:ov=.slice (some ⟨g,0,none⟩) n cap)(j:Nat):W.frozen? ⟨g,j,none⟩=false:=by
 rcases H.own.2 with⟨a,_⟩|⟨k,h,i,a,_,d,_⟩
 ·rw[c] at a;cases a
 ·rw[c] at a;injection a with b _ _;injection b with b;injection b with b;subst b;exact aF _ _ _ _ _ d
theorem Q0{l:List Nd}{y:Nd}(H:PK lo w0 W pb ov (l++[y]) kvs ys place e)(L:l.length≤1000)(k:Int)(nm t:Bs)(av:Value)(i j:Int){ta:Option Addr}{m tc:Nat}(E:av=.slice ta m tc):
 Calls Tryz.prog 40 #[.pointer (some ⟨pb,0,none⟩),.agg #[.int .i64 k,.string ⟨nm.toArray⟩,av,.string ⟨t.toArray⟩,.int .i64 i,.int .i64 j]] W fun D w'=>D=.returned (.tuple #[])∧∃Q,PK lo w0 w' pb ov (l++[vN y t]) kvs Q place e:=by
 subst E;obtain⟨g,cap,a,c,kv,xs,Y,zs,s,A,C,X,F,M,J⟩:=H.oM;have r:Below W.heap.size W (W.alloc (.cells (ei k nm (.slice ta m tc) t i j).toArray 78)):=(ar _ _).alloc (ag _) _;have p:=ad (H.next r);have q:=ad (au W (.cells (ei k nm (.slice ta m tc) t i j).toArray 78));have h:=ad s;have I:=(aB.1 q.out).1;clear H A C s F M J r;go_enter Tryz.func40,Tryz.ntmps40;go_upto_region 1 with fail;generalize W.alloc (.cells (ei k nm (.slice ta m tc) t i j).toArray 78)=b at*;have x:=ad (fun(B:BW b)=>pX (p.out.next B.below) h.out L);have O:∀B:BW b,B.val.cell? ⟨W.heap.size,3,none⟩=some (.string ⟨t.toArray⟩):=fun B=>aj 3 ((B.below.block _ I).trans q.out)
 haveI:Nonempty (BW b):=⟨⟨b,ar _ _⟩⟩
 refine aY 6 (fun B:BW b=>B.val) ⟨b.drew,ax b 1⟩ rfl (by kernel_rfl) (by rfl) (by rfl) (by kernel_rfl) (by kernel_rfl) (by kernel_rfl) ?_;simp only[ki,kL];repeat(quiet_step ((go_at_call 74;refine(x.out _).mono ?_;rintro e v1⟨rfl,G⟩;exact⟨rfl,⟨v1,BW.next _ G⟩,rfl⟩)))
 refine wpQuiet_nil ?_;rintro w'⟨B,rfl⟩;rw[ah (by rfl)];have n:=ad (p.out.next B.below);have w:=ad (n.out.text h.out t);obtain⟨g',z,R,S,aa,ab,Z,ac,u,-,-,-,o,-,-⟩:=n.out.oM;have K:g'=g∧z=cap:=by rw[h.out] at u;injection u with d q2 N;injection d with d;injection d with d;exact⟨d.symm,N.symm⟩
 obtain⟨rfl,rfl⟩:=K;have T:=o.c2;have V:=n.out.Xi h.out (l.length*5+2);clear O o;go_simp
 go_end0
 exact⟨rfl,w.out⟩
end
theorem Ng{W:World}{pb g n cap:Nat}(a:W.cell? ⟨pb,0,none⟩=some (.slice (some ⟨g,0,none⟩) (n+1) cap))(b:n≤1000):
 Calls Tryz.prog 74 #[.pointer (some ⟨pb,0,none⟩)] W (fun e w'=>e=.returned (.pointer (some ⟨g,n*5,none⟩))∧∃m,w'=W.drewN m):=by
 have c:(0:Int)≤(n:Int):=by omega
 have d:(n:Int)<(n:Int)+1:=by omega
 have h:(n:Int)+1-1=(n:Int):=by omega
 go_enter Tryz.func74,Tryz.ntmps74;go_wp2_with fail
 go_quiet (fail)
 go_wp2_with fail;go_ret;exact⟨rfl,_,rfl⟩
theorem Ji:(Tryz.prog.info? 45).map (fun i=>(i.zero,i.size,i.bytes))=some (some (.agg #[.int .i64 0,.int .i64 0,.string ⟨#[]⟩,.slice none 0 0,.slice none 0 0]),5,80):=by kernel_rfl
theorem BG:Tryz.prog.underlying 43=some (.slice 45):=by kernel_rfl
theorem Dn(w:World)(O:Obj)(m:Nat):(w.alloc O).drewN m=(w.drewN m).alloc O:=rfl
section
variable{lo:KB}{w0 W W':World}{pb:Nat}{ov:Value}{st:List Nd}{kvs ys:List Value}{place e:Int}
theorem PK.Xj{l:List Nd}{y:Nd}(H:PK lo w0 W pb ov (l++[y]) kvs ys place e){g cap:Nat}(k:ov=.slice (some ⟨g,0,none⟩) (l.length+1) cap):∃d kv xs,kvs=d++[kv]∧W.cell? ⟨g,l.length*5+4,none⟩=some kv∧W.ownsRow w0.heap.size 45 5 kv y.kids.length xs∧fm (PL lo (pb::bM (ov::kvs))) W y.kids xs∧some pb≠kv.ownBlock∧some g≠kv.ownBlock∧g<W.heap.size:=by obtain⟨g',n,a,c,kv,xs,d,w,i,h,o,r,F,p,m⟩:=H.oM;obtain⟨n1,n2,s⟩:=H.apart k;rw[k] at i;injection i with b t u;injection b with b;injection b with b;subst b;have j:∀q,kv.ownBlock=some q→q∈bM kvs:=fun q hq=>cQ.2 ⟨kv,by rw[h];simp,hq⟩;exact⟨d,kv,xs,h,F.c4,F.own,F.row,fun e=>(n2 pb (j pb e.symm)).2 rfl,fun e=>(n2 g (j g e.symm)).1 rfl,m⟩
theorem BH{l:List Nd}{y z:Nd}(H:PK lo w0 W pb ov (l++[y]) kvs ys place e)(hl:l.length≤1000)(hk:y.kids.length≤10000000){za zb:Option Addr}{zc zn zd:Nat}
 (X:fu (PL lo (pb::bM (ov::kvs))) W z (wZ z.kind z.place z.text (.slice za z.attrs.length zc) (.slice zb zn zd))):
 Calls Tryz.prog 75 #[.pointer (some ⟨pb,0,none⟩),.agg #[.int .i64 z.kind,.int .i64 z.place,.string ⟨z.text.toArray⟩,.slice za z.attrs.length zc,.slice zb zn zd]] W fun L w'=>L=.returned (.tuple #[])∧∃af B,PK lo w0 w' pb ov (l++[fV y z]) af B place e:=by
 obtain⟨g,cap,-,-,-,-,-,-,u,-⟩:=H.oM;have t:Below W.heap.size W (W.alloc (.cells (eH z.kind z.place z.text (.slice za z.attrs.length zc) (.slice zb zn zd)).toArray 45)):=(ar _ _).alloc (ag _) _;have j:=ad (H.next t);have G:=ad (X.next t);have k:=ad (au W (.cells (eH z.kind z.place z.text (.slice za z.attrs.length zc) (.slice zb zn zd)).toArray 45));have r:=ad u;obtain⟨ks,kv,xs,S,A,w,V,T,Q,R⟩:=j.out.Xj r.out;obtain⟨ka,kc,rfl,-⟩:=mK w;have E:=ad w;have F:=ad V;have D:=ad (And.intro T (And.intro Q R));have C:=ad S;have d:=j.out.box.c.c0;rw[u] at d;clear H u t X w V T Q S R;go_enter Tryz.func75,Tryz.ntmps75;go_upto_region 1 with fail;generalize hb:W.heap.size=b at*;clear hb;generalize W.alloc (.cells (eH z.kind z.place z.text (.slice za z.attrs.length zc) (.slice zb zn zd)).toArray 45)=a at*;obtain⟨zi,aa⟩:∃n,y.kids.length=n:=⟨_,rfl⟩;have z0:a.cell? ⟨b,0,none⟩=_:=aj 0 k.out;have z1:a.cell? ⟨b,1,none⟩=_:=aj 1 k.out;have z2:a.cell? ⟨b,2,none⟩=_:=aj 2 k.out;have z3:a.cell? ⟨b,3,none⟩=_:=aj 3 k.out;have z4:a.cell? ⟨b,4,none⟩=_:=aj 4 k.out;have I:∀m O,((a.drewN m).alloc O).cell? ⟨pb,0,none⟩=some (.slice (some ⟨g,0,none⟩) (l.length+1) cap):=fun m O=>aI (W:=a.drewN m) d O;have ab:∀m O,((a.drewN m).alloc O).cell? ⟨g,l.length*5+4,none⟩=_:=fun m O=>aI (W:=a.drewN m) A O;have J:∀O,(a.alloc O).cell? ⟨pb,0,none⟩=some (.slice (some ⟨g,0,none⟩) (l.length+1) cap):=fun O=>aI d O;have ac:∀O,(a.alloc O).cell? ⟨g,l.length*5+4,none⟩=_:=fun O=>aI A O;clear aa;go_region_law
  (first
   |(go_simp;refine(Ng (W:=_) (by first|assumption|exact d|exact I _ _|exact J _) hl).mono ?_;rintro L v⟨rfl,m,rfl⟩;try rw [Dn])
   |(refine gM (by rfl) _ _ 43 (by rfl) 45 (.agg #[.int .i64 0,.int .i64 0,.string ⟨#[]⟩,.slice none 0 0,.slice none 0 0]) 5 80 BG Ji (by rfl) (by decide) w0.heap.size _ (.slice ka y.kids.length kc) y.kids.length xs (by rfl) (cp E.out (ax a _)) (eH z.kind z.place z.text (.slice za z.attrs.length zc) (.slice zb zn zd)) (by rfl) (by rfl) (by rfl) (by simp[Value.oneCell']) (by omega) (by omega) (by exact j.out.up.size) ?_;intro Z Y w5 p i o;have K:=i.cell (aI (W:=a.drewN _) d _) D.out.1;obtain⟨B,q,N,M⟩:=PK.add (j.out.next (ax a _)) r.out C.out (G.out.next (ax a _)) (F.out.map fun x v h=>h.next (ax a _)) p i o;have s:=ad q;clear q p i o)
   |(refine gM (by rfl) _ _ 43 (by rfl) 45 (.agg #[.int .i64 0,.int .i64 0,.string ⟨#[]⟩,.slice none 0 0,.slice none 0 0]) 5 80 BG Ji (by rfl) (by decide) w0.heap.size _ (.slice ka y.kids.length kc) y.kids.length xs (by rfl) (cp (cp E.out (ax a _)) (ax (a.drewN _) _)) (eH z.kind z.place z.text (.slice za z.attrs.length zc) (.slice zb zn zd)) (by rfl) (by rfl) (by rfl) (by simp[Value.oneCell']) (by omega) (by omega) (by exact j.out.up.size) ?_;intro Z Y w5 p i o;have K:=i.cell (aI (W:=(a.drewN _).drewN _) d _) D.out.1;obtain⟨B,q,N,M⟩:=PK.add ((j.out.next (ax a _)).next (ax (a.drewN _) _)) r.out C.out ((G.out.next (ax a _)).next (ax (a.drewN _) _)) (F.out.map fun x v h=>(h.next (ax a _)).next (ax (a.drewN _) _)) p i o;have s:=ad q;clear q p i o))
 all_goals
  clear z0 z1 z2 z3 z4 d I J A ab ac K N M
  go_end0
  first
   |exact⟨rfl,_,_,s.out⟩
   |exact⟨rfl,_,_,s.out.next (ax _ _)⟩
end
