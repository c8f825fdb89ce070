/- The walks of a row where something is wrong, of the row's maker, and of an or. -/
import Derived.Test.YtlemddnecmmfgaaGreatDoorJao
import Derived.Test.YtlemddnecmmfgaaGreatDoorJap
set_option linter.unusedVariables false
set_option maxRecDepth 100000
set_option maxHeartbeats 4000000
namespace Go.Proofs.YtlemddnecmmfgaaGreatDoor
open Go.RowKit
variable{D:Act}{a:Nat}{b:Nat→Prop}{d:Nd}{M:Nd×Nat×Int}{q:aaL}
theorem Ra{W:aaK}{base:Nat}{T:TypeId}{size n:Nat}{xs:List aaL}(a:xs.length=n*size)(c:n≤maxLen)(b:base≤W.heap.size):(W.alloc (.cells xs.toArray T)).ownsRow base T size (.slice (some ⟨W.heap.size,0,none⟩) n n) n xs:=
 ⟨a,.inr ⟨W.heap.size,n,xs.toArray,rfl,b,au W _,ag _,c,by simp[a],by rw[←a];simp⟩⟩
theorem qy.get{A:Nat→Prop}{W:aaK}:∀{l:List Tok} {xs:List aaL} {i:Nat} {t:Tok},qy A W l xs→l[i]? =some t→∃a c,aP A W t.attrs (.slice a t.attrs.length c)∧∀(j:Nat) (v:aaL),(ei t.kind t.name (.slice a t.attrs.length c) t.text t.src t.bJ)[j]? =some v→xs[i*6+j]? =some v
 |[],_,_,_,_,h=>by simp at h
 |u::r,xs,0,t,⟨a,c,rest,d,e,k⟩,h=>by simp at h;subst h;refine⟨a,c,e,fun j v b=> ?_⟩;rw[d,Nat.zero_mul,dH,qC (cH.1 b).1];exact b
 |u::r,xs,i+1,t,⟨a1,o,rest,d,e,k⟩,h=>by obtain⟨a,c,m,n⟩:=qy.get (i:=i) k (by simpa using h);refine⟨a,c,m,fun j v b=> ?_⟩;rw[d,jL (by show 6≤_;omega),←n j v b];congr 1;show(i+1)*6+j-6=_;omega
theorem mu.shape{W:aaK}{d:List Tok}(h:mu b W d q):∃a c,q=.slice a d.length c:=by
 obtain⟨xs,-,h⟩:=h;rcases h with⟨rfl,rfl⟩|⟨g,c,rfl,_⟩
 ·exact⟨none,0,rfl⟩
 ·exact⟨_,c,rfl⟩
theorem mu.get{A:Nat→Prop}{W:aaK}{d:List Tok}{ta:Option Addr}{r tc i:Nat}{t:Tok}(h:mu A W d (.slice ta r tc))(b:d[i]? =some t):
 ∃g a c,ta=some ⟨g,0,none⟩∧g<W.heap.size∧aP A W t.attrs (.slice a t.attrs.length c)∧∀(j:Nat) (v:aaL),(ei t.kind t.name (.slice a t.attrs.length c) t.text t.src t.bJ)[j]? =some v→W.cell? ⟨g,i*6+j,none⟩=some v:=by
 obtain⟨xs,p,h⟩:=h;rcases h with⟨rfl,_⟩|⟨g,s,k,x,y,l,m⟩
 ·simp at b
 ·injection k with e u w;obtain⟨a,c,n,o⟩:=p.get b;refine⟨g,a,c,e,l,n,fun j v q=> ?_⟩;have:=m _ _ (o j v q);rw[dH] at this;exact this
theorem uS{fn:Func}{W:aaK}{tmps:Array aaL}{e c d:Nat}{v1 v2 i j x y:aaL}(h:fn.results=#[.cell e 37,.tmp c,.tmp d])(l:tmps.getD e undef=.pointer (some ⟨a,0,none⟩))(n:tmps.getD c undef=x)(p:tmps.getD d undef=y)(k:W.heap[a]? =some (.cells #[q,v1,v2,i,j] 37)):
 (results fn tmps).run Tryz.prog W=.ok (.tuple #[.agg #[q,v1,v2,i,j],x,y]) W:=by
 obtain⟨s,t,u,w,z⟩:=qX5 (aj k) 0 1 2 3 4;have m:tmps[e]?.getD undef=.pointer (some ⟨a,0,none⟩):=by rw[←l];simp
 have o:tmps[c]?.getD undef=x:=by rw[←n];simp
 have r:tmps[d]?.getD undef=y:=by rw[←p];simp
 simp[results,h,go_sem,m,o,r,s,t,u,w,z]
section
variable{lo:KB}{w0 W W':aaK}{pb:Nat}{ov:aaL}{st:List Nd}{kvs ys:List aaL}{place e:Int}
theorem NC{A:Nat→Prop}{base:Nat}:∀{l:List Nd} {kvs ys:List aaL},gy A W base l kvs ys→∀v∈kvs,∀b,v.ownBlock=some b→base≤b
 |[],_,_,⟨k,_⟩,v,d,_,_=>by subst k;cases d
 |x::r,_,_,⟨a,c,kv,p,rest,xs,i,m,n,j,o,h⟩,v,d,b,e=>by
  subst i;rcases bL.1 d with rfl|d
  ·exact(j.lt b e).1
  ·exact NC h v d b e
theorem PK.Xk(H:PK lo w0 W pb ov st kvs ys place e):∀b∈pb::bM (ov::kvs),w0.heap.size≤b:=fun b a=>by
 rcases bL.1 a with rfl|a
 ·exact H.far
 ·obtain⟨v,c,d⟩:=cQ.1 a;rcases bL.1 c with rfl|c
  ·exact(H.own.lt b d).1
  ·exact NC H.Ge v c b d
theorem PK.QM(H:PK lo w0 W pb ov st kvs ys place e){l:List bQ}{v:aaL}(h:aP (fun b=>lo.lo≤b) w0 l v):aP (PL lo (pb::bM (ov::kvs))) W l v:=
 h.cO H.up.size fun b a c=>⟨⟨a,fun d=>by have:=H.Xk b d;omega⟩,H.up.block b c⟩
theorem ND{a b:aaK}{n:Nat}(p:n≤a.heap.size)(d:Below (a.heap.size+2) ((a.alloc (.cells (eH 1 0 [] (.slice none 0 0) (.slice none 0 0)).toArray 37)).alloc (.cells #[.slice (some ⟨a.heap.size,0,none⟩) 1 1,.int .i64 0,.int .i64 0] 72)) b)(q:BK b (a.heap.size+2) Nw):
 ∃lo:KB,lo.lo=n∧lo.mb=a.heap.size+2∧(∃es c,lo.ob=.map es c∧es.toList.map (fun e=>(e.key,e.val))=TX Nw)∧PK lo a b (a.heap.size+1) (.slice (some ⟨a.heap.size,0,none⟩) 1 1) [lN] [.slice none 0 0] (eH 1 0 [] (.slice none 0 0) (.slice none 0 0)) 0 0:=by
 obtain⟨es,c,i,j⟩:=q;have s:((a.alloc (.cells (eH 1 0 [] (.slice none 0 0) (.slice none 0 0)).toArray 37)).alloc (.cells #[.slice (some ⟨a.heap.size,0,none⟩) 1 1,.int .i64 0,.int .i64 0] 72)).heap.size=a.heap.size+2:=by rw[aO,aO]
 have k:Below a.heap.size a ((a.alloc (.cells (eH 1 0 [] (.slice none 0 0) (.slice none 0 0)).toArray 37)).alloc (.cells #[.slice (some ⟨a.heap.size,0,none⟩) 1 1,.int .i64 0,.int .i64 0] 72)):=
  ((ar _ _).alloc (ag _) _).alloc (by rw[aO];omega) _
 have r:=(Ra (W:=a) (base:=a.heap.size) (T:=37) (size:=5) (n:=1) (xs:=eH 1 0 [] (.slice none 0 0) (.slice none 0 0)) rfl (by decide) (ag _)).alloc (.cells #[.slice (some ⟨a.heap.size,0,none⟩) 1 1,.int .i64 0,.int .i64 0] 72);have o:((a.alloc (.cells (eH 1 0 [] (.slice none 0 0) (.slice none 0 0)).toArray 37)).alloc (.cells #[.slice (some ⟨a.heap.size,0,none⟩) 1 1,.int .i64 0,.int .i64 0] 72)).heap[a.heap.size+1]? =_:=iT a _ _;generalize(a.alloc (.cells (eH 1 0 [] (.slice none 0 0) (.slice none 0 0)).toArray 37)).alloc (.cells #[.slice (some ⟨a.heap.size,0,none⟩) 1 1,.int .i64 0,.int .i64 0] 72)=h at*;have l:Below h.heap.size h b:=by rw[s];exact d
 refine⟨⟨n,a.heap.size+2,.map es c⟩,rfl,rfl,⟨es,c,rfl,j⟩,k.t (d.m (by omega)),(d.block _ (by omega)).t o,cp r l, ?_, ?_,by omega,p,⟨?_, ?_⟩,i⟩
 ·exact⟨none,0,.slice none 0 0,[],[],[],rfl,rfl,.inl ⟨rfl,none,0,rfl⟩,jO _ _ _ _,rfl,rfl,rfl⟩
 ·show([a.heap.size+1,a.heap.size]:List Nat).Nodup;simp
 ·show n≤a.heap.size+2;omega
 ·show a.heap.size+2∉([a.heap.size+1,a.heap.size]:List Nat);simp
theorem PK.Wy{y:Nd}(H:PK lo w0 W pb ov [y] kvs ys place e):∃g cap a c i k,ov=.slice (some ⟨g,0,none⟩) 1 cap∧(∀(j:Nat) (v:aaL),(eH y.kind y.place y.text (.slice a y.attrs.length c) (.slice i y.kids.length k))[j]? =some v→W.cell? ⟨g,j,none⟩=some v)∧
 fu (fun b=>lo.lo≤b) W y (wZ y.kind y.place y.text (.slice a y.attrs.length c) (.slice i y.kids.length k)):=by
 obtain⟨g,cap,a,c,kv,xs,E,G,t,A,B,n,F,D,C⟩:=PK.oM (l:=[]) H;obtain⟨i,k,rfl,-⟩:=mK F.own;obtain⟨o,p,q,r,s,u,m,w⟩:=F;refine⟨g,cap,a,c,i,k,t,fun j v d=> ?_, ?_⟩
 ·match j,d with
  |0,d=>cases d;simpa using o
  |1,d=>cases d;simpa using p
  |2,d=>cases d;simpa using q
  |3,d=>cases d;simpa using r
  |4,d=>cases d;simpa using s
 ·rw[Nd.eta y];exact mJ.2 ⟨_,_,rfl,u.cO (ag _) (fun b h _=>⟨h.1,rfl⟩),Ab m (w.map fun x v h=>eD (ag _) (fun b h _=>⟨h.1,rfl⟩) x v h) (fun z n=>bP H.Tn (m.lt z n).1)⟩
end
def xm(w:aaK)(r:Nd×Nat×Int):Ending→aaK→Prop:=fun e w'=>Below w.heap.size w w'∧∃v,e=.returned (.tuple #[v,.int .i64 r.2.1,.int .i64 r.2.2])∧fu (fun b=>w.heap.size≤b) w' r.1 v
theorem su{W:aaK}:fu b W ny (wZ 0 0 [] (.slice none 0 0) (.slice none 0 0)):=mJ.2 ⟨_,_,rfl,.inl ⟨rfl,none,0,rfl⟩,.inl ⟨rfl,none,0,rfl⟩⟩
theorem Dy{W:aaK}{T:TypeId}{v1 v2 c d:aaL}(u0 u1 u2 u3 u4:aaL)(h:W.heap[a]? =some (.cells #[q,v1,v2,c,d] T)):
 (((((W.setCell ⟨a,0,none⟩ u0).setCell ⟨a,1,none⟩ u1).setCell ⟨a,2,none⟩ u2).setCell ⟨a,3,none⟩ u3).setCell ⟨a,4,none⟩ u4).heap[a]? =some (.cells #[u0,u1,u2,u3,u4] T):=
 aw (j:=4) (aw (j:=3) (aw (j:=2) (aw (j:=1) (aw (j:=0) h))))
theorem lO{w W:aaK}{v0 v1 v2 z A u0 u1 u2 u3 u4:aaL}{e:Int}(l:(d,a,e)=M)(h:Below w.heap.size w W)(m:W.heap[w.heap.size]? =some (.cells #[v0,v1,v2,z,A] 37))
 (r:fu (fun b=>w.heap.size<b) W d (.agg #[u0,u1,u2,u3,u4]))(u:D.tmps.getD 2 undef=.pointer (some ⟨w.heap.size,0,none⟩))(x:D.tmps.getD 3 undef=.int .i64 (a:Int))(y:D.tmps.getD 4 undef=.int .i64 e)(q:D.defers=[]):
 bodyPost Tryz.prog Tryz.f8 (xm w M) Exit.ret D (((((W.setCell ⟨w.heap.size,0,none⟩ u0).setCell ⟨w.heap.size,1,none⟩ u1).setCell ⟨w.heap.size,2,none⟩ u2).setCell ⟨w.heap.size,3,none⟩ u3).setCell ⟨w.heap.size,4,none⟩ u4):=by
 subst l;have k:=Dy u0 u1 u2 u3 u4 m;have c:ak w.heap.size W (((((W.setCell ⟨w.heap.size,0,none⟩ u0).setCell ⟨w.heap.size,1,none⟩ u1).setCell ⟨w.heap.size,2,none⟩ u2).setCell ⟨w.heap.size,3,none⟩ u3).setCell ⟨w.heap.size,4,none⟩ u4):=(((((ak.refl _ W).set).set).set).set).set;generalize((((W.setCell ⟨w.heap.size,0,none⟩ u0).setCell ⟨w.heap.size,1,none⟩ u1).setCell ⟨w.heap.size,2,none⟩ u2).setCell ⟨w.heap.size,3,none⟩ u3).setCell ⟨w.heap.size,4,none⟩ u4=W' at*;have s:=h.size;have o:=h.t (c.below (ag _) s);refine aD (uS rfl u x y k) q ⟨o,_,rfl, ?_⟩;exact eD (A':=fun b=>w.heap.size≤b) c.size (fun b i j=>⟨om i,c.block b j (by intro e;injection e with e;omega)⟩) _ _ r
theorem BM{w W:aaK}{v0 v1 v2 A B u0 u1 u2 u3 u4:aaL}{e:Int}(o:(d,a,e)=M)(h:Below w.heap.size w W)(q:W.heap[w.heap.size]? =some (.cells #[v0,v1,v2,A,B] 37))
 (s:fu (fun b=>w.heap.size<b) W d (.agg #[u0,u1,u2,u3,u4]))(x:D.tmps.getD 2 undef=.pointer (some ⟨w.heap.size,0,none⟩))(y:D.tmps.getD 3 undef=.int .i64 (a:Int))(z:D.tmps.getD 4 undef=.int .i64 e)(r:D.defers=[]):
 bodyPost Tryz.prog Tryz.f8 (xm w M) Exit.ret D (((((W.setCell ⟨w.heap.size,0,none⟩ u0).setCell ⟨w.heap.size,1,none⟩ u1).setCell ⟨w.heap.size,2,none⟩ u2).setCell ⟨w.heap.size,3,none⟩ u3).setCell ⟨w.heap.size,4,none⟩ u4).drew:=by
 subst o;have l:=Dy u0 u1 u2 u3 u4 q;have c:ak w.heap.size W (((((W.setCell ⟨w.heap.size,0,none⟩ u0).setCell ⟨w.heap.size,1,none⟩ u1).setCell ⟨w.heap.size,2,none⟩ u2).setCell ⟨w.heap.size,3,none⟩ u3).setCell ⟨w.heap.size,4,none⟩ u4):=(((((ak.refl _ W).set).set).set).set).set;generalize((((W.setCell ⟨w.heap.size,0,none⟩ u0).setCell ⟨w.heap.size,1,none⟩ u1).setCell ⟨w.heap.size,2,none⟩ u2).setCell ⟨w.heap.size,3,none⟩ u3).setCell ⟨w.heap.size,4,none⟩ u4=W' at*;have u:=h.size;have i:=h.t (c.below (ag _) u);refine aD (uS rfl x y z (W:=W'.drew) l) r ⟨i.t ((ax W' 1).m i.size),_,rfl, ?_⟩;exact(eD (A':=fun b=>w.heap.size≤b) c.size (fun b j k=>⟨om j,c.block b k (by intro e;injection e with e;omega)⟩) _ _ s).next (ax W' 1)
theorem TY(s:Bs)(h:¬65536<s.length):(∀q c,lexB s=.bad q c→(ny,q,c)=gW s)∧(∀a j,lexB s=.aq a j→(∀q c,fX ⟨lN,[]⟩ a=.bad q c→(ny,q,c)=gW s)∧
 (∀x,fX ⟨lN,[]⟩ a=.aq x→(x.below=[]→(x.top,0,0)=gW s)∧(x.below≠[]→(ny,s.length,14)=gW s))):=by
 unfold gW;rw[ae h];refine⟨fun q c b=>by rw[b],fun a j b=> ?_⟩;rw[b];refine⟨fun q c d=>by simp only[d],fun x d=> ?_⟩;simp only[d];refine⟨fun e=>by rw[e];rfl,fun e=> ?_⟩;cases i:x.below with
 |nil=>exact absurd i e
 |cons y r=>rfl
theorem Am(w:aaK)(hG:GL w)(s:Bs)(hs:s.length≤1000000):
 Calls Tryz.prog 8 #[.string ⟨s.toArray⟩] w (xm w (gW s)):=by
 have hA:Below w.heap.size w (w.alloc (.cells (eH 0 0 [] (.slice none 0 0) (.slice none 0 0)).toArray 37)):=(ar _ _).alloc (ag _) _;have K:=ad hA;have C:=ad (au w (.cells (eH 0 0 [] (.slice none 0 0) (.slice none 0 0)).toArray 37));have a9:=ad (aO w (.cells (eH 0 0 [] (.slice none 0 0) (.slice none 0 0)).toArray 37));have M:=ad (Gn _ (hG.next hA) s hs);obtain⟨R,hR⟩:∃R,gW s=R:=⟨_,rfl⟩;rw[hR];have ao:=ad hR;clear hA hG hR;go_enter Tryz.func8,Tryz.ntmps8
 go_upto_if 12 with fail
 generalize w.alloc (.cells #[.int .i64 0,.int .i64 0,.string ⟨#[]⟩,.slice none 0 0,.slice none 0 0] 37)=W1 at*;by_cases ab:65536<s.length
 ·have I:=ad (show(ny,65536,3)=R by rw[←ao.o,gW,ah ab]);have i1:(65536:Int)<(s.length:Int):=by omega
  obtain⟨q0,l,q2,q3,q4⟩:=qX5 (aj C.o) 0 1 2 3 4;have Y:=fun j=>aA (n:=j) C.o;have Q:=ad (K.o);clear ab;go_wp2_with fail;refine lO I.o Q.o C.o su ?_ ?_ ?_ ?_;all_goals rfl
 ·have bn:s.length≤65536:=by omega
  have I:=ad (ao.o▸TY s ab);have i1:¬(65536:Int)<(s.length:Int):=by omega
  have S:=ad (C4 s);clear ab ao;cases E:lexB s with
  |bad q c=>
   rw[E] at M S;have J:=ad (I.o.1 q c E);have b9:=ad (show q≤s.length∧(c=11∨c=12∨c=13∨c=14) from S.o);have l:(c !=0)=true:=by rw[bne,eS (by have:=b9.o.2;omega)];rfl
   clear E I S;go_wp2_with fail;refine M.o.m ?_;rintro en d⟨r,rfl⟩;have F:=(r.block _ (aB.1 C.o).1).t C.o;have Q:=ad (And.intro (K.o.t (r.m K.o.size)) F);obtain⟨q0,l,q2,q3,q4⟩:=qX5 (aj F) 0 1 2 3 4;have Y:=fun j=>aA (n:=j) F;clear r F;go_wp2_with fail;refine lO J.o Q.o.1 Q.o.2 su ?_ ?_ ?_ ?_;all_goals rfl
  |aq z j=>
   rw[E] at M;have J:=ad (I.o.2 z j E);have bb:=ad (Vj E);have aU:=ad bn;clear E I S bn;go_wp2_with fail;refine M.o.m ?_;rintro en d⟨r,tv,rfl,aN⟩;obtain⟨ta,tc,rfl⟩:=aN.shape;have bd:=ad aN;have F:=(r.block _ (aB.1 C.o).1).t C.o;have e:=ad (And.intro (K.o.t (r.m K.o.size)) (And.intro F (a9.o▸r.size)));have av:=ad (KK ((d.alloc (.cells (eH 1 0 [] (.slice none 0 0) (.slice none 0 0)).toArray 37)).alloc (.cells #[.slice (some ⟨d.heap.size,0,none⟩) 1 1,.int .i64 0,.int .i64 0] 72)));rw[show((d.alloc (.cells (eH 1 0 [] (.slice none 0 0) (.slice none 0 0)).toArray 37)).alloc (.cells #[.slice (some ⟨d.heap.size,0,none⟩) 1 1,.int .i64 0,.int .i64 0] 72)).heap.size=d.heap.size+2 by rw[aO,aO]] at av;clear r aN F M;obtain⟨N,hN⟩:∃N,z.length=N:=⟨_,rfl⟩;rw[hN] at bd⊢;have al:=ad hN;clear hN;go_wp2_with fail;refine av.o.m ?_;rintro en w4⟨rfl,bv,bg⟩;obtain⟨lo,bp,br,bs,b4⟩:=ND (n:=w.heap.size+1) e.o.2.2 bg bv;have T:=ad (And.intro bp (And.intro br bs));have a5:=ad (show PK lo d w4 (d.heap.size+1) (.slice (some ⟨d.heap.size,0,none⟩) 1 1) (re ⟨lN,[]⟩) [.slice none 0 0] (eH 1 0 [] (.slice none 0 0) (.slice none 0 0)) 0 0 from b4);obtain⟨P,hP⟩:∃P,fX ⟨lN,[]⟩ z=P:=⟨_,rfl⟩;rw[hP] at J;have a3:=ad (show fX ⟨lN,[]⟩ (z.drop 0)=P from hP);have a7:Hid (tR 0 ⟨lN,[]⟩):=ad ⟨by decide,fun y hy=>by rw[fj.1 hy];decide,rfl⟩;have ch:=ad (show N≤300000 by rw[←al.o];have:=bb.o.2;have:=aU.o;omega);have n1:N≤300000:=ch.o;clear bp br bs b4 bv bg hP av;go_upto_region 8 with fail;generalize b3:d.heap.size+1=pb at*;generalize bx:d.heap.size+2=mb at*;have a1:=ad (And.intro b3 bx);clear b3 bx;go_upto_region 9 with fail
   go_loopw [32] (fun iv wr=>∃(i:Nat) (x:rf) (ov:aaL) (kvs ys:List aaL),i≤N∧iv=.int .i64 i∧Hid (PK lo d wr pb ov (re x) kvs ys 0 0)∧Hid (fX x (z.drop i)=P)∧Hid (tR i x)) (fun iv _=>N-(intOf iv).toNat)
   case atStart=>exact⟨0,_,_,_,_,aH _,rfl,a5,a3,a7⟩
   case round=>
    obtain⟨i,x,ov,kvs,ys,hi,rfl,B,am,ap⟩:=hrel;clear a5 a3 a7;by_cases cn:i<N
    ·have i2:(i:Int)<(N:Int):=by omega
     have i3:(0:Int)≤(i:Int):=by omega
     obtain⟨t,ht⟩:∃t,z[i]? =some t:=⟨_,cA (by rw[al.o];exact cn)⟩;have a6:=ad (show fX x (t::z.drop (i+1))=P by rw[←am.o];congr 1;obtain⟨O,h2⟩:=cH.1 ht;rw[lG O,h2])
     have ci:=ad (bb.o.1 t (eQ ht));obtain⟨gt,aa,ac,rfl,D,bf,a⟩:=bd.o.get ht;have H:=B.o.up;have y0:wr.cell? ⟨gt,i*6,none⟩=_:=(H.cell (p:=⟨gt,i*6,none⟩) D).t (a 0 _ rfl);have y1:=(H.cell (p:=⟨gt,i*6+1,none⟩) D).t (a 1 _ rfl);have y2:=(H.cell (p:=⟨gt,i*6+2,none⟩) D).t (a 2 _ rfl);have y3:=(H.cell (p:=⟨gt,i*6+3,none⟩) D).t (a 3 _ rfl);have y4:=(H.cell (p:=⟨gt,i*6+4,none⟩) D).t (a 4 _ rfl);have y5:=(H.cell (p:=⟨gt,i*6+5,none⟩) D).t (a 5 _ rfl);have hA5:Below wr.heap.size wr (wr.alloc (.cells (ei t.kind t.name (.slice aa t.attrs.length ac) t.text t.src t.bJ).toArray 76)):=(ar _ _).alloc (ag _) _;have ai:=ad (B.o.next hA5);have ca:=ad (au wr (.cells (ei t.kind t.name (.slice aa t.attrs.length ac) t.text t.src t.bJ).toArray 76));obtain⟨f,bk,bl,bm⟩:=NB ai.o ap.o (by omega) ci.o (by have:=aU.o;omega) (ai.o.QM (bf.cO (ag _) fun b O _=>⟨by rw[T.o.1,←a9.o];exact O,rfl⟩));have a8:=ad bm;have co:=ad bl;clear ht H hA5 D bf a bm;go_upto_region 11 with fail;generalize wr.alloc (.cells (ei t.kind t.name (.slice aa t.attrs.length ac) t.text t.src t.bJ).toArray 76)=X at*;generalize wr.heap.size=nb at*;clear y0 y1 y2 y3 y4 y5;obtain⟨n0,n1,n2,n3,n4,n5⟩:=qX6 (aj ca.o) 0 1 2 3 4 5;have bo:(Instr.lookup 73 (.map (some mb)) (.int .i64 t.kind) false).run Tryz.prog X=.ok (Q6 f) X:=by obtain⟨es,c,O,h2⟩:=T.o.2.2;refine Nv ⟨es,c, ?_,h2⟩ _ _ uR _ _ bk;rw[←O,←T.o.2.1];exact ai.o.mp.2
     have ck:∀(v:aaL) (W:aaK),(Instr.field 79 (.agg #[v]) 0).run Tryz.prog W=.ok v W:=fun v W=>by kernel_rfl
     have cl:(Instr.lookup 73 (.map (some mb)) (.int .i64 t.kind) false).run Tryz.prog X=.ok (.agg #[.func (.func f) #[] #[]]) X:=bo;clear bo bk;go_wp2_with fail;refine a8.o.m ?_;rintro en w6⟨rfl,b1⟩;have a2:=ad b1;clear n0 n1 n2 n3 n4 n5 cl ck bl b1 a8;cases G:lM x t with
     |bad q c=>
      obtain⟨bi,ct,b6,b5,b7,u⟩:=(show Q7 lo d w6 pb (.bad q c) by rw[←G];exact a2.o);have V:=ad (J.o.1 q c (by rw[←a6.o,fX,G]));have l:(c !=0)=true:=by rw[bne,eS bi];rfl
      obtain⟨p0,p1,p2,-,-,-⟩:=u.box.c;have k:=(u.up.block _ (Nat.lt_of_succ_le e.o.2.2)).t e.o.2.1;have A:=ad (And.intro (e.o.1.t (u.up.m (Nat.le_of_succ_le e.o.2.2))) k);obtain⟨z0,z1,z2,z3,z4⟩:=qX5 (aj k) 0 1 2 3 4;have Y:=fun j=>aA (n:=j) k;have d1:¬pb=w.heap.size:=by have:=a1.o.1;have:=e.o.2.2;omega
      have d2:¬w.heap.size=pb:=by have:=a1.o.1;have:=e.o.2.2;omega
      clear G bi u k;go_wp2_with fail;go_region;all_goals
       clear z0 z1 z2 z3 z4 Y p0 p1 p2;go_wp2_with fail;refine BM V.o A.o.1 A.o.2 su ?_ ?_ ?_ ?_;all_goals rfl
     |aq y=>
      obtain⟨b6,b5,b7,u⟩:=(show Q7 lo d w6 pb (.aq y) by rw[←G];exact a2.o);have b8:=ad u;have cd:=ad (show fX y (z.drop (i+1))=P by rw[←a6.o,fX,G]);have ce:=ad (KL ap.o G);obtain⟨p0,p1,p2,-,-,-⟩:=u.box.c;clear G u;go_wp2_with fail
      go_roundw
      case rel=>exact⟨i+1,y,b6,b5,b7,by omega,by go_num,b8,cd,ce⟩
      case measure=>(simp[intOf]<;>omega)
    ·obtain rfl:i=N:=by omega
     have a4:=ad (show Px.aq x=P by rw[←am.o,qA (by rw[al.o];exact ag _)];rfl);have V:=ad (J.o.2 x a4.o.symm);obtain⟨g,cap,af,-,-,-,-,-⟩:=B.o.slice (by simp[re]);obtain⟨L,Z⟩:∃L,x.below.length=L:=⟨_,rfl⟩;rw[show(re x).length=L+1 by rw[re,bB,zN,Z];rfl] at af;have l1:L≤16:=by rw[←Z];exact ap.o.deep
     obtain⟨p0,p1,p2,-,-,-⟩:=B.o.box.c;rw[af] at p0;have k:=(B.o.up.block _ (Nat.lt_of_succ_le e.o.2.2)).t e.o.2.1;have A:=ad (And.intro (e.o.1.t (B.o.up.m (Nat.le_of_succ_le e.o.2.2))) k);obtain⟨z0,z1,z2,z3,z4⟩:=qX5 (aj k) 0 1 2 3 4;have Y:=fun j=>aA (n:=j) k;have cc:=ad af;have a0:=ad Z;clear af k Z am a4 J;by_cases be:0<L
     ·have i5:(1:Int)<(L:Int)+1:=by omega
      have an:=ad (V.o.2 (fun h=>by have:=a0.o;rw[h] at this;simp at this;omega));clear be;go_wp2_with fail;refine lO an.o A.o.1 A.o.2 su ?_ ?_ ?_ ?_;all_goals rfl
     ·obtain rfl:L=0:=by omega
      have ay:x.below=[]:=jn a0.o;have an:=ad (V.o.1 ay);obtain⟨g2,cs,pa,pc,kb,kd,b2,a,b0⟩:=PK.Wy (y:=x.top) (by have h:=B.o;rw[re,ay] at h;exact h);have hg:g=g2:=by have h:=cc.o;rw[b2] at h;injection h with l _ _;injection l with l;injection l with l;exact l.symm
      subst hg;have y0:=a 0 _ rfl;have y1:=a 1 _ rfl;have y2:=a 2 _ rfl;have y3:=a 3 _ rfl;have y4:=a 4 _ rfl;have cb:=ad b0;clear a b0 be b2 ay;go_wp2_with fail;refine lO an.o A.o.1 A.o.2 (eD (A':=fun b=>w.heap.size<b) (ag _) (fun b h _=>⟨by rw[T.o.1] at h;exact h,rfl⟩) _ _ cb.o) ?_ ?_ ?_ ?_;all_goals rfl
variable{a:Bool}{d:Bs}{b:Int}
theorem U0:∀(j:Nat) (b:UInt8),(⟨#[48,49,50,51,52,53,54,55,56,57]⟩:aaM).data.toList[j]? =some b→b.toNat<128:=by
 intro j b h;have a:=eQ h;have:∀x∈(Ct:Bs),x.toNat<128:=by decide
 exact this b a
abbrev Wg:TV→aaL
 |.none=>.nilIface
 |.sr s=>.iface 242 (.string ⟨s.toArray⟩)
 |.yes b=>.iface 243 (.bool b)
def Bj(w:aaK)(v:aaL):Ending→aaK→Prop:=fun e w'=>e=.returned v∧w'=w
theorem P9(d:Bs)(p:UInt8→Bool)(j:(fun c=>d.contains c)=p)(l:Bs):(Lib.trimS l d==[])=l.all p:=by
 rw[gf,bZ];have e:Lib.trimS l d=List.dropWhile p (List.dropWhile p l.reverse).reverse:=by rw[←j];rfl
 rw[e,bI,List.all_reverse];constructor
 ·intro h;have a:l.reverse.dropWhile p=[]:=by
   cases i:l.reverse.dropWhile p with
   |nil=>rfl
   |cons c r=>rw[i,kf,cW] at h;have b:=List.head?_dropWhile_not p l.reverse;rw[i] at b;simp only[List.head?_cons] at b;rw[h.1] at b;cases b
  rw[bI,List.all_reverse] at a;exact a
 ·intro h;have a:l.reverse.dropWhile p=[]:=by rw[bI,List.all_reverse];exact h
  rw[a];rfl
theorem Qa(s:aaM)(n:Nat)(w:aaK):(method (n+1) 242 (.string s) "inlay/truth.holds").run Tryz.prog w=.ok (288,.string s) w:=by kernel_rfl
theorem U1(b:Bool)(n:Nat)(w:aaK):(method (n+1) 243 (.bool b) "inlay/truth.holds").run Tryz.prog w=.ok (289,.bool b) w:=by kernel_rfl
theorem Mc(s:Bs)(w:aaK):Calls Tryz.prog 288 #[.string ⟨s.toArray⟩] w (Bj w (.bool (oz (.sr s)))):=by
 rcases dT (s=[]) with rfl|a
 ·go_enter Tryz.func288,Tryz.ntmps288;go_wp2_with fail;go_ret;exact⟨rfl,rfl⟩
 ·have b:(s==[])=false:=aL.2 a;rcases dT (s=CA) with rfl|c
  ·clear a b;go_enter Tryz.func288,Tryz.ntmps288;go_wp2_with fail;go_ret;exact⟨rfl,rfl⟩
  ·have e:(s==[102,97,108,115,101])=false:=aL.2 c;have d:=ad (show oz (.sr s)=true by have h:(s==CA)=false:=e;show((!(s==[]))&&(!(s==CA)))=true;rw[b,h];rfl)
   clear a c;go_enter Tryz.func288,Tryz.ntmps288;go_wp2_with fail;go_ret;exact⟨(by rw[d.o];try rfl),rfl⟩
theorem Md(b:Bool)(w:aaK):Calls Tryz.prog 289 #[.bool b] w (Bj w (.bool b)):=by go_enter Tryz.func289,Tryz.ntmps289;go_wp2_with fail;go_ret;exact⟨rfl,rfl⟩
theorem Bk(x:TV)(w:aaK):Calls Tryz.prog 144 #[Wg x] w (Bj w (.bool (oz x))):=by
 cases x with
 |none=>go_enter Tryz.func144,Tryz.ntmps144;go_wp2_with fail;go_ret;exact⟨rfl,rfl⟩
 |sr s=>have a:=Qa ⟨s.toArray⟩;go_enter Tryz.func144,Tryz.ntmps144;go_wp2_with fail;refine(Mc s w).m ?_;rintro e c⟨rfl,rfl⟩;go_wp2_with fail;go_ret;exact⟨rfl,rfl⟩
 |yes b=>have a:=U1 b;go_enter Tryz.func144,Tryz.ntmps144;go_wp2_with fail;refine(Md b w).m ?_;rintro e c⟨rfl,rfl⟩;go_wp2_with fail;go_ret;exact⟨rfl,rfl⟩
theorem mg(k:Int)(w:aaK):Calls Tryz.prog 177 #[.int .i64 k] w (cN w (.int .i64 (fG k))):=by
 rcases dT (k=10) with rfl|b
 ·go_enter Tryz.func177,Tryz.ntmps177;go_wp2_with fail;go_ret;exact⟨rfl,ar _ _⟩
 rcases dT (k=11) with rfl|c
 ·go_enter Tryz.func177,Tryz.ntmps177;go_wp2_with fail;go_ret;exact⟨rfl,ar _ _⟩
 rcases dT (k=12) with rfl|d
 ·go_enter Tryz.func177,Tryz.ntmps177;go_wp2_with fail;go_ret;exact⟨rfl,ar _ _⟩
 rcases dT (k=3) with rfl|i
 ·go_enter Tryz.func177,Tryz.ntmps177;go_wp2_with fail;go_ret;exact⟨rfl,ar _ _⟩
 rcases dT (k=1) with rfl|a
 ·go_enter Tryz.func177,Tryz.ntmps177;go_wp2_with fail;go_ret;exact⟨rfl,ar _ _⟩
 rcases dT (k=2) with rfl|e
 ·go_enter Tryz.func177,Tryz.ntmps177;go_wp2_with fail;go_ret;exact⟨rfl,ar _ _⟩
 rcases dT (k=4) with rfl|j
 ·go_enter Tryz.func177,Tryz.ntmps177;go_wp2_with fail;go_ret;exact⟨rfl,ar _ _⟩
 rcases dT (k=5) with rfl|l
 ·go_enter Tryz.func177,Tryz.ntmps177;go_wp2_with fail;go_ret;exact⟨rfl,ar _ _⟩
 rcases dT (k=6) with rfl|m
 ·go_enter Tryz.func177,Tryz.ntmps177;go_wp2_with fail;go_ret;exact⟨rfl,ar _ _⟩
 rcases dT (k=7) with rfl|n
 ·go_enter Tryz.func177,Tryz.ntmps177;go_wp2_with fail;go_ret;exact⟨rfl,ar _ _⟩
 rcases dT (k=8) with rfl|p
 ·go_enter Tryz.func177,Tryz.ntmps177;go_wp2_with fail;go_ret;exact⟨rfl,ar _ _⟩
 rcases dT (k=9) with rfl|q
 ·go_enter Tryz.func177,Tryz.ntmps177;go_wp2_with fail;go_ret;exact⟨rfl,ar _ _⟩
 have r:=ad (show fG k=-1 by rcases nV k with h|h|h|h<;>omega);have t:(k==10)=false:=aL.2 b;have u:(k==11)=false:=aL.2 c;have x:(k==12)=false:=aL.2 d;have z:(k==3)=false:=aL.2 i;have s:(k==1)=false:=aL.2 a;have y:(k==2)=false:=aL.2 e;have A:(k==4)=false:=aL.2 j;have B:(k==5)=false:=aL.2 l;have C:(k==6)=false:=aL.2 m;have D:(k==7)=false:=aL.2 n;have E:(k==8)=false:=aL.2 p;have F:(k==9)=false:=aL.2 q;clear b c d i a e j l m n p q;go_enter Tryz.func177,Tryz.ntmps177;go_wp2_with fail;go_ret;exact⟨(by rw[r.o];try rfl),ar _ _⟩
theorem Qb(k o:Int)(w:aaK):Calls Tryz.prog 221 #[.int .i64 k,.int .i64 o] w (Bj w (.bool (mA k o))):=by
 rcases dT (k=4) with rfl|a
 ·go_enter Tryz.func221,Tryz.ntmps221;go_wp2_with fail;all_goals
   go_ret;exact⟨cq (by simp[mA]),rfl⟩
 rcases dT (k=5) with rfl|b
 ·go_enter Tryz.func221,Tryz.ntmps221;go_wp2_with fail;all_goals
   go_ret;exact⟨cq (by simp[mA]),rfl⟩
 rcases dT (k=6) with rfl|c
 ·go_enter Tryz.func221,Tryz.ntmps221;go_wp2_with fail;all_goals
   go_ret;exact⟨cq (by simp[mA]),rfl⟩
 rcases dT (k=7) with rfl|d
 ·go_enter Tryz.func221,Tryz.ntmps221;go_wp2_with fail;all_goals
   go_ret;exact⟨cq (by simp[mA]),rfl⟩
 rcases dT (k=8) with rfl|e
 ·go_enter Tryz.func221,Tryz.ntmps221;go_wp2_with fail;all_goals
   go_ret;exact⟨cq (by simp[mA]),rfl⟩
 have h:=ad (show mA k o=decide (0≤o) by unfold mA;rw[ae a,ae b,ae c,ae d,ae e]);have i:(k==4)=false:=aL.2 a;have j:(k==5)=false:=aL.2 b;have l:(k==6)=false:=aL.2 c;have m:(k==7)=false:=aL.2 d;have n:(k==8)=false:=aL.2 e;clear a b c d e;go_enter Tryz.func221,Tryz.ntmps221;go_wp2_with fail;all_goals
  go_ret;exact⟨(by rw[h.o];try rfl),rfl⟩
theorem Qc(s:Bs)(w:aaK):Calls Tryz.prog 265 #[.string ⟨s.toArray⟩] w (Bj w (.bool false)):=by go_enter Tryz.func265,Tryz.ntmps265;go_wp2_with fail;go_ret;exact⟨rfl,rfl⟩
theorem Ke(a b:Bs)(w:aaK):Calls Tryz.prog 254 #[.string ⟨a.toArray⟩,.string ⟨b.toArray⟩] w (Bj w (.int .i64 (CB a b))):=by
 have d:=ad (show CB a b=if Op.bytesLess a b=true then-1 else if a=b then 0 else 1 from rfl);obtain⟨q,hq⟩:∃q,Op.bytesLess a b=q:=⟨_,rfl⟩;rw[hq] at d;go_enter Tryz.func254,Tryz.ntmps254;go_wp2_with fail;refine(Qc a w).m ?_;rintro e i⟨rfl,rfl⟩;go_wp2_with fail;refine(Qc b i).m ?_;rintro e k⟨rfl,rfl⟩;cases q
 ·rcases dT (a=b) with rfl|h
  ·have c:=ad (show CB a a=0 by rw[d.o];simp);go_wp2_with fail;go_ret;exact⟨(by rw[c.o];try rfl),rfl⟩
  ·have j:(a==b)=false:=aL.2 h;have c:=ad (show CB a b=1 by rw[d.o,ae h];rfl);clear h;go_wp2_with fail;go_ret;exact⟨(by rw[c.o];try rfl),rfl⟩
 ·have c:=ad (show CB a b=-1 by rw[d.o];rfl);go_wp2_with fail;go_ret;exact⟨(by rw[c.o];try rfl),rfl⟩
theorem CC(h:(if lb d=true then(tg d:Int) else 0)=b∧lb d=a)(c:lb d=true):(tg d:Int)=b∧true=a:=by rw[ah c,c] at h;exact h
theorem IP(h:(if lb d=true then(tg d:Int) else 0)=b∧lb d=a)(c:lb d=false):(0:Int)=b∧false=a:=by rw[ae (by rw[c];decide),c] at h;exact h
theorem Bl(s:Bs)(F:s.length≤200000000)(w:aaK):Calls Tryz.prog 252 #[.string ⟨s.toArray⟩] w (cN w (.tuple #[.int .i64 (if lb s=true then(tg s:Int) else 0),.bool (lb s)])):=by
 obtain⟨N,i⟩:∃N:Int,(if lb s=true then(tg s:Int) else 0)=N:=⟨_,rfl⟩;obtain⟨q,hq⟩:∃q,lb s=q:=⟨_,rfl⟩;rw[i,hq];have b:=ad (And.intro i hq);clear i hq;rcases dT (s=[]) with rfl|h
 ·obtain⟨rfl,rfl⟩:=IP b.o (show lb []=false from rfl);go_enter Tryz.func252,Tryz.ntmps252;go_wp2_with fail;go_ret2;exact⟨rfl,ar _ _⟩
 ·have C:(s==[])=false:=aL.2 h;have B:=ad (show s.isEmpty=false by cases s;exact absurd rfl h;rfl);clear h;by_cases c:s.length≤18
  ·have p:¬(18:Int)<(s.length:Int):=by omega
   have k:=ad c;have n:=ad (XM ⟨s.toArray⟩ ⟨#[48,49,50,51,52,53,54,55,56,57]⟩ w (by show s.toArray.size≤_;rw[oC];omega) (by decide) U0);obtain⟨r,j⟩:∃r,Lib.trimS (⟨s.toArray⟩:aaM).data.toList (⟨#[48,49,50,51,52,53,54,55,56,57]⟩:aaM).data.toList=r:=⟨_,rfl⟩;have l:=ad (show(r==[])=s.all kH by rw[←j];exact P9 Ct kH Bd s);rw[j] at n;clear j c;go_enter Tryz.func252,Tryz.ntmps252;go_wp2_with fail;refine n.o.m ?_;rintro e y⟨rfl,u⟩;have d:=ad u;clear u;rcases dT (r=[]) with rfl|x
   ·have a:=ad (show lb s=true by unfold lb;rw[B.o,bN k.o,←l.o];rfl);obtain⟨rfl,rfl⟩:=CC b.o a.o;have z:=ad (Tryz.strconv_Atoi ⟨s.toArray⟩ (tg s:Int) (by show s.toArray.size≤_;rw[oC];exact k.o) (P8 a.o) y);go_upto_region 3 with fail;clear C p;go_wp2_with fail;refine z.o.m ?_;rintro e G⟨rfl,E,rfl⟩;have A:=ad (d.o.t ((Lib.bytesWorld_below y 5 E).m d.o.size));go_wp2_with fail;go_ret2;exact⟨rfl,A.o⟩
   ·have D:(r==[])=false:=aL.2 x;have a:=ad (show lb s=false by unfold lb;rw[←l.o,D,CU]);obtain⟨rfl,rfl⟩:=IP b.o a.o;clear x;go_wp2_with fail;go_ret2;exact⟨rfl,d.o⟩
  ·have p:(18:Int)<(s.length:Int):=by omega
   have a:=ad (show lb s=false by unfold lb;rw[cL c,CU,Bool.false_and]);obtain⟨rfl,rfl⟩:=IP b.o a.o;clear c;go_enter Tryz.func252,Tryz.ntmps252;go_wp2_with fail;go_ret2;exact⟨rfl,ar _ _⟩
theorem Qd(a b:Bs)(y:a.length≤200000000)(z:b.length≤200000000)(w:aaK):Calls Tryz.prog 222 #[.string ⟨a.toArray⟩,.string ⟨b.toArray⟩] w (cN w (.int .i64 (Fu a b))):=by
 have p:=ad (Bl a y);have s:=ad (Bl b z);have d:=ad (show Fu a b=if lb a=true∧lb b=true then Lib.compareInt (tg a) (tg b) else CB a b from rfl);obtain⟨N,k⟩:∃N:Int,(if lb a=true then(tg a:Int) else 0)=N:=⟨_,rfl⟩;obtain⟨M,j⟩:∃M:Int,(if lb b=true then(tg b:Int) else 0)=M:=⟨_,rfl⟩;obtain⟨q,hq⟩:∃q,lb a=q:=⟨_,rfl⟩;obtain⟨l,h⟩:∃l,lb b=l:=⟨_,rfl⟩;rw[k,hq] at p;rw[j,h] at s;rw[hq,h] at d;have x:=ad (And.intro k hq);have u:=ad (And.intro j h);clear hq h y z k j;go_enter Tryz.func222,Tryz.ntmps222;go_wp2_with fail;refine(p.o w).m ?_;rintro e D⟨rfl,A⟩;have r:=ad A;clear A;go_upto_region 2 with fail;go_wp2_with fail;refine(s.o D).m ?_;rintro e n⟨rfl,B⟩;have i:=ad (r.o.t (B.m r.o.size));clear B;cases q
 ·have c:=ad (show Fu a b=CB a b by rw[d.o];simp);go_upto_region 5 with fail;go_wp2_with fail;refine(Ke a b n).m ?_;rintro e C⟨rfl,rfl⟩;go_wp2_with fail;go_ret;exact⟨(by rw[c.o];try rfl),i.o⟩
 ·cases l
  ·have c:=ad (show Fu a b=CB a b by rw[d.o];simp);go_upto_region 5 with fail;go_wp2_with fail;refine(Ke a b n).m ?_;rintro e C⟨rfl,rfl⟩;go_wp2_with fail;go_ret;exact⟨(by rw[c.o];try rfl),i.o⟩
  ·have c:=ad (show Fu a b=Lib.compareInt N M by rw[d.o,←(CC x.o x.o.2).1,←(CC u.o u.o.2).1];simp);go_upto_region 4 with fail;go_wp2_with fail;refine(Tryz.cmp_Compare_int N M n).m ?_;rintro e C⟨rfl,rfl⟩;go_wp2_with fail;go_ret;exact⟨(by rw[c.o];try rfl),i.o⟩
def nW:TV→Prop
 |.sr s=>s.length≤200000000
 |_=>True
theorem V0(s:Bs)(w:aaK):(Instr.typeAssert (.iface 242 (.string ⟨s.toArray⟩)) 207 242 true).run Tryz.prog w=.ok (.tuple #[.string ⟨s.toArray⟩,.bool true]) w:=by kernel_rfl
theorem V1(s:Bs)(w:aaK):(Instr.typeAssert (.iface 242 (.string ⟨s.toArray⟩)) 207 243 true).run Tryz.prog w=.ok (.tuple #[.bool false,.bool false]) w:=by kernel_rfl
theorem V2(b:Bool)(w:aaK):(Instr.typeAssert (.iface 243 (.bool b)) 207 242 true).run Tryz.prog w=.ok (.tuple #[.string ⟨#[]⟩,.bool false]) w:=by kernel_rfl
theorem V3(b:Bool)(w:aaK):(Instr.typeAssert (.iface 243 (.bool b)) 207 243 true).run Tryz.prog w=.ok (.tuple #[.bool b,.bool true]) w:=by kernel_rfl
theorem V4(w:aaK):(Instr.typeAssert .nilIface 207 242 true).run Tryz.prog w=.ok (.tuple #[.string ⟨#[]⟩,.bool false]) w:=by kernel_rfl
theorem V5(w:aaK):(Instr.typeAssert .nilIface 207 243 true).run Tryz.prog w=.ok (.tuple #[.bool false,.bool false]) w:=by kernel_rfl
theorem Fw(k:Int)(x y:TV)(n:nW x)(p:nW y)(w:aaK):Calls Tryz.prog 178 #[.int .i64 k,Wg x,Wg y] w (cN w (.bool (fQ k x y))):=by
 have B:=V0;have C:=V1;have D:=V2;have E:=V3;have z:=V4;have A:=V5;cases x with
 |none=>go_enter Tryz.func178,Tryz.ntmps178;go_wp2_with fail;go_ret;exact⟨rfl,ar _ _⟩
 |sr a=>
  cases y with
  |none=>go_enter Tryz.func178,Tryz.ntmps178;go_wp2_with fail;go_ret;exact⟨rfl,ar _ _⟩
  |sr b=>have i:=ad (Qd a b n p w);have c:=ad (show fQ k (.sr a) (.sr b)=mA k (Fu a b) from rfl);clear n p;obtain⟨o,l⟩:∃o,Fu a b=o:=⟨_,rfl⟩;rw[l] at i c;clear l;go_enter Tryz.func178,Tryz.ntmps178;go_wp2_with fail;refine i.o.m ?_;rintro e s⟨rfl,j⟩;have q:=ad j;clear j;go_wp2_with fail;refine(Qb k o s).m ?_;rintro e F⟨rfl,rfl⟩;go_wp2_with fail;go_ret;exact⟨(by rw[c.o];try rfl),q.o⟩
  |yes b=>go_enter Tryz.func178,Tryz.ntmps178;go_wp2_with fail;go_ret;exact⟨rfl,ar _ _⟩
 |yes a=>
  cases y with
  |none=>go_enter Tryz.func178,Tryz.ntmps178;go_wp2_with fail;go_ret;exact⟨rfl,ar _ _⟩
  |sr b=>go_enter Tryz.func178,Tryz.ntmps178;go_wp2_with fail;go_ret;exact⟨rfl,ar _ _⟩
  |yes b=>
   have c:=ad (show fQ k (.yes a) (.yes b)=((decide (k=4)&&(a==b))||(decide (k=5)&&(a !=b))) from rfl);rcases dT (k=4) with rfl|d
   ·cases a<;>cases b;all_goals
     go_enter Tryz.func178,Tryz.ntmps178;go_wp2_with fail;go_ret;exact⟨by rw[c.o];rfl,ar _ _⟩
   ·rcases dT (k=5) with rfl|h
    ·cases a<;>cases b;all_goals
      go_enter Tryz.func178,Tryz.ntmps178;go_wp2_with fail;go_ret;exact⟨by rw[c.o];rfl,ar _ _⟩
    ·have t:(k==4)=false:=aL.2 d;have u:(k==5)=false:=aL.2 h;have r:=ad (show fQ k (.yes a) (.yes b)=false by rw[c.o,cL d,cL h];rfl);clear d h;go_enter Tryz.func178,Tryz.ntmps178;go_wp2_with fail;go_ret;exact⟨(by rw[r.o];try rfl),ar _ _⟩
variable{e:Array aaL}{r D:Bs}{K:Ex}{j M:Int}{d B C E H:Nat}{Q:Nat→cG}{A:Option Addr}{a:TypeId}{i:UInt8}{l I:aaK}{q:aaL}{y:bc}{G:cG}
def GP(p:Nat)(W:aaK):Prop:=Good W∧0<p
theorem GP.aN{p:Nat}{W W':aaK}(h:GP p W)(a:ak p W W'):GP p W':=⟨h.1.aN a h.2,h.2⟩
def du(n:Nat):Nat→Prop:=fun b=>n≤b
def gP(W:aaK)(p:Nat)(s:Bs)(op:Nat)(A:Nat→Prop):cG→aaL→Prop
 |.aq x t,v=>(∃a:Nat,a≤s.length∧t≤s.length∧rs s a=rs s t∧PB W p s a op 0)∧dR A W x v
 |.ay q e,v=>e≠0∧q≤s.length∧PB W p s q op e∧Cs v
theorem gP.F4{W:aaK}{p:Nat}{s:Bs}{op:Nat}{A:Nat→Prop}{g:cG}{v:aaL}(h:gP W p s op A g v):Cs v:=by
 cases g with
 |aq x t=>exact h.2.F4
 |ay q e=>exact h.2.2.2
def XE(f:FuncId)(vs:Array aaL)(p:Nat)(s:Bs)(op:Nat)(g:Nat→cG)(K:aaK→Prop):Prop:=
 ∀(w:aaK) (i:Nat),i≤s.length→K w→PB w p s i op 0→Calls Tryz.prog f vs w fun e w'=>∃v,e=.returned v∧ak p w w'∧gP w' p s op (du w.heap.size) (g i) v
def iC(f:FuncId)(vs:Array aaL)(p:Nat)(s:Bs)(K:aaK→Prop):Prop:=
 ∀(w:aaK) (i op:Nat) (bad:Int),i≤s.length→bad≠0→K w→PB w p s i op bad→Calls Tryz.prog f vs w fun e w'=>∃v,e=.returned v∧ak p w w'∧PB w' p s i op bad∧Cs v
structure uw (W:aaK) (p b1 b2 b3 b4:Nat) (fv:aaL) (sg:UInt8) (kind:Int):Prop where
 c1:W.cell? ⟨b1,0,none⟩=some fv
 c2:W.cell? ⟨b2,0,none⟩=some (.pointer (some ⟨p,0,none⟩))
 c3:W.cell? ⟨b3,0,none⟩=some (.string ⟨#[sg]⟩)
 c4:W.cell? ⟨b4,0,none⟩=some (.int .i64 kind)
 n1:b1≠p
 n2:b2≠p
 n3:b3≠p
 n4:b4≠p
theorem qp{W W':aaK}{p b j:Nat}{v:aaL}(h:W.cell? ⟨b,j,none⟩=some v)(i:ak p W W')(a:b≠p):W'.cell? ⟨b,j,none⟩=some v:=by have d:=aV h;have c:=i.block b d (by intro e;cases e;exact a rfl);unfold World.cell? at h⊢;show(match W'.heap[b]? with|_=>_)=_;rw[c];exact h
theorem uw.aN{W W':aaK}(h:uw W d B C E H q i j)(a:ak d W W'):uw W' d B C E H q i j:=
 ⟨qp h.c1 a h.n1,qp h.c2 a h.n2,qp h.c3 a h.n3,qp h.c4 a h.n4,h.n1,h.n2,h.n3,h.n4⟩
def Be(p:Nat)(s:Bs)(W:aaK):Nat:=
 match W.cell? ⟨p,3,none⟩,W.cell? ⟨p,1,none⟩ with
 |some (.int _ 0),some (.int _ n)=>1+(s.length-pa s n.toNat)
 |_,_=>0
theorem Bf(h:PB l d r B C 0):Be d r l=1+(r.length-pa r B):=by unfold Be;rw[h.pc.c3,h.pc.c1];rfl
theorem PM(h:PB l d r B C j)(b:j≠0):Be d r l=0:=by
 unfold Be;rw[h.pc.c3,h.pc.c1];split
 ·rename_i a _;cases a;exact absurd rfl b
 ·rfl
structure RI (w W:aaK) (p b:Nat) (s:Bs) (op:Nat) (one:Nat→cG) (kind:Int) (sg:UInt8) (F:cG) (k:Int) (t:Bs) (u:bc) (a:Option Addr) (n c:Nat):Prop where
 aN:ak p w W
 far:w.heap.size≤b
 box:W.heap[b]? =some (.cells (dC k t u (.slice a n c)).toArray 171)
 res:(∃(q tt m:Nat) (x:Ex),PB W p s q op 0∧q≤s.length∧tt≤s.length∧rs s q=rs s tt∧dR (fun z=>w.heap.size≤z∧z≠b) W x (dY k t u (.slice a n c))∧F=kp one kind sg s m x tt∧s.length<tt+m)∨(∃(q:Nat) (e:Int),PB W p s q op e∧e≠0∧q≤s.length∧F=.ay q e)
theorem aM(h:l.heap[d]? =some (.cells (dC j r y q).toArray a)):
 l.cell? ⟨d,0,none⟩=some (.int .i64 j)∧l.cell? ⟨d,1,none⟩=some (.string ⟨r.toArray⟩)∧l.cell? ⟨d,2,none⟩=some (.int .i64 y.src)∧l.cell? ⟨d,3,none⟩=some (.int .i64 y.bJ)∧l.cell? ⟨d,4,none⟩=some (.string ⟨y.name.toArray⟩)∧l.cell? ⟨d,5,none⟩=some (.string ⟨y.key.toArray⟩)∧l.cell? ⟨d,6,none⟩=some (.string ⟨y.cK.toArray⟩)∧l.cell? ⟨d,7,none⟩=some (.bool y.hk)∧l.cell? ⟨d,8,none⟩=some (.bool y.hd)∧l.cell? ⟨d,9,none⟩=some q:=
 ⟨tH _ _ 0 _ _ _ h,tH _ _ 1 _ _ _ h,tH _ _ 2 _ _ _ h,tH _ _ 3 _ _ _ h,tH _ _ 4 _ _ _ h,tH _ _ 5 _ _ _ h,tH _ _ 6 _ _ _ h,tH _ _ 7 _ _ _ h,tH _ _ 8 _ _ _ h,tH _ _ 9 _ _ _ h⟩
theorem aJ(h:l.heap[d]? =some (.cells e a)):
 l.frozen? ⟨d,0,none⟩=false∧l.frozen? ⟨d,1,none⟩=false∧l.frozen? ⟨d,2,none⟩=false∧l.frozen? ⟨d,3,none⟩=false∧l.frozen? ⟨d,4,none⟩=false∧l.frozen? ⟨d,5,none⟩=false∧l.frozen? ⟨d,6,none⟩=false∧l.frozen? ⟨d,7,none⟩=false∧l.frozen? ⟨d,8,none⟩=false∧l.frozen? ⟨d,9,none⟩=false:=
 ⟨aF _ _ 0 _ _ h,aF _ _ 1 _ _ h,aF _ _ 2 _ _ h,aF _ _ 3 _ _ h,aF _ _ 4 _ _ h,aF _ _ 5 _ _ h,aF _ _ 6 _ _ h,aF _ _ 7 _ _ h,aF _ _ 8 _ _ h,aF _ _ 9 _ _ h⟩
theorem aR{v1 v2 c e i j k m n:aaL}(h:l.heap[d]? =some (.cells #[q,v1,v2,c,e,i,j,k,m,n] a)):
 l.cell? ⟨d,0,none⟩=some q∧l.cell? ⟨d,1,none⟩=some v1∧l.cell? ⟨d,2,none⟩=some v2∧l.cell? ⟨d,3,none⟩=some c∧l.cell? ⟨d,4,none⟩=some e∧l.cell? ⟨d,5,none⟩=some i∧l.cell? ⟨d,6,none⟩=some j∧l.cell? ⟨d,7,none⟩=some k∧l.cell? ⟨d,8,none⟩=some m∧l.cell? ⟨d,9,none⟩=some n:=
 ⟨tH _ _ 0 _ _ _ h,tH _ _ 1 _ _ _ h,tH _ _ 2 _ _ _ h,tH _ _ 3 _ _ _ h,tH _ _ 4 _ _ _ h,tH _ _ 5 _ _ _ h,tH _ _ 6 _ _ _ h,tH _ _ 7 _ _ _ h,tH _ _ 8 _ _ _ h,tH _ _ 9 _ _ _ h⟩
theorem vD{b j:Nat}{v:aaL}(h:l.cell? ⟨b,j,none⟩=some v)(O:Obj):(l.alloc O).cell? ⟨b,j,none⟩=some v:=by have a:=aV h;unfold World.cell? at h⊢;show(match(l.alloc O).heap[b]? with|_=>_)=_;rw[((ar l.heap.size l).alloc (ag _) O).block b a];exact h
theorem aG{o:Obj}(h:l.heap[d]? =some o)(O:Obj):(l.alloc O).heap[d]? =some o:=(((ar l.heap.size l).alloc (ag _) O).block d (aB.1 h).1).t h
theorem Zb(h:l.heap[d]? =some (.cells (dC j r y q).toArray a)):
 (∀O,(l.alloc O).cell? ⟨d,0,none⟩=some (.int .i64 j))∧(∀O,(l.alloc O).cell? ⟨d,1,none⟩=some (.string ⟨r.toArray⟩))∧(∀O,(l.alloc O).cell? ⟨d,2,none⟩=some (.int .i64 y.src))∧(∀O,(l.alloc O).cell? ⟨d,3,none⟩=some (.int .i64 y.bJ))∧(∀O,(l.alloc O).cell? ⟨d,4,none⟩=some (.string ⟨y.name.toArray⟩))∧(∀O,(l.alloc O).cell? ⟨d,5,none⟩=some (.string ⟨y.key.toArray⟩))∧(∀O,(l.alloc O).cell? ⟨d,6,none⟩=some (.string ⟨y.cK.toArray⟩))∧(∀O,(l.alloc O).cell? ⟨d,7,none⟩=some (.bool y.hk))∧(∀O,(l.alloc O).cell? ⟨d,8,none⟩=some (.bool y.hd))∧(∀O,(l.alloc O).cell? ⟨d,9,none⟩=some (q)):=
 ⟨fun O=>tH _ _ 0 _ _ _ (aG h O),fun O=>tH _ _ 1 _ _ _ (aG h O),fun O=>tH _ _ 2 _ _ _ (aG h O),fun O=>tH _ _ 3 _ _ _ (aG h O),fun O=>tH _ _ 4 _ _ _ (aG h O),fun O=>tH _ _ 5 _ _ _ (aG h O),fun O=>tH _ _ 6 _ _ _ (aG h O),fun O=>tH _ _ 7 _ _ _ (aG h O),fun O=>tH _ _ 8 _ _ _ (aG h O),fun O=>tH _ _ 9 _ _ _ (aG h O)⟩
theorem PN(h:l.heap[d]? =some (.cells e a)):
 (∀O,(l.alloc O).frozen? ⟨d,0,none⟩=false)∧(∀O,(l.alloc O).frozen? ⟨d,1,none⟩=false)∧(∀O,(l.alloc O).frozen? ⟨d,2,none⟩=false)∧(∀O,(l.alloc O).frozen? ⟨d,3,none⟩=false)∧(∀O,(l.alloc O).frozen? ⟨d,4,none⟩=false)∧(∀O,(l.alloc O).frozen? ⟨d,5,none⟩=false)∧(∀O,(l.alloc O).frozen? ⟨d,6,none⟩=false)∧(∀O,(l.alloc O).frozen? ⟨d,7,none⟩=false)∧(∀O,(l.alloc O).frozen? ⟨d,8,none⟩=false)∧(∀O,(l.alloc O).frozen? ⟨d,9,none⟩=false):=
 ⟨fun O=>aF _ _ 0 _ _ (aG h O),fun O=>aF _ _ 1 _ _ (aG h O),fun O=>aF _ _ 2 _ _ (aG h O),fun O=>aF _ _ 3 _ _ (aG h O),fun O=>aF _ _ 4 _ _ (aG h O),fun O=>aF _ _ 5 _ _ (aG h O),fun O=>aF _ _ 6 _ _ (aG h O),fun O=>aF _ _ 7 _ _ (aG h O),fun O=>aF _ _ 8 _ _ (aG h O),fun O=>aF _ _ 9 _ _ (aG h O)⟩
abbrev dO(W:aaK)(b:Nat)(k:Int)(t:Bs)(u:bc)(kv:aaL):aaK:=
 (((((((((W.setCell ⟨b,0,none⟩ (.int .i64 k)).setCell ⟨b,1,none⟩ (.string ⟨t.toArray⟩)).setCell ⟨b,2,none⟩ (.int .i64 u.src)).setCell ⟨b,3,none⟩ (.int .i64 u.bJ)).setCell ⟨b,4,none⟩ (.string ⟨u.name.toArray⟩)).setCell ⟨b,5,none⟩ (.string ⟨u.key.toArray⟩)).setCell ⟨b,6,none⟩ (.string ⟨u.cK.toArray⟩)).setCell ⟨b,7,none⟩ (.bool u.hk)).setCell ⟨b,8,none⟩ (.bool u.hd)).setCell ⟨b,9,none⟩ kv
theorem aK{k:Int}{t:Bs}{u:bc}{kv v0 v1 v2 w x y z A B C:aaL}(h:l.heap[d]? =some (.cells #[v0,v1,v2,w,x,y,z,A,B,C] a)):(dO l d k t u kv).heap[d]? =some (.cells (dC k t u kv).toArray a):=by have c:=aw (j:=0) (v:=.int .i64 k) h;simp only[jM,jN] at c;have e:=aw (j:=1) (v:=.string ⟨t.toArray⟩) c;simp only[jM,jN,kh] at e;have i:=aw (j:=2) (v:=.int .i64 u.src) e;simp only[jM,jN,kh] at i;have m:=aw (j:=3) (v:=.int .i64 u.bJ) i;simp only[jM,jN,kh] at m;have n:=aw (j:=4) (v:=.string ⟨u.name.toArray⟩) m;simp only[jM,jN,kh] at n;have o:=aw (j:=5) (v:=.string ⟨u.key.toArray⟩) n;simp only[jM,jN,kh] at o;have p:=aw (j:=6) (v:=.string ⟨u.cK.toArray⟩) o;simp only[jM,jN,kh] at p;have q:=aw (j:=7) (v:=.bool u.hk) p;simp only[jM,jN,kh] at q;have r:=aw (j:=8) (v:=.bool u.hd) q;simp only[jM,jN,kh] at r;have s:=aw (j:=9) (v:=kv) r;simp only[jM,jN,kh] at s;exact s
theorem dx(W:aaK)(b:Nat)(k:Int)(t:Bs)(u:bc)(kv:aaL):ak b W (dO W b k t u kv):=(ak.refl b W).set.set.set.set.set.set.set.set.set.set
theorem iH{w W W':aaK}(h:ak d w W)(a:ak B W W')(j:w.heap.size≤B):ak d w W':=
 ⟨a.os.t h.os,a.tape.t h.tape,a.output.t h.output,bP h.size a.size,fun k c i=>(a.block k (ej c h.size) (by intro e;cases e;omega)).t (h.block k c i)⟩
theorem PB.aN{W W':aaK}(h:PB W d r C E j)(a:ak B W W')(c:d≠B):PB W' d r C E j:=(a.block d h.lt (by intro e;cases e;exact c rfl)).t h
theorem gP.aN{W W':aaK}{p b:Nat}{s:Bs}{op:Nat}{A:Nat→Prop}{g:cG}{v:aaL}(h:gP W p s op A g v)(a:ak b W W')(c:p≠b)(m:¬A b):gP W' p s op A g v:=by
 cases g with
 |aq x t=>obtain⟨⟨q,d,i,j,k⟩,l⟩:=h;exact⟨⟨q,d,i,j,k.aN a c⟩,l.aN a m⟩
 |ay q e=>exact⟨h.1,h.2.1,h.2.2.1.aN a c,h.2.2.2⟩
theorem gP.VY{A A':Nat→Prop}{v:aaL}(h:gP l d r B A G v)(a:∀z,z<l.heap.size→A z→A' z):gP l d r B A' G v:=by
 cases G with
 |aq x t=>exact⟨h.1,jJ a _ _ h.2⟩
 |ay q e=>exact h
theorem J4{w W0 e:aaK}{p b op:Nat}{F:cG}(l:ak p w e)(o:p<w.heap.size)(q:W0.heap.size=w.heap.size+1)(m:gP e p r op (fun z=>W0.heap.size≤z∧z≠b) F (dY j D y (.slice A d B))):
 ak p w (dO e w.heap.size j D y (.slice A d B))∧gP (dO e w.heap.size j D y (.slice A d B)) p r op (du w.heap.size) F (dY j D y (.slice A d B)):=by
 have i:=dx e w.heap.size j D y (.slice A d B);refine⟨iH l i (ag _),(m.aN i (by omega) (by omega)).VY (fun z _ h=> ?_)⟩;show w.heap.size≤z;omega
def PO(one:Nat→cG)(kind:Int)(sg:UInt8)(s:Bs)(m:Nat)(x:Ex):cG→cG
 |.ay p e=>.ay p e
 |.aq y a=>kp one kind sg s m (oA kind x y) a
theorem Zc(h:Lib.hasPrefix (rs r B) [i]=true):kp Q j i r (d+1) K B=PO Q j i r d K (Q (pa r B+1)):=by
 conv=>lhs;rw[kp,h]
 rw[aS];cases Q (pa r B+1)<;>rfl
theorem PQ(h:Lib.hasPrefix (rs r B) [i]=false):kp Q j i r (d+1) K B=.aq K B:=by
 conv=>lhs;rw[kp,h]
 rfl
theorem SJ{o:aaK}{op:Nat}{L:Int}{N:Bs}{u u2:bc}{a2:Option Addr}{n c n2 w:Nat}
 (hT:ak d l I)(a4:d<l.heap.size)(hb:l.heap.size≤B)(ab:I.heap[B]? =some (.cells (dC M D u (.slice A n c)).toArray 171))(hx:dR (fun z=>l.heap.size≤z∧z≠B) I K (dY M D u (.slice A n c)))
 (Z:ak d I o)(Y:gP o d r op (du I.heap.size) (Q (pa r C+1)) (dY L N u2 (.slice a2 n2 w)))(af:Fits r (pa r C+1) (Q (pa r C+1)))(hF:G=PO Q j i r H K (Q (pa r C+1)))(a3:r.length<E+(H+1))(hq:pa r C=pa r E)(a5:pa r C+1≤r.length)(av:E≤r.length):
 RI l (dO (o.alloc (.cells (dC M D u (.slice A n c)++dC L N u2 (.slice a2 n2 w)).toArray 171)) B j [] aC (.slice (some ⟨o.heap.size,0,none⟩) 2 2)) d B r op Q j i G j [] aC (some ⟨o.heap.size,0,none⟩) 2 2∧
 Be d r (dO (o.alloc (.cells (dC M D u (.slice A n c)++dC L N u2 (.slice a2 n2 w)).toArray 171)) B j [] aC (.slice (some ⟨o.heap.size,0,none⟩) 2 2))<1+(r.length-pa r C):=by
 have aa:d≠B:=by omega
 have ao:B<I.heap.size:=(aB.1 ab).1;have X:Below o.heap.size o (o.alloc (.cells (dC M D u (.slice A n c)++dC L N u2 (.slice a2 n2 w)).toArray 171)):=(ar _ _).alloc (ag _) _;have W:=dx (o.alloc (.cells (dC M D u (.slice A n c)++dC L N u2 (.slice a2 n2 w)).toArray 171)) B j [] aC (.slice (some ⟨o.heap.size,0,none⟩) 2 2);have al:o.heap[B]? =_:=(Z.block B ao (by intro e;cases e;exact aa rfl)).t ab;have ap:=(X.block B (aB.1 al).1).t al;have a6:=hT.size;have a7:=Z.size;have ac:=aK (k:=j) (t:=[]) (u:=aC) (kv:=.slice (some ⟨o.heap.size,0,none⟩) 2 2) ap;have am:=iH ((hT.t Z).t (ak.ai X)) W hb;cases ho:Q (pa r C+1) with
 |aq y O=>
  rw[ho] at Y af hF;obtain⟨⟨q2,R,S,V,h4⟩,h5⟩:=Y;have hf:pa r C+1<O∧O≤r.length:=af;have J:=(h4.next X).aN W aa;have aU:dR (fun z=>l.heap.size≤z∧z≠B) o K _:=hx.aN Z (by omega);have a0:dR (fun z=>l.heap.size≤z∧z≠B) o y _:=jJ (fun z _ h=>by have:I.heap.size≤z:=h;omega) _ _ h5;have an:=Fc (T:=171) j aU a0 ⟨by omega,by omega⟩;have a1:=jP r av;refine⟨⟨am,hb,ac,.inl ⟨q2,O,H,oA j K y,J,R,S,V,an.aN W (by omega),hF,by omega⟩⟩, ?_⟩;rw[Bf J];have h6:pa r q2=pa r O:=by unfold pa;rw[V]
  have h7:=jP r S;have h8:=cY r O;omega
 |ay q2 e=>rw[ho] at Y hF;obtain⟨R,S,V,h4⟩:=Y;have J:=(V.next X).aN W aa;refine⟨⟨am,hb,ac,.inr ⟨q2,e,J,R,S,hF⟩⟩, ?_⟩;rw[PM J R];omega
theorem PR{kind:Int}{sg:UInt8}(J:ak d l I)(O:d<l.heap.size)(h:gP I d r C (du l.heap.size) (Q B) (dY j D y (.slice A E H))):
 RI l (I.alloc (.cells (dC j D y (.slice A E H)).toArray 171)) d I.heap.size r C Q kind sg (rz Q kind sg r B) j D y A E H:=by
 have b:=(ar I.heap.size I).alloc (ag _) (.cells (dC j D y (.slice A E H)).toArray 171);refine⟨J.t (ak.ai b),J.size,au I _, ?_⟩;unfold rz;cases G:Q B with
 |aq x M=>rw[G] at h;obtain⟨⟨q,m,o,w,F⟩,K⟩:=h;exact .inl ⟨q,M,r.length+1,x,F.next b,m,o,w,(jJ (fun z N L=>⟨L,by omega⟩) _ _ K).next b,rfl,by omega⟩
 |ay q e=>rw[G] at h;obtain⟨m,o,w,F⟩:=h;exact .inr ⟨q,e,w.next b,m,o,rfl⟩
theorem RI.cells(h:RI l I d B r C Q j i G M D y A E H):
 I.cell? ⟨B,0,none⟩=some (.int .i64 M)∧I.cell? ⟨B,1,none⟩=some (.string ⟨D.toArray⟩)∧I.cell? ⟨B,2,none⟩=some (.int .i64 y.src)∧I.cell? ⟨B,3,none⟩=some (.int .i64 y.bJ)∧I.cell? ⟨B,4,none⟩=some (.string ⟨y.name.toArray⟩)∧I.cell? ⟨B,5,none⟩=some (.string ⟨y.key.toArray⟩)∧I.cell? ⟨B,6,none⟩=some (.string ⟨y.cK.toArray⟩)∧I.cell? ⟨B,7,none⟩=some (.bool y.hk)∧I.cell? ⟨B,8,none⟩=some (.bool y.hd)∧I.cell? ⟨B,9,none⟩=some (.slice A E H):=
 ⟨tH _ _ 0 _ _ _ h.box,tH _ _ 1 _ _ _ h.box,tH _ _ 2 _ _ _ h.box,tH _ _ 3 _ _ _ h.box,tH _ _ 4 _ _ _ h.box,tH _ _ 5 _ _ _ h.box,tH _ _ 6 _ _ _ h.box,tH _ _ 7 _ _ _ h.box,tH _ _ 8 _ _ _ h.box,tH _ _ 9 _ _ _ h.box⟩
theorem SK(w:aaK)(p b1 b2 b3 b4:Nat)(s:Bs)(i op:Nat)(f:FuncId)(fi ca:Array aaL)(one:Nat→cG)(kind:Int)(sg:UInt8)(K:aaK→Prop)(hi:i≤s.length)(hs:s.length≤100000)
 (he:∀(vs:Array aaL) (w:aaK),(callFunc f vs).run Tryz.prog w=.ok (.enter f vs) w)(hR:XE f (fi++ca) p s op one K)(hk:∀W W',K W→ak p W W'→K W')(hF:jV s one)(bg:K w)(a4:uw w p b1 b2 b3 b4 (.func (.func f) fi ca) sg kind)(h:PB w p s i op 0):
 Calls Tryz.prog 208 #[.pointer (some ⟨b1,0,none⟩),.pointer (some ⟨b2,0,none⟩),.pointer (some ⟨b3,0,none⟩),.pointer (some ⟨b4,0,none⟩)] w fun e w'=>∃v,e=.returned v∧ak p w w'∧Hid (gP w' p s op (du w.heap.size) (rz one kind sg s i) v):=by
 have Y:ak p w (w.alloc (.cells #[.int .i64 0,.string ⟨#[]⟩,.int .i64 0,.int .i64 0,.string ⟨#[]⟩,.string ⟨#[]⟩,.string ⟨#[]⟩,.bool false,.bool false,.slice none 0 0] 171)):=ak.ai ((ar _ _).alloc (ag _) _);have aU:=ad (au w (.cells #[.int .i64 0,.string ⟨#[]⟩,.int .i64 0,.int .i64 0,.string ⟨#[]⟩,.string ⟨#[]⟩,.string ⟨#[]⟩,.bool false,.bool false,.slice none 0 0] 171));have HB:=ad (show PB (w.alloc (.cells #[.int .i64 0,.string ⟨#[]⟩,.int .i64 0,.int .i64 0,.string ⟨#[]⟩,.string ⟨#[]⟩,.string ⟨#[]⟩,.bool false,.bool false,.slice none 0 0] 171)) p s i op 0 from h.next ((ar _ _).alloc (ag _) _));have HR:=ad hR;have bs:=ad hk;have HF:=ad hF;have HK:=ad (hk _ _ bg Y);have be:=ad (a4.aN Y);have r:=ad h.lt;obtain⟨d1,d2,E,G,-,-,-,-⟩:=a4.aN Y;have bf:=ad Y;clear h hR hk hF bg a4 Y;go_enter Tryz.func208,Tryz.ntmps208;go_wp2_with fail;refine(HR.o _ i hi HK.o HB.o).m ?_;rintro e w1⟨v,rfl,al,a6⟩;obtain⟨Z,t0,u0,a0,n0,D,rfl⟩:=a6.F4;have b8:=ad (show w1.heap[w.heap.size]? =_ from(al.block w.heap.size (by rw[aO];omega) (by have:=r.o;intro e;cases e;omega)).t aU.o);have d:=ad (PR (kind:=kind) (sg:=sg) al (by rw[aO];have:=r.o;omega) a6);have ap:=ad (show p<w1.heap.size from by have:=al.size;rw[aO] at this;have:=r.o;omega);clear al a6 HB d1 d2 E G;generalize bi:rz one kind sg s i=F at*;have a9:=ad bi;clear bi;generalize a8:w.alloc (.cells #[.int .i64 0,.string ⟨#[]⟩,.int .i64 0,.int .i64 0,.string ⟨#[]⟩,.string ⟨#[]⟩,.string ⟨#[]⟩,.bool false,.bool false,.slice none 0 0] 171)=W0 at*;have cb:=ad a8;have C:=ad (show W0.heap.size=w.heap.size+1 by rw[←a8,aO]);clear a8;go_wp2_with fail;generalize w1.alloc (.cells (dC Z t0 u0 (.slice a0 n0 D)).toArray 171)=W1 at*;generalize w1.heap.size=b at*
 go_loopw [] (fun wr=>∃(k:Int) (t:Bs) (u:bc) (a:Option Addr) (n c:Nat),Hid (RI W0 wr p b s op one kind sg F k t u a n c)) (fun wr=>Be p s wr)
 case atStart=>exact⟨_,_,_,_,_,_,d⟩
 case round=>
  clear d;obtain⟨k,t,u,a,n,c,d⟩:=hrel;have b6:=ad (be.o.aN d.o.aN);obtain⟨d1,d2,E,G,-,-,-,-⟩:=b6.o;rcases d.o.res with⟨q,tt,an,x,H,I,h3,X,h5,h6,h7⟩|⟨q,e,H,I,h3,X⟩
  ·obtain⟨an,rfl⟩:∃m',an=m'+1:=⟨an-1,by omega⟩;have bx:=ad H;have ac:=ad X;have HX:=ad h5;have bb:=ad h6;have bv:=ad (Bf H);clear H X h5 h6;go_wp2_with fail;refine(fM wr p s q op [sg] I hs (by simp) bx.o).m ?_;rintro e l⟨rfl,y,j⟩;have b9:=ad j;have aa:=ad (j.block b (aV d.o.cells.1) (by have:=ap.o;intro e;cases e;omega));cases A:Lib.hasPrefix (rs s q) [sg]
   ·rw[A] at y;have ao:=ad (show PB l p s (pa s q) op 0 from y);have HP:=ad A;have av:=ad (show l.heap[b]? =_ from aa.o.t d.o.box);have B:=ad (show l.heap[w.heap.size]? =_ from((d.o.aN.t j).block w.heap.size (by have:=C.o;omega) (by have:=r.o;intro e;cases e;omega)).t aU.o);obtain⟨D,L,M,N,O,Q,R,S,T,V⟩:=aM av.o;obtain⟨f0,f1,f2,f3,f4,f5,f6,f7,f8,f9⟩:=aJ B.o;obtain⟨g0,g1,g2,g3,g4,g5,g6,g7,g8,g9⟩:=aR B.o;have hF:F=.aq x tt:=by rw[bb.o,PQ (by rw[←ac.o];exact A)]
    have J:=ad (J4 (w:=w) (W0:=W0) (b:=b) (F:=F) ((bf.o.t d.o.aN).t j) r.o C.o (by rw[hF];exact⟨⟨pa s q,cY s q,h3,(fL s I).t ac.o,ao.o⟩,HX.o.aN j (by have:=C.o;have:=r.o;omega)⟩));have a1:=ad (aK (k:=k) (t:=t) (u:=u) (kv:=.slice a n c) B.o);clear y j A hF;go_wp2_with fail;clear D L M N O Q R S T V f0 f1 f2 f3 f4 f5 f6 f7 f8 f9 g0 g1 g2 g3 g4 g5 g6 g7 g8 g9 d1 d2 E G;obtain⟨Z,k1,k2,k3,k4,k5,k6,k7,k8,k9⟩:=aM a1.o;refine aD (v:=dY k t u (.slice a n c)) ?_ rfl ⟨_,rfl,J.o.1,ad (by rw[a9.o];exact J.o.2)⟩;simp[results,Tryz.f208,go_sem,Z,k1,k2,k3,k4,k5,k6,k7,k8,k9]
   ·rw[A] at y;have af:=nR I A;simp only[mF] at af;have ao:=ad (show PB l.drew p s (pa s q+1) op 0 from y);have a5:pa s q=pa s tt:=by unfold pa;rw[ac.o]
    have bn:=ad (show F=PO one kind sg s an x (one (pa s q+1)) by rw[bb.o,Zc (by rw[←ac.o];exact A),a5]);have bJ:=ad a5;have bp:=ad (HF.o (pa s q+1) af);have a3:=ad (show ak p W0 l.drew from(d.o.aN.t j).t ⟨rfl,rfl,rfl,ag _,fun _ _ _=>rfl⟩);have br:=ad (bs.o _ _ HK.o a3.o);have bd:=ad (be.o.aN a3.o);have ab:=ad (show l.drew.heap[b]? =_ from aa.o.t d.o.box);have b7:=ad (show dR (fun z=>W0.heap.size≤z∧z≠b) l.drew x (dY k t u (.slice a n c)) from kG (W:=l) (W':=l.drew) (ag _) (fun _ _ _=>rfl) _ _ (HX.o.aN j (by have:=C.o;have:=r.o;omega)));have b0:=ad (show p<W0.heap.size by have:=C.o;have:=r.o;omega);have bl:=ad (show b<l.drew.heap.size from(aB.1 ab.o).1);have bm:=ad (show some b≠some p by have:=ap.o;intro e;cases e;omega);clear d1 d2 E G y j A a5;obtain⟨d1,d2,E,G,-,-,-,-⟩:=bd.o;obtain⟨D,L,M,N,O,Q,R,S,T,V⟩:=aM ab.o;go_wp2_with fail;go_region_law
     ((go_simp;refine(HR.o _ _ af br.o ao.o).m ?_;rintro e w3⟨v2,rfl,am,a7⟩;obtain⟨k2,t2,u2,a2,n2,cc,rfl⟩:=a7.F4;have HN:=ad (SJ a3.o b0.o d.o.far ab.o b7.o am a7 bp.o bn.o h7 bJ.o af h3);have b5:=ad (bd.o.aN am);have ay:=ad ((am.block b bl.o bm.o).t ab.o);clear am a7;obtain⟨x1,x2,x3,x4,-,-,-,-⟩:=b5.o;have x5:=vD x4;obtain⟨y0,y1,y2,y3,y4,y5,y6,y7,y8,y9⟩:=aM ay.o;obtain⟨z0,z1,z2,z3,z4,z5,z6,z7,z8,z9⟩:=PN ay.o;obtain⟨q0,q1,q2,q3,q4,q5,q6,q7,q8,q9⟩:=Zb ay.o))
    all_goals
     clear d1 d2 E G D L M N O Q R S T V x1 x2 x3 x4 x5 y0 y1 y2 y3 y4 y5 y6 y7 y8 y9 z0 z1 z2 z3 z4 z5 z6 z7 z8 z9 q0 q1 q2 q3 q4 q5 q6 q7 q8 q9;go_wp2_with fail
     go_roundw
     case rel=>exact⟨kind,[],aC,some ⟨w3.heap.size,0,none⟩,2,2,ad HN.o.1⟩
     case measure=>(rw[bv.o];exact HN.o.2)
  ·have bk:=ad H;have bo:=ad X;clear H X;go_wp2_with fail;refine(qo wr p s q op e ⟨#[sg]⟩ I bk.o).m ?_;rintro e2 l⟨rfl,y,j⟩;have aa:=ad (j.block b (aV d.o.cells.1) (by have:=ap.o;intro e;cases e;omega));have av:=ad (show l.heap[b]? =_ from aa.o.t d.o.box);have B:=ad (show l.heap[w.heap.size]? =_ from((d.o.aN.t j).block w.heap.size (by have:=C.o;omega) (by have:=r.o;intro e;cases e;omega)).t aU.o);obtain⟨D,L,M,N,O,Q,R,S,T,V⟩:=aM av.o;obtain⟨f0,f1,f2,f3,f4,f5,f6,f7,f8,f9⟩:=aJ B.o;obtain⟨g0,g1,g2,g3,g4,g5,g6,g7,g8,g9⟩:=aR B.o;have J:=ad (J4 (w:=w) (W0:=W0) (b:=b) (F:=F) ((bf.o.t d.o.aN).t j) r.o C.o (by rw[bo.o];exact⟨I,h3,y,⟨k,t,u,a,n,c,rfl⟩⟩));have a1:=ad (aK (k:=k) (t:=t) (u:=u) (kv:=.slice a n c) B.o);clear y j;go_wp2_with fail;clear D L M N O Q R S T V f0 f1 f2 f3 f4 f5 f6 f7 f8 f9 g0 g1 g2 g3 g4 g5 g6 g7 g8 g9 d1 d2 E G;obtain⟨Z,k1,k2,k3,k4,k5,k6,k7,k8,k9⟩:=aM a1.o;refine aD (v:=dY k t u (.slice a n c)) ?_ rfl ⟨_,rfl,J.o.1,ad (by rw[a9.o];exact J.o.2)⟩;simp[results,Tryz.f208,go_sem,Z,k1,k2,k3,k4,k5,k6,k7,k8,k9]
end Go.Proofs.YtlemddnecmmfgaaGreatDoor
namespace Go.Proofs.YtlemddnecmmfgaaGreatDoor
open Go.RowKit
variable{b:Bs}{y:FuncId}{d e q:Nat}{j l:aaK}{a:aaK→Prop}
theorem Fg(w:aaK)(p b1 b2 b3 b4:Nat)(s:Bs)(i op:Nat)(bad:Int)(f:FuncId)(fi ca:Array aaL)(kind:Int)(sg:UInt8)(K:aaK→Prop)(hi:i≤s.length)(Q:bad≠0)
 (he:∀(vs:Array aaL) (w:aaK),(callFunc f vs).run Tryz.prog w=.ok (.enter f vs) w)(N:iC f (fi++ca) p s K)(R:∀W W',K W→ak p W W'→K W')(M:K w)(D:uw w p b1 b2 b3 b4 (.func (.func f) fi ca) sg kind)(h:PB w p s i op bad):
 Calls Tryz.prog 208 #[.pointer (some ⟨b1,0,none⟩),.pointer (some ⟨b2,0,none⟩),.pointer (some ⟨b3,0,none⟩),.pointer (some ⟨b4,0,none⟩)] w fun e w'=>∃v,e=.returned v∧ak p w w'∧Hid (PB w' p s i op bad∧Cs v):=by
 have j:ak p w (w.alloc (.cells #[.int .i64 0,.string ⟨#[]⟩,.int .i64 0,.int .i64 0,.string ⟨#[]⟩,.string ⟨#[]⟩,.string ⟨#[]⟩,.bool false,.bool false,.slice none 0 0] 171)):=ak.ai ((ar _ _).alloc (ag _) _);have Y:=ad (au w (.cells #[.int .i64 0,.string ⟨#[]⟩,.int .i64 0,.int .i64 0,.string ⟨#[]⟩,.string ⟨#[]⟩,.string ⟨#[]⟩,.bool false,.bool false,.slice none 0 0] 171));have F:=ad (show PB (w.alloc (.cells #[.int .i64 0,.string ⟨#[]⟩,.int .i64 0,.int .i64 0,.string ⟨#[]⟩,.string ⟨#[]⟩,.string ⟨#[]⟩,.bool false,.bool false,.slice none 0 0] 171)) p s i op bad from h.next ((ar _ _).alloc (ag _) _));have Z:=ad N;have G:=ad Q;have X:=ad (R _ _ M j);have aa:=ad (D.aN j);have z:=ad h.lt;obtain⟨d1,d2,A,B,-,-,-,-⟩:=D.aN j;have J:=ad j;clear h N R M D j Q;go_enter Tryz.func208,Tryz.ntmps208;go_wp2_with fail;refine(Z.o _ i op bad hi G.o X.o F.o).m ?_;rintro e d⟨v,rfl,r,E,af⟩;obtain⟨k,t,u,a,n,c,rfl⟩:=af;have q:ak p d (d.alloc (.cells (dC k t u (.slice a n c)).toArray 171)):=ak.ai ((ar _ _).alloc (ag _) _);have S:=ad (show PB (d.alloc (.cells (dC k t u (.slice a n c)).toArray 171)) p s i op bad from E.next ((ar _ _).alloc (ag _) _));have ac:=ad (J.o.t (r.t q));have I:=ad (show(d.alloc (.cells (dC k t u (.slice a n c)).toArray 171)).heap[w.heap.size]? =_ from((r.t q).block w.heap.size (by rw[aO];omega) (by have:=z.o;intro e;cases e;omega)).t Y.o);have L:=ad (au d (.cells (dC k t u (.slice a n c)).toArray 171));have T:=ad (show some d.heap.size≠some p by have:=E.lt;intro e;cases e;omega);clear d1 d2 A B;obtain⟨d1,d2,A,B,-,-,-,-⟩:=aa.o.aN (r.t q);clear r E q F J;go_wp2_with fail;generalize d.alloc (.cells (dC k t u (.slice a n c)).toArray 171)=W1 at*;generalize d.heap.size=b at*;refine wp_loop_once ?_;go_wp2_with fail;refine(qo W1 p s i op bad ⟨#[sg]⟩ G.o S.o).m ?_;rintro e2 l⟨rfl,O,x⟩;have V:=ad (show l.heap[b]? =_ from(x.block b (aB.1 L.o).1 T.o).t L.o);have y:=ad (show l.heap[w.heap.size]? =_ from(x.block w.heap.size (aB.1 I.o).1 (by have:=z.o;intro e;cases e;omega)).t I.o);obtain⟨c0,c1,c2,c3,c4,c5,c6,c7,c8,c9⟩:=aM V.o;obtain⟨f0,f1,f2,f3,f4,f5,f6,f7,f8,f9⟩:=aJ y.o;obtain⟨g0,g1,g2,g3,g4,g5,g6,g7,g8,g9⟩:=aR y.o;have C:=dx l w.heap.size k t u (.slice a n c);have H:=ad (show ak p w (dO l w.heap.size k t u (.slice a n c))∧PB (dO l w.heap.size k t u (.slice a n c)) p s i op bad from⟨iH (ac.o.t x) C (ag _),O.aN C (by have:=z.o;omega)⟩);have ab:=ad (aK (k:=k) (t:=t) (u:=u) (kv:=.slice a n c) y.o);clear O x C;go_wp2_with fail;clear c0 c1 c2 c3 c4 c5 c6 c7 c8 c9 f0 f1 f2 f3 f4 f5 f6 f7 f8 f9 g0 g1 g2 g3 g4 g5 g6 g7 g8 g9 d1 d2 A B;obtain⟨k0,k1,k2,k3,k4,k5,k6,k7,k8,k9⟩:=aM ab.o;refine aD (v:=dY k t u (.slice a n c)) ?_ rfl ⟨_,rfl,H.o.1,ad ⟨H.o.2,⟨k,t,u,a,n,c,rfl⟩⟩⟩;simp[results,Tryz.f208,go_sem,k0,k1,k2,k3,k4,k5,k6,k7,k8,k9]
theorem Fh{p b1 b2 b3 b4:Nat}{fi ca:Array aaL}{one:Nat→cG}{kind:Int}{sg:UInt8}(t:b.length≤100000)
 (o:∀(vs:Array aaL) (w:aaK),(callFunc y vs).run Tryz.prog w=.ok (.enter y vs) w)(n:XE y (fi++ca) p b d one a)(r:∀W W',a W→ak p W W'→a W')(hF:jV b one):
 XE 208 #[.pointer (some ⟨b1,0,none⟩),.pointer (some ⟨b2,0,none⟩),.pointer (some ⟨b3,0,none⟩),.pointer (some ⟨b4,0,none⟩)] p b d (rz one kind sg b) (fun W=>a W∧uw W p b1 b2 b3 b4 (.func (.func y) fi ca) sg kind):=fun w i q c h=>
 (SK w p b1 b2 b3 b4 b i d y fi ca one kind sg a q t o n r hF c.1 c.2 h).m (by rintro e w'⟨v,j,k,l⟩;exact⟨v,j,k,l.out⟩)
theorem vE{p b1 b2 b3 b4:Nat}{fi ca:Array aaL}{kind:Int}{sg:UInt8}
 (o:∀(vs:Array aaL) (w:aaK),(callFunc y vs).run Tryz.prog w=.ok (.enter y vs) w)(l:iC y (fi++ca) p b a)(r:∀W W',a W→ak p W W'→a W'):
 iC 208 #[.pointer (some ⟨b1,0,none⟩),.pointer (some ⟨b2,0,none⟩),.pointer (some ⟨b3,0,none⟩),.pointer (some ⟨b4,0,none⟩)] p b (fun W=>a W∧uw W p b1 b2 b3 b4 (.func (.func y) fi ca) sg kind):=fun w i op bad q n d h=>
 (Fg w p b1 b2 b3 b4 b i op bad y fi ca kind sg a q n o l r d.1 d.2 h).m (by rintro e w'⟨v,j,k,c⟩;exact⟨v,j,k,c.out.1,c.out.2⟩)
end Go.Proofs.YtlemddnecmmfgaaGreatDoor
namespace Go.Proofs.YtlemddnecmmfgaaGreatDoor
open Go.RowKit
variable{b:Bs}{y:FuncId}{d e q:Nat}{j l:aaK}{a:aaK→Prop}
theorem yK(vs:Array aaL)(w:aaK):(callFunc 175 vs).run Tryz.prog w=.ok (.enter 175 vs) w:=cP Tryz.func175 (by kernel_rfl) rfl vs w
theorem vF(vs:Array aaL)(w:aaK):(callFunc 208 vs).run Tryz.prog w=.ok (.enter 208 vs) w:=cP Tryz.func208 (by kernel_rfl) rfl vs w
abbrev UT(b1 b2 b3 b4:Nat):aaL:=.func (.func 208) #[] #[.pointer (some ⟨b1,0,none⟩),.pointer (some ⟨b2,0,none⟩),.pointer (some ⟨b3,0,none⟩),.pointer (some ⟨b4,0,none⟩)]
theorem SL(w:aaK)(p:Nat)(kind:Int)(sg:UInt8)(c:aaL)(j:p<w.heap.size)(a b d e:TypeId):
 Below w.heap.size w ((((w.alloc (.cells #[.pointer (some ⟨p,0,none⟩)] a)).alloc (.cells #[.int .i64 kind] b)).alloc (.cells #[.string ⟨#[sg]⟩] d)).alloc (.cells #[c] e))∧
 uw ((((w.alloc (.cells #[.pointer (some ⟨p,0,none⟩)] a)).alloc (.cells #[.int .i64 kind] b)).alloc (.cells #[.string ⟨#[sg]⟩] d)).alloc (.cells #[c] e)) p (w.heap.size+1+1+1) w.heap.size (w.heap.size+1+1) (w.heap.size+1) c sg kind:=by
 have n1:=au w (.cells #[.pointer (some ⟨p,0,none⟩)] a);have n2:=au (w.alloc (.cells #[.pointer (some ⟨p,0,none⟩)] a)) (.cells #[.int .i64 kind] b);have h:=au ((w.alloc (.cells #[.pointer (some ⟨p,0,none⟩)] a)).alloc (.cells #[.int .i64 kind] b)) (.cells #[.string ⟨#[sg]⟩] d);have i:=au (((w.alloc (.cells #[.pointer (some ⟨p,0,none⟩)] a)).alloc (.cells #[.int .i64 kind] b)).alloc (.cells #[.string ⟨#[sg]⟩] d)) (.cells #[c] e);simp only[aO] at n2 h i;have b1:=(ar w.heap.size w).alloc (ag _) (.cells #[.pointer (some ⟨p,0,none⟩)] a);have b2:=b1.alloc b1.size (.cells #[.int .i64 kind] b);have b3:=b2.alloc b2.size (.cells #[.string ⟨#[sg]⟩] d);have b4:=b3.alloc b3.size (.cells #[c] e);exact⟨b4,⟨tH _ _ 0 _ _ _ i,tH _ _ 0 _ _ _ (aG (aG (aG n1 _) _) _),tH _ _ 0 _ _ _ (aG h _),tH _ _ 0 _ _ _ (aG (aG n2 _) _),by omega,by omega,by omega,by omega⟩⟩
theorem Cv(w:aaK)(p:Nat)(kind:Int)(sg:UInt8)(fn:Fn)(fi ca:Array aaL)(b:p<w.heap.size):
 Calls Tryz.prog 174 #[.pointer (some ⟨p,0,none⟩),.int .i64 kind,.string ⟨#[sg]⟩,.func fn fi ca] w fun e w'=>∃b1 b2 b3 b4,e=.returned (UT b1 b2 b3 b4)∧Below w.heap.size w w'∧uw w' p b1 b2 b3 b4 (.func fn fi ca) sg kind:=by
 have a:=ad (SL w p kind sg (.func fn fi ca) b 197 3 9 200);go_enter Tryz.func174,Tryz.ntmps174;go_wp2_with fail;go_ret;exact⟨_,_,_,_,rfl,a.o.1,a.o.2⟩
theorem Fi{a1 a2 a3 a4 b1 b2 b3 b4:Nat}(c:b.length≤100000)(n:XE 175 #[.pointer (some ⟨d,0,none⟩)] d b e (je b q) (GP d)):
 XE 208 #[.pointer (some ⟨b1,0,none⟩),.pointer (some ⟨b2,0,none⟩),.pointer (some ⟨b3,0,none⟩),.pointer (some ⟨b4,0,none⟩)] d b e (vh b q)
  (fun W=>(GP d W∧uw W d a1 a2 a3 a4 (.func (.func 175) #[.pointer (some ⟨d,0,none⟩)] #[]) 38 2)∧uw W d b1 b2 b3 b4 (UT a1 a2 a3 a4) 124 1):=by
 have j:=Fh (b1:=a1) (b2:=a2) (b3:=a3) (b4:=a4) (fi:=#[.pointer (some ⟨d,0,none⟩)]) (ca:=#[]) (kind:=2) (sg:=38) c yK n (fun _ _ h a=>h.aN a) (lq b q).2;have l:=Fh (b1:=b1) (b2:=b2) (b3:=b3) (b4:=b4) (fi:=#[]) (ca:=#[.pointer (some ⟨a1,0,none⟩),.pointer (some ⟨a2,0,none⟩),.pointer (some ⟨a3,0,none⟩),.pointer (some ⟨a4,0,none⟩)]) (kind:=1) (sg:=124) c vF j (fun W W' h a=>⟨h.1.aN a,h.2.aN a⟩) (yD b q);intro w i o m h;rw[UR];exact l w i o m h
theorem yL{a1 a2 a3 a4 b1 b2 b3 b4:Nat}(e:iC 175 #[.pointer (some ⟨d,0,none⟩)] d b (GP d)):
 iC 208 #[.pointer (some ⟨b1,0,none⟩),.pointer (some ⟨b2,0,none⟩),.pointer (some ⟨b3,0,none⟩),.pointer (some ⟨b4,0,none⟩)] d b
  (fun W=>(GP d W∧uw W d a1 a2 a3 a4 (.func (.func 175) #[.pointer (some ⟨d,0,none⟩)] #[]) 38 2)∧uw W d b1 b2 b3 b4 (UT a1 a2 a3 a4) 124 1):=by
 have c:=vE (b1:=a1) (b2:=a2) (b3:=a3) (b4:=a4) (fi:=#[.pointer (some ⟨d,0,none⟩)]) (ca:=#[]) (kind:=2) (sg:=38) yK e (fun _ _ h a=>h.aN a);exact vE (b1:=b1) (b2:=b2) (b3:=b3) (b4:=b4) (fi:=#[]) (ca:=#[.pointer (some ⟨a1,0,none⟩),.pointer (some ⟨a2,0,none⟩),.pointer (some ⟨a3,0,none⟩),.pointer (some ⟨a4,0,none⟩)]) (kind:=1) (sg:=124) vF c (fun W W' h a=>⟨h.1.aN a,h.2.aN a⟩)
theorem gq{p op N:Nat}{F:cG}{k:Int}{t:Bs}{u:bc}{a:Option Addr}(m:ak p j l)(r:p<j.heap.size)(q:j.heap.size<N)(o:gP l p b op (du N) F (dY k t u (.slice a d e))):
 ak p j (dO l j.heap.size k t u (.slice a d e))∧gP (dO l j.heap.size k t u (.slice a d e)) p b op (du j.heap.size) F (dY k t u (.slice a d e)):=by
 have i:=dx l j.heap.size k t u (.slice a d e);exact⟨iH m i (ag _),(o.aN i (by omega) (fun h=>by have:N≤j.heap.size:=h;omega)).VY (fun z _ h=>by have:N≤z:=h;show j.heap.size≤z;omega)⟩
theorem kD{bad k:Int}{t:Bs}{u:bc}{a:Option Addr}{n c:Nat}(m:ak d j l)(r:d<j.heap.size)(o:PB l d b e q bad):
 ak d j (dO l j.heap.size k t u (.slice a n c))∧PB (dO l j.heap.size k t u (.slice a n c)) d b e q bad∧Cs (dY k t u (.slice a n c)):=by
 have h:=dx l j.heap.size k t u (.slice a n c);exact⟨iH m h (ag _),o.aN h (by omega),⟨k,t,u,a,n,c,rfl⟩⟩
theorem bu{b:aaK}{o:Obj}(a:l.heap[j.heap.size]? =some o)(c:ak d l b)(h:d<j.heap.size):b.heap[j.heap.size]? =some o:=
 (c.block j.heap.size (aB.1 a).1 (by intro e;cases e;omega)).t a
theorem VZ(w:aaK)(p:Nat)(s:Bs)(i op k:Nat)(hi:i≤s.length)(hs:s.length≤100000)(A:XE 175 #[.pointer (some ⟨p,0,none⟩)] p s op (je s k) (GP p))(aa:GP p w)(h:PB w p s i op 0):
 Calls Tryz.prog 139 #[.pointer (some ⟨p,0,none⟩)] w fun e w'=>∃v,e=.returned v∧ak p w w'∧Hid (gP w' p s op (du w.heap.size) (vh s k i) v):=by
 have q:=ad h.lt;have b:=ad (show PB (w.alloc (.cells #[.int .i64 0,.string ⟨#[]⟩,.int .i64 0,.int .i64 0,.string ⟨#[]⟩,.string ⟨#[]⟩,.string ⟨#[]⟩,.bool false,.bool false,.slice none 0 0] 171)) p s i op 0 from h.next ((ar _ _).alloc (ag _) _));have r:=ad (show Below w.heap.size w (w.alloc (.cells #[.int .i64 0,.string ⟨#[]⟩,.int .i64 0,.int .i64 0,.string ⟨#[]⟩,.string ⟨#[]⟩,.string ⟨#[]⟩,.bool false,.bool false,.slice none 0 0] 171)) from(ar _ _).alloc (ag _) _);have N:=ad (au w (.cells #[.int .i64 0,.string ⟨#[]⟩,.int .i64 0,.int .i64 0,.string ⟨#[]⟩,.string ⟨#[]⟩,.string ⟨#[]⟩,.bool false,.bool false,.slice none 0 0] 171));have S:=ad (show(w.alloc (.cells #[.int .i64 0,.string ⟨#[]⟩,.int .i64 0,.int .i64 0,.string ⟨#[]⟩,.string ⟨#[]⟩,.string ⟨#[]⟩,.bool false,.bool false,.slice none 0 0] 171)).heap.size=w.heap.size+1 by rw[aO]);have O:=ad A;have ab:∀(fn:Fn) (first cap:Array aaL) (w:aaK),(Instr.makeFunc fn first cap).run Tryz.prog w=.ok (.func fn first cap) w:=fun _ _ _ _=>rfl;clear h A;go_enter Tryz.func139,Tryz.ntmps139;go_wp2_with fail;generalize w.alloc (.cells #[.int .i64 0,.string ⟨#[]⟩,.int .i64 0,.int .i64 0,.string ⟨#[]⟩,.string ⟨#[]⟩,.string ⟨#[]⟩,.bool false,.bool false,.slice none 0 0] 171)=W0 at*;refine(Cv W0 p 2 38 (.func 175) #[.pointer (some ⟨p,0,none⟩)] #[] b.o.lt).m ?_;rintro e w1⟨a1,a2,a3,a4,rfl,B,C⟩;have c:=ad B;have K:=ad C;clear B C;go_wp2_with fail;refine(Cv w1 p 1 124 (.func 208) #[] _ (ej b.o.lt c.o.size)).m ?_;rintro e I⟨b1,b2,b3,b4,rfl,j,D⟩;have a:=ad (c.o.t (j.m c.o.size));have M:=ad D;have L:=ad (K.o.aN (ak.ai j));have Q:=ad (b.o.next a.o);have J:=ad ((aa.aN (ak.ai r.o)).aN (ak.ai a.o));clear j D;go_wp2_with fail;refine(Fi (a1:=a1) (a2:=a2) (a3:=a3) (a4:=a4) hs O.o I i hi ⟨⟨J.o,L.o⟩,M.o⟩ Q.o).m ?_;rintro e w3⟨v,rfl,E,l⟩;obtain⟨F,H,u9,y,G,z,rfl⟩:=l.F4;have x:=ad ((ak.ai a.o).t E);have d:=ad (bu N.o x.o q.o);have n:=ad (gq ((ak.ai r.o).t x.o) q.o (by have h1:=S.o;have h2:=a.o.size;omega:w.heap.size<I.heap.size) l);have R:=ad (aK (k:=F) (t:=H) (u:=u9) (kv:=.slice y G z) d.o);obtain⟨T,V,W,X,Y,Z,f6,f7,f8,f9⟩:=aJ d.o;obtain⟨g0,g1,g2,g3,g4,g5,g6,g7,g8,g9⟩:=aR d.o;clear E l;go_wp2_with fail;clear T V W X Y Z f6 f7 f8 f9 g0 g1 g2 g3 g4 g5 g6 g7 g8 g9;obtain⟨y0,y1,y2,y3,y4,y5,y6,y7,y8,y9⟩:=aM R.o;refine aD (v:=dY F H u9 (.slice y G z)) ?_ rfl ⟨_,rfl,n.o.1,ad n.o.2⟩;simp[results,Tryz.f139,go_sem,y0,y1,y2,y3,y4,y5,y6,y7,y8,y9]
theorem Zd(w:aaK)(p:Nat)(s:Bs)(i op:Nat)(bad:Int)(hi:i≤s.length)(H:bad≠0)(F:iC 175 #[.pointer (some ⟨p,0,none⟩)] p s (GP p))(aa:GP p w)(h:PB w p s i op bad):
 Calls Tryz.prog 139 #[.pointer (some ⟨p,0,none⟩)] w fun e w'=>∃v,e=.returned v∧ak p w w'∧Hid (PB w' p s i op bad∧Cs v):=by
 have C:=ad h.lt;have b:=ad (show PB (w.alloc (.cells #[.int .i64 0,.string ⟨#[]⟩,.int .i64 0,.int .i64 0,.string ⟨#[]⟩,.string ⟨#[]⟩,.string ⟨#[]⟩,.bool false,.bool false,.slice none 0 0] 171)) p s i op bad from h.next ((ar _ _).alloc (ag _) _));have D:=ad (show Below w.heap.size w (w.alloc (.cells #[.int .i64 0,.string ⟨#[]⟩,.int .i64 0,.int .i64 0,.string ⟨#[]⟩,.string ⟨#[]⟩,.string ⟨#[]⟩,.bool false,.bool false,.slice none 0 0] 171)) from(ar _ _).alloc (ag _) _);have S:=ad (au w (.cells #[.int .i64 0,.string ⟨#[]⟩,.int .i64 0,.int .i64 0,.string ⟨#[]⟩,.string ⟨#[]⟩,.string ⟨#[]⟩,.bool false,.bool false,.slice none 0 0] 171));have ac:=ad (show(w.alloc (.cells #[.int .i64 0,.string ⟨#[]⟩,.int .i64 0,.int .i64 0,.string ⟨#[]⟩,.string ⟨#[]⟩,.string ⟨#[]⟩,.bool false,.bool false,.slice none 0 0] 171)).heap.size=w.heap.size+1 by rw[aO]);have T:=ad F;have af:∀(fn:Fn) (first cap:Array aaL) (w:aaK),(Instr.makeFunc fn first cap).run Tryz.prog w=.ok (.func fn first cap) w:=fun _ _ _ _=>rfl;have M:=ad H;clear h F H;go_enter Tryz.func139,Tryz.ntmps139;go_wp2_with fail;generalize w.alloc (.cells #[.int .i64 0,.string ⟨#[]⟩,.int .i64 0,.int .i64 0,.string ⟨#[]⟩,.string ⟨#[]⟩,.string ⟨#[]⟩,.bool false,.bool false,.slice none 0 0] 171)=W0 at*;refine(Cv W0 p 2 38 (.func 175) #[.pointer (some ⟨p,0,none⟩)] #[] b.o.lt).m ?_;rintro e w1⟨a1,a2,a3,a4,rfl,G,I⟩;have d:=ad G;have O:=ad I;clear G I;go_wp2_with fail;refine(Cv w1 p 1 124 (.func 208) #[] _ (ej b.o.lt d.o.size)).m ?_;rintro e w2⟨b1,b2,b3,b4,rfl,x,J⟩;have l:=ad (d.o.t (x.m d.o.size));have R:=ad J;have Q:=ad (O.o.aN (ak.ai x));have V:=ad (b.o.next l.o);have N:=ad ((aa.aN (ak.ai D.o)).aN (ak.ai l.o));clear x J;go_wp2_with fail;refine(yL (a1:=a1) (a2:=a2) (a3:=a3) (a4:=a4) T.o w2 i op bad hi M.o ⟨⟨N.o,Q.o⟩,R.o⟩ V.o).m ?_;rintro e w3⟨v,rfl,L,K,ab⟩;obtain⟨y,A,u9,q,z,r,rfl⟩:=ab;have E:=ad ((ak.ai l.o).t L);have j:=ad (bu S.o E.o C.o);have B:=ad (kD (k:=y) (t:=A) (u:=u9) (a:=q) (n:=z) (c:=r) ((ak.ai D.o).t E.o) C.o K);have W:=ad (aK (k:=y) (t:=A) (u:=u9) (kv:=.slice q z r) j.o);obtain⟨X,Y,Z,f3,f4,f5,f6,f7,f8,f9⟩:=aJ j.o;obtain⟨g0,g1,g2,g3,g4,g5,g6,g7,g8,g9⟩:=aR j.o;clear L K;go_wp2_with fail;clear X Y Z f3 f4 f5 f6 f7 f8 f9 g0 g1 g2 g3 g4 g5 g6 g7 g8 g9;obtain⟨y0,y1,y2,y3,y4,y5,y6,y7,y8,y9⟩:=aM W.o;refine aD (v:=dY y A u9 (.slice q z r)) ?_ rfl ⟨_,rfl,B.o.1,ad B.o.2⟩;simp[results,Tryz.f139,go_sem,y0,y1,y2,y3,y4,y5,y6,y7,y8,y9]
end Go.Proofs.YtlemddnecmmfgaaGreatDoor
