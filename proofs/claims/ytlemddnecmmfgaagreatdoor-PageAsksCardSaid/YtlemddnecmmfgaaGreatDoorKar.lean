/- The walks of truth's small functions. -/
import Derived.Test.YtlemddnecmmfgaaGreatDoorKap
import Derived.Test.YtlemddnecmmfgaaGreatDoorKaq
set_option linter.unusedVariables false
set_option maxRecDepth 100000
set_option maxHeartbeats 4000000
namespace Go.Proofs.YtlemddnecmmfgaaGreatDoor
open Go.RowKit
variable{C:Act}{a:Nat}{b:Nat→Prop}{h:Nd}{L:Nd×Nat×Int}{d:aaL}
theorem Ra{W:aaK}{base:Nat}{T:TypeId}{size n:Nat}{xs:List aaL}(a:xs.length=n*size)(c:n≤maxLen)(b:base≤W.heap.size):(W.alloc (.cells xs.toArray T)).ownsRow base T size (.slice (some ⟨W.heap.size,0,none⟩) n n) n xs:=
 ⟨a,.inr ⟨W.heap.size,n,xs.toArray,rfl,b,au W _,ag _,c,by simp[a],by rw[←a];simp⟩⟩
theorem qy.get{A:Nat→Prop}{W:aaK}:∀{l:List Tok} {xs:List aaL} {i:Nat} {t:Tok},qy A W l xs→l[i]? =some t→∃a c,aP A W t.attrs (.slice a t.attrs.length c)∧∀(j:Nat) (v:aaL),(ei t.kind t.name (.slice a t.attrs.length c) t.text t.src t.bJ)[j]? =some v→xs[i*6+j]? =some v
 |[],_,_,_,_,h=>by simp at h
 |u::r,xs,0,t,⟨a,c,rest,d,e,k⟩,h=>by simp at h;subst h;refine⟨a,c,e,fun j v b=> ?_⟩;rw[d,Nat.zero_mul,dH,qC (cH.1 b).1];exact b
 |u::r,xs,i+1,t,⟨a1,o,rest,d,e,k⟩,h=>by obtain⟨a,c,m,n⟩:=qy.get (i:=i) k (by simpa using h);refine⟨a,c,m,fun j v b=> ?_⟩;rw[d,jL (by show 6≤_;omega),←n j v b];congr 1;show(i+1)*6+j-6=_;omega
theorem mu.shape{W:aaK}{e:List Tok}(h:mu b W e d):∃a c,d=.slice a e.length c:=by
 obtain⟨xs,-,h⟩:=h;rcases h with⟨rfl,rfl⟩|⟨g,c,rfl,_⟩
 ·exact⟨none,0,rfl⟩
 ·exact⟨_,c,rfl⟩
theorem mu.get{A:Nat→Prop}{W:aaK}{d:List Tok}{ta:Option Addr}{r tc i:Nat}{t:Tok}(h:mu A W d (.slice ta r tc))(b:d[i]? =some t):
 ∃g a c,ta=some ⟨g,0,none⟩∧g<W.heap.size∧aP A W t.attrs (.slice a t.attrs.length c)∧∀(j:Nat) (v:aaL),(ei t.kind t.name (.slice a t.attrs.length c) t.text t.src t.bJ)[j]? =some v→W.cell? ⟨g,i*6+j,none⟩=some v:=by
 obtain⟨xs,p,h⟩:=h;rcases h with⟨rfl,_⟩|⟨g,s,k,x,y,l,m⟩
 ·simp at b
 ·injection k with e u w;obtain⟨a,c,n,o⟩:=p.get b;refine⟨g,a,c,e,l,n,fun j v q=> ?_⟩;have:=m _ _ (o j v q);rw[dH] at this;exact this
theorem uS{fn:Func}{W:aaK}{tmps:Array aaL}{i c e:Nat}{v1 v2 j k x y:aaL}(h:fn.results=#[.cell i 37,.tmp c,.tmp e])(m:tmps.getD i undef=.pointer (some ⟨a,0,none⟩))(o:tmps.getD c undef=x)(q:tmps.getD e undef=y)(l:W.heap[a]? =some (.cells #[d,v1,v2,j,k] 37)):
 (results fn tmps).run Tryz.prog W=.ok (.tuple #[.agg #[d,v1,v2,j,k],x,y]) W:=by
 obtain⟨s,t,u,w,z⟩:=qX5 (aj l) 0 1 2 3 4;have n:tmps[i]?.getD undef=.pointer (some ⟨a,0,none⟩):=by rw[←m];simp
 have p:tmps[c]?.getD undef=x:=by rw[←o];simp
 have r:tmps[e]?.getD undef=y:=by rw[←q];simp
 simp[results,h,go_sem,n,p,r,s,t,u,w,z]
section
variable{lo:KB}{w0 W W':aaK}{pb:Nat}{ov:aaL}{st:List Nd}{kvs ys:List aaL}{place e:Int}
theorem NC{A:Nat→Prop}{base:Nat}:∀{l:List Nd} {kvs ys:List aaL},gy A W base l kvs ys→∀v∈kvs,∀b,v.ownBlock=some b→base≤b
 |[],_,_,⟨k,_⟩,v,d,_,_=>by subst k;cases d
 |x::r,_,_,⟨a,c,kv,p,rest,xs,i,m,n,j,o,h⟩,v,d,b,e=>by
  subst i;rcases bL.1 d with rfl|d
  ·exact(j.lt b e).1
  ·exact NC h v d b e
theorem PK.Xk(H:PK lo w0 W pb ov st kvs ys place e):∀b∈pb::bM (ov::kvs),w0.heap.size≤b:=fun b a=>by
 rcases bL.1 a with rfl|a
 ·exact H.far
 ·obtain⟨v,c,d⟩:=cQ.1 a;rcases bL.1 c with rfl|c
  ·exact(H.own.lt b d).1
  ·exact NC H.Ge v c b d
theorem PK.QM(H:PK lo w0 W pb ov st kvs ys place e){l:List bQ}{v:aaL}(h:aP (fun b=>lo.lo≤b) w0 l v):aP (PL lo (pb::bM (ov::kvs))) W l v:=
 h.cO H.up.size fun b a c=>⟨⟨a,fun d=>by have:=H.Xk b d;omega⟩,H.up.block b c⟩
theorem ND{a b:aaK}{n:Nat}(p:n≤a.heap.size)(d:Below (a.heap.size+2) ((a.alloc (.cells (eH 1 0 [] (.slice none 0 0) (.slice none 0 0)).toArray 37)).alloc (.cells #[.slice (some ⟨a.heap.size,0,none⟩) 1 1,.int .i64 0,.int .i64 0] 72)) b)(q:BK b (a.heap.size+2) Nw):
 ∃lo:KB,lo.lo=n∧lo.mb=a.heap.size+2∧(∃es c,lo.ob=.map es c∧es.toList.map (fun e=>(e.key,e.val))=TX Nw)∧PK lo a b (a.heap.size+1) (.slice (some ⟨a.heap.size,0,none⟩) 1 1) [lN] [.slice none 0 0] (eH 1 0 [] (.slice none 0 0) (.slice none 0 0)) 0 0:=by
 obtain⟨es,c,i,j⟩:=q;have s:((a.alloc (.cells (eH 1 0 [] (.slice none 0 0) (.slice none 0 0)).toArray 37)).alloc (.cells #[.slice (some ⟨a.heap.size,0,none⟩) 1 1,.int .i64 0,.int .i64 0] 72)).heap.size=a.heap.size+2:=by rw[aO,aO]
 have k:Below a.heap.size a ((a.alloc (.cells (eH 1 0 [] (.slice none 0 0) (.slice none 0 0)).toArray 37)).alloc (.cells #[.slice (some ⟨a.heap.size,0,none⟩) 1 1,.int .i64 0,.int .i64 0] 72)):=
  ((ar _ _).alloc (ag _) _).alloc (by rw[aO];omega) _
 have r:=(Ra (W:=a) (base:=a.heap.size) (T:=37) (size:=5) (n:=1) (xs:=eH 1 0 [] (.slice none 0 0) (.slice none 0 0)) rfl (by decide) (ag _)).alloc (.cells #[.slice (some ⟨a.heap.size,0,none⟩) 1 1,.int .i64 0,.int .i64 0] 72);have o:((a.alloc (.cells (eH 1 0 [] (.slice none 0 0) (.slice none 0 0)).toArray 37)).alloc (.cells #[.slice (some ⟨a.heap.size,0,none⟩) 1 1,.int .i64 0,.int .i64 0] 72)).heap[a.heap.size+1]? =_:=iT a _ _;generalize(a.alloc (.cells (eH 1 0 [] (.slice none 0 0) (.slice none 0 0)).toArray 37)).alloc (.cells #[.slice (some ⟨a.heap.size,0,none⟩) 1 1,.int .i64 0,.int .i64 0] 72)=h at*;have l:Below h.heap.size h b:=by rw[s];exact d
 refine⟨⟨n,a.heap.size+2,.map es c⟩,rfl,rfl,⟨es,c,rfl,j⟩,k.t (d.m (by omega)),(d.block _ (by omega)).t o,cp r l, ?_, ?_,by omega,p,⟨?_, ?_⟩,i⟩
 ·exact⟨none,0,.slice none 0 0,[],[],[],rfl,rfl,.inl ⟨rfl,none,0,rfl⟩,jO _ _ _ _,rfl,rfl,rfl⟩
 ·show([a.heap.size+1,a.heap.size]:List Nat).Nodup;simp
 ·show n≤a.heap.size+2;omega
 ·show a.heap.size+2∉([a.heap.size+1,a.heap.size]:List Nat);simp
theorem PK.Wy{y:Nd}(H:PK lo w0 W pb ov [y] kvs ys place e):∃g cap a c i k,ov=.slice (some ⟨g,0,none⟩) 1 cap∧(∀(j:Nat) (v:aaL),(eH y.kind y.place y.text (.slice a y.attrs.length c) (.slice i y.kids.length k))[j]? =some v→W.cell? ⟨g,j,none⟩=some v)∧
 fu (fun b=>lo.lo≤b) W y (wZ y.kind y.place y.text (.slice a y.attrs.length c) (.slice i y.kids.length k)):=by
 obtain⟨g,cap,a,c,kv,xs,E,G,t,A,B,n,F,D,C⟩:=PK.oM (l:=[]) H;obtain⟨i,k,rfl,-⟩:=mK F.own;obtain⟨o,p,q,r,s,u,m,w⟩:=F;refine⟨g,cap,a,c,i,k,t,fun j v d=> ?_, ?_⟩
 ·match j,d with
  |0,d=>cases d;simpa using o
  |1,d=>cases d;simpa using p
  |2,d=>cases d;simpa using q
  |3,d=>cases d;simpa using r
  |4,d=>cases d;simpa using s
 ·rw[Nd.eta y];exact mJ.2 ⟨_,_,rfl,u.cO (ag _) (fun b h _=>⟨h.1,rfl⟩),Ab m (w.map fun x v h=>eD (ag _) (fun b h _=>⟨h.1,rfl⟩) x v h) (fun z n=>bP H.Tn (m.lt z n).1)⟩
end
def xm(w:aaK)(r:Nd×Nat×Int):Ending→aaK→Prop:=fun e w'=>Below w.heap.size w w'∧∃v,e=.returned (.tuple #[v,.int .i64 r.2.1,.int .i64 r.2.2])∧fu (fun b=>w.heap.size≤b) w' r.1 v
theorem su{W:aaK}:fu b W ny (wZ 0 0 [] (.slice none 0 0) (.slice none 0 0)):=mJ.2 ⟨_,_,rfl,.inl ⟨rfl,none,0,rfl⟩,.inl ⟨rfl,none,0,rfl⟩⟩
theorem Dy{W:aaK}{T:TypeId}{v1 v2 c e:aaL}(u0 u1 u2 u3 u4:aaL)(h:W.heap[a]? =some (.cells #[d,v1,v2,c,e] T)):
 (((((W.setCell ⟨a,0,none⟩ u0).setCell ⟨a,1,none⟩ u1).setCell ⟨a,2,none⟩ u2).setCell ⟨a,3,none⟩ u3).setCell ⟨a,4,none⟩ u4).heap[a]? =some (.cells #[u0,u1,u2,u3,u4] T):=
 aw (j:=4) (aw (j:=3) (aw (j:=2) (aw (j:=1) (aw (j:=0) h))))
theorem lO{w W:aaK}{v0 v1 v2 z A u0 u1 u2 u3 u4:aaL}{e:Int}(l:(h,a,e)=L)(d:Below w.heap.size w W)(m:W.heap[w.heap.size]? =some (.cells #[v0,v1,v2,z,A] 37))
 (r:fu (fun b=>w.heap.size<b) W h (.agg #[u0,u1,u2,u3,u4]))(u:C.tmps.getD 2 undef=.pointer (some ⟨w.heap.size,0,none⟩))(x:C.tmps.getD 3 undef=.int .i64 (a:Int))(y:C.tmps.getD 4 undef=.int .i64 e)(q:C.defers=[]):
 bodyPost Tryz.prog Tryz.f8 (xm w L) Exit.ret C (((((W.setCell ⟨w.heap.size,0,none⟩ u0).setCell ⟨w.heap.size,1,none⟩ u1).setCell ⟨w.heap.size,2,none⟩ u2).setCell ⟨w.heap.size,3,none⟩ u3).setCell ⟨w.heap.size,4,none⟩ u4):=by
 subst l;have k:=Dy u0 u1 u2 u3 u4 m;have c:ak w.heap.size W (((((W.setCell ⟨w.heap.size,0,none⟩ u0).setCell ⟨w.heap.size,1,none⟩ u1).setCell ⟨w.heap.size,2,none⟩ u2).setCell ⟨w.heap.size,3,none⟩ u3).setCell ⟨w.heap.size,4,none⟩ u4):=(((((ak.refl _ W).set).set).set).set).set;generalize((((W.setCell ⟨w.heap.size,0,none⟩ u0).setCell ⟨w.heap.size,1,none⟩ u1).setCell ⟨w.heap.size,2,none⟩ u2).setCell ⟨w.heap.size,3,none⟩ u3).setCell ⟨w.heap.size,4,none⟩ u4=W' at*;have s:=d.size;have o:=d.t (c.below (ag _) s);refine aD (uS rfl u x y k) q ⟨o,_,rfl, ?_⟩;exact eD (A':=fun b=>w.heap.size≤b) c.size (fun b i j=>⟨om i,c.block b j (by intro e;injection e with e;omega)⟩) _ _ r
theorem BM{w W:aaK}{v0 v1 v2 A B u0 u1 u2 u3 u4:aaL}{e:Int}(o:(h,a,e)=L)(d:Below w.heap.size w W)(q:W.heap[w.heap.size]? =some (.cells #[v0,v1,v2,A,B] 37))
 (s:fu (fun b=>w.heap.size<b) W h (.agg #[u0,u1,u2,u3,u4]))(x:C.tmps.getD 2 undef=.pointer (some ⟨w.heap.size,0,none⟩))(y:C.tmps.getD 3 undef=.int .i64 (a:Int))(z:C.tmps.getD 4 undef=.int .i64 e)(r:C.defers=[]):
 bodyPost Tryz.prog Tryz.f8 (xm w L) Exit.ret C (((((W.setCell ⟨w.heap.size,0,none⟩ u0).setCell ⟨w.heap.size,1,none⟩ u1).setCell ⟨w.heap.size,2,none⟩ u2).setCell ⟨w.heap.size,3,none⟩ u3).setCell ⟨w.heap.size,4,none⟩ u4).drew:=by
 subst o;have l:=Dy u0 u1 u2 u3 u4 q;have c:ak w.heap.size W (((((W.setCell ⟨w.heap.size,0,none⟩ u0).setCell ⟨w.heap.size,1,none⟩ u1).setCell ⟨w.heap.size,2,none⟩ u2).setCell ⟨w.heap.size,3,none⟩ u3).setCell ⟨w.heap.size,4,none⟩ u4):=(((((ak.refl _ W).set).set).set).set).set;generalize((((W.setCell ⟨w.heap.size,0,none⟩ u0).setCell ⟨w.heap.size,1,none⟩ u1).setCell ⟨w.heap.size,2,none⟩ u2).setCell ⟨w.heap.size,3,none⟩ u3).setCell ⟨w.heap.size,4,none⟩ u4=W' at*;have u:=d.size;have i:=d.t (c.below (ag _) u);refine aD (uS rfl x y z (W:=W'.drew) l) r ⟨i.t ((ax W' 1).m i.size),_,rfl, ?_⟩;exact(eD (A':=fun b=>w.heap.size≤b) c.size (fun b j k=>⟨om j,c.block b k (by intro e;injection e with e;omega)⟩) _ _ s).next (ax W' 1)
theorem TY(s:Bs)(h:¬65536<s.length):(∀q c,lexB s=.bad q c→(ny,q,c)=gW s)∧(∀a j,lexB s=.aq a j→(∀q c,fX ⟨lN,[]⟩ a=.bad q c→(ny,q,c)=gW s)∧
 (∀x,fX ⟨lN,[]⟩ a=.aq x→(x.below=[]→(x.top,0,0)=gW s)∧(x.below≠[]→(ny,s.length,14)=gW s))):=by
 unfold gW;rw[ae h];refine⟨fun q c b=>by rw[b],fun a j b=> ?_⟩;rw[b];refine⟨fun q c d=>by simp only[d],fun x d=> ?_⟩;simp only[d];refine⟨fun e=>by rw[e];rfl,fun e=> ?_⟩;cases i:x.below with
 |nil=>exact absurd i e
 |cons y r=>rfl
theorem Am(w:aaK)(hG:GL w)(s:Bs)(hs:s.length≤1000000):
 Calls Tryz.prog 8 #[.string ⟨s.toArray⟩] w (xm w (gW s)):=by
 have hA:Below w.heap.size w (w.alloc (.cells (eH 0 0 [] (.slice none 0 0) (.slice none 0 0)).toArray 37)):=(ar _ _).alloc (ag _) _;have K:=ad hA;have C:=ad (au w (.cells (eH 0 0 [] (.slice none 0 0) (.slice none 0 0)).toArray 37));have a9:=ad (aO w (.cells (eH 0 0 [] (.slice none 0 0) (.slice none 0 0)).toArray 37));have M:=ad (Gn _ (hG.next hA) s hs);obtain⟨R,hR⟩:∃R,gW s=R:=⟨_,rfl⟩;rw[hR];have ao:=ad hR;clear hA hG hR;go_enter Tryz.func8,Tryz.ntmps8
 go_upto_if 12 with fail
 generalize w.alloc (.cells #[.int .i64 0,.int .i64 0,.string ⟨#[]⟩,.slice none 0 0,.slice none 0 0] 37)=W1 at*;by_cases ab:65536<s.length
 ·have I:=ad (show(ny,65536,3)=R by rw[←ao.o,gW,ah ab]);have i1:(65536:Int)<(s.length:Int):=by omega
  obtain⟨q0,l,q2,q3,q4⟩:=qX5 (aj C.o) 0 1 2 3 4;have Y:=fun j=>aA (n:=j) C.o;have Q:=ad (K.o);clear ab;go_wp2_with fail;refine lO I.o Q.o C.o su ?_ ?_ ?_ ?_;all_goals rfl
 ·have bn:s.length≤65536:=by omega
  have I:=ad (ao.o▸TY s ab);have i1:¬(65536:Int)<(s.length:Int):=by omega
  have S:=ad (C4 s);clear ab ao;cases E:lexB s with
  |bad q c=>
   rw[E] at M S;have J:=ad (I.o.1 q c E);have b9:=ad (show q≤s.length∧(c=11∨c=12∨c=13∨c=14) from S.o);have l:(c !=0)=true:=by rw[bne,eS (by have:=b9.o.2;omega)];rfl
   clear E I S;go_wp2_with fail;refine M.o.m ?_;rintro en d⟨r,rfl⟩;have F:=(r.block _ (aB.1 C.o).1).t C.o;have Q:=ad (And.intro (K.o.t (r.m K.o.size)) F);obtain⟨q0,l,q2,q3,q4⟩:=qX5 (aj F) 0 1 2 3 4;have Y:=fun j=>aA (n:=j) F;clear r F;go_wp2_with fail;refine lO J.o Q.o.1 Q.o.2 su ?_ ?_ ?_ ?_;all_goals rfl
  |aq z j=>
   rw[E] at M;have J:=ad (I.o.2 z j E);have bb:=ad (Vj E);have aU:=ad bn;clear E I S bn;go_wp2_with fail;refine M.o.m ?_;rintro en d⟨r,tv,rfl,aN⟩;obtain⟨ta,tc,rfl⟩:=aN.shape;have bd:=ad aN;have F:=(r.block _ (aB.1 C.o).1).t C.o;have e:=ad (And.intro (K.o.t (r.m K.o.size)) (And.intro F (a9.o▸r.size)));have av:=ad (KK ((d.alloc (.cells (eH 1 0 [] (.slice none 0 0) (.slice none 0 0)).toArray 37)).alloc (.cells #[.slice (some ⟨d.heap.size,0,none⟩) 1 1,.int .i64 0,.int .i64 0] 72)));rw[show((d.alloc (.cells (eH 1 0 [] (.slice none 0 0) (.slice none 0 0)).toArray 37)).alloc (.cells #[.slice (some ⟨d.heap.size,0,none⟩) 1 1,.int .i64 0,.int .i64 0] 72)).heap.size=d.heap.size+2 by rw[aO,aO]] at av;clear r aN F M;obtain⟨N,hN⟩:∃N,z.length=N:=⟨_,rfl⟩;rw[hN] at bd⊢;have al:=ad hN;clear hN;go_wp2_with fail;refine av.o.m ?_;rintro en w4⟨rfl,bv,bg⟩;obtain⟨lo,bp,br,bs,b4⟩:=ND (n:=w.heap.size+1) e.o.2.2 bg bv;have T:=ad (And.intro bp (And.intro br bs));have a5:=ad (show PK lo d w4 (d.heap.size+1) (.slice (some ⟨d.heap.size,0,none⟩) 1 1) (re ⟨lN,[]⟩) [.slice none 0 0] (eH 1 0 [] (.slice none 0 0) (.slice none 0 0)) 0 0 from b4);obtain⟨P,hP⟩:∃P,fX ⟨lN,[]⟩ z=P:=⟨_,rfl⟩;rw[hP] at J;have a3:=ad (show fX ⟨lN,[]⟩ (z.drop 0)=P from hP);have a7:Hid (tR 0 ⟨lN,[]⟩):=ad ⟨by decide,fun y hy=>by rw[fj.1 hy];decide,rfl⟩;have ch:=ad (show N≤300000 by rw[←al.o];have:=bb.o.2;have:=aU.o;omega);have n1:N≤300000:=ch.o;clear bp br bs b4 bv bg hP av;go_upto_region 8 with fail;generalize b3:d.heap.size+1=pb at*;generalize bx:d.heap.size+2=mb at*;have a1:=ad (And.intro b3 bx);clear b3 bx;go_upto_region 9 with fail
   go_loopw [32] (fun iv wr=>∃(i:Nat) (x:rf) (ov:aaL) (kvs ys:List aaL),i≤N∧iv=.int .i64 i∧Hid (PK lo d wr pb ov (re x) kvs ys 0 0)∧Hid (fX x (z.drop i)=P)∧Hid (tR i x)) (fun iv _=>N-(intOf iv).toNat)
   case atStart=>exact⟨0,_,_,_,_,aH _,rfl,a5,a3,a7⟩
   case round=>
    obtain⟨i,x,ov,kvs,ys,hi,rfl,B,am,ap⟩:=hrel;clear a5 a3 a7;by_cases cn:i<N
    ·have i2:(i:Int)<(N:Int):=by omega
     have i3:(0:Int)≤(i:Int):=by omega
     obtain⟨t,ht⟩:∃t,z[i]? =some t:=⟨_,cA (by rw[al.o];exact cn)⟩;have a6:=ad (show fX x (t::z.drop (i+1))=P by rw[←am.o];congr 1;obtain⟨O,h2⟩:=cH.1 ht;rw[lG O,h2])
     have ci:=ad (bb.o.1 t (eQ ht));obtain⟨gt,aa,ac,rfl,D,bf,a⟩:=bd.o.get ht;have H:=B.o.up;have y0:wr.cell? ⟨gt,i*6,none⟩=_:=(H.cell (p:=⟨gt,i*6,none⟩) D).t (a 0 _ rfl);have y1:=(H.cell (p:=⟨gt,i*6+1,none⟩) D).t (a 1 _ rfl);have y2:=(H.cell (p:=⟨gt,i*6+2,none⟩) D).t (a 2 _ rfl);have y3:=(H.cell (p:=⟨gt,i*6+3,none⟩) D).t (a 3 _ rfl);have y4:=(H.cell (p:=⟨gt,i*6+4,none⟩) D).t (a 4 _ rfl);have y5:=(H.cell (p:=⟨gt,i*6+5,none⟩) D).t (a 5 _ rfl);have hA5:Below wr.heap.size wr (wr.alloc (.cells (ei t.kind t.name (.slice aa t.attrs.length ac) t.text t.src t.bJ).toArray 76)):=(ar _ _).alloc (ag _) _;have ai:=ad (B.o.next hA5);have ca:=ad (au wr (.cells (ei t.kind t.name (.slice aa t.attrs.length ac) t.text t.src t.bJ).toArray 76));obtain⟨f,bk,bl,bm⟩:=NB ai.o ap.o (by omega) ci.o (by have:=aU.o;omega) (ai.o.QM (bf.cO (ag _) fun b O _=>⟨by rw[T.o.1,←a9.o];exact O,rfl⟩));have a8:=ad bm;have co:=ad bl;clear ht H hA5 D bf a bm;go_upto_region 11 with fail;generalize wr.alloc (.cells (ei t.kind t.name (.slice aa t.attrs.length ac) t.text t.src t.bJ).toArray 76)=X at*;generalize wr.heap.size=nb at*;clear y0 y1 y2 y3 y4 y5;obtain⟨n0,n1,n2,n3,n4,n5⟩:=qX6 (aj ca.o) 0 1 2 3 4 5;have bo:(Instr.lookup 73 (.map (some mb)) (.int .i64 t.kind) false).run Tryz.prog X=.ok (Q6 f) X:=by obtain⟨es,c,O,h2⟩:=T.o.2.2;refine Nv ⟨es,c, ?_,h2⟩ _ _ uR _ _ bk;rw[←O,←T.o.2.1];exact ai.o.mp.2
     have ck:∀(v:aaL) (W:aaK),(Instr.field 79 (.agg #[v]) 0).run Tryz.prog W=.ok v W:=fun v W=>by kernel_rfl
     have cl:(Instr.lookup 73 (.map (some mb)) (.int .i64 t.kind) false).run Tryz.prog X=.ok (.agg #[.func (.func f) #[] #[]]) X:=bo;clear bo bk;go_wp2_with fail;refine a8.o.m ?_;rintro en w6⟨rfl,b1⟩;have a2:=ad b1;clear n0 n1 n2 n3 n4 n5 cl ck bl b1 a8;cases G:lM x t with
     |bad q c=>
      obtain⟨bi,ct,b6,b5,b7,u⟩:=(show Q7 lo d w6 pb (.bad q c) by rw[←G];exact a2.o);have V:=ad (J.o.1 q c (by rw[←a6.o,fX,G]));have l:(c !=0)=true:=by rw[bne,eS bi];rfl
      obtain⟨p0,p1,p2,-,-,-⟩:=u.box.c;have k:=(u.up.block _ (Nat.lt_of_succ_le e.o.2.2)).t e.o.2.1;have A:=ad (And.intro (e.o.1.t (u.up.m (Nat.le_of_succ_le e.o.2.2))) k);obtain⟨z0,z1,z2,z3,z4⟩:=qX5 (aj k) 0 1 2 3 4;have Y:=fun j=>aA (n:=j) k;have d1:¬pb=w.heap.size:=by have:=a1.o.1;have:=e.o.2.2;omega
      have d2:¬w.heap.size=pb:=by have:=a1.o.1;have:=e.o.2.2;omega
      clear G bi u k;go_wp2_with fail;go_region;all_goals
       clear z0 z1 z2 z3 z4 Y p0 p1 p2;go_wp2_with fail;refine BM V.o A.o.1 A.o.2 su ?_ ?_ ?_ ?_;all_goals rfl
     |aq y=>
      obtain⟨b6,b5,b7,u⟩:=(show Q7 lo d w6 pb (.aq y) by rw[←G];exact a2.o);have b8:=ad u;have cd:=ad (show fX y (z.drop (i+1))=P by rw[←a6.o,fX,G]);have ce:=ad (KL ap.o G);obtain⟨p0,p1,p2,-,-,-⟩:=u.box.c;clear G u;go_wp2_with fail
      go_roundw
      case rel=>exact⟨i+1,y,b6,b5,b7,by omega,by go_num,b8,cd,ce⟩
      case measure=>(simp[intOf]<;>omega)
    ·obtain rfl:i=N:=by omega
     have a4:=ad (show Px.aq x=P by rw[←am.o,qA (by rw[al.o];exact ag _)];rfl);have V:=ad (J.o.2 x a4.o.symm);obtain⟨g,cap,af,-,-,-,-,-⟩:=B.o.slice (by simp[re]);obtain⟨L,Z⟩:∃L,x.below.length=L:=⟨_,rfl⟩;rw[show(re x).length=L+1 by rw[re,bB,zN,Z];rfl] at af;have l1:L≤16:=by rw[←Z];exact ap.o.deep
     obtain⟨p0,p1,p2,-,-,-⟩:=B.o.box.c;rw[af] at p0;have k:=(B.o.up.block _ (Nat.lt_of_succ_le e.o.2.2)).t e.o.2.1;have A:=ad (And.intro (e.o.1.t (B.o.up.m (Nat.le_of_succ_le e.o.2.2))) k);obtain⟨z0,z1,z2,z3,z4⟩:=qX5 (aj k) 0 1 2 3 4;have Y:=fun j=>aA (n:=j) k;have cc:=ad af;have a0:=ad Z;clear af k Z am a4 J;by_cases be:0<L
     ·have i5:(1:Int)<(L:Int)+1:=by omega
      have an:=ad (V.o.2 (fun h=>by have:=a0.o;rw[h] at this;simp at this;omega));clear be;go_wp2_with fail;refine lO an.o A.o.1 A.o.2 su ?_ ?_ ?_ ?_;all_goals rfl
     ·obtain rfl:L=0:=by omega
      have ay:x.below=[]:=jn a0.o;have an:=ad (V.o.1 ay);obtain⟨g2,cs,pa,pc,kb,kd,b2,a,b0⟩:=PK.Wy (y:=x.top) (by have h:=B.o;rw[re,ay] at h;exact h);have hg:g=g2:=by have h:=cc.o;rw[b2] at h;injection h with l _ _;injection l with l;injection l with l;exact l.symm
      subst hg;have y0:=a 0 _ rfl;have y1:=a 1 _ rfl;have y2:=a 2 _ rfl;have y3:=a 3 _ rfl;have y4:=a 4 _ rfl;have cb:=ad b0;clear a b0 be b2 ay;go_wp2_with fail;refine lO an.o A.o.1 A.o.2 (eD (A':=fun b=>w.heap.size<b) (ag _) (fun b h _=>⟨by rw[T.o.1] at h;exact h,rfl⟩) _ _ cb.o) ?_ ?_ ?_ ?_;all_goals rfl
variable{n:Bool}{b:Bs}{j:Int}
theorem U0:∀(j:Nat) (b:UInt8),(⟨#[48,49,50,51,52,53,54,55,56,57]⟩:aaM).data.toList[j]? =some b→b.toNat<128:=by
 intro j b h;have a:=eQ h;have:∀x∈(Ct:Bs),x.toNat<128:=by decide
 exact this b a
abbrev Wg:TV→aaL
 |.none=>.nilIface
 |.sr s=>.iface 242 (.string ⟨s.toArray⟩)
 |.yes b=>.iface 243 (.bool b)
def Bj(w:aaK)(v:aaL):Ending→aaK→Prop:=fun e w'=>e=.returned v∧w'=w
theorem P9(d:Bs)(p:UInt8→Bool)(j:(fun c=>d.contains c)=p)(l:Bs):(Lib.trimS l d==[])=l.all p:=by
 rw[gf,bZ];have e:Lib.trimS l d=List.dropWhile p (List.dropWhile p l.reverse).reverse:=by rw[←j];rfl
 rw[e,bI,List.all_reverse];constructor
 ·intro h;have a:l.reverse.dropWhile p=[]:=by
   cases i:l.reverse.dropWhile p with
   |nil=>rfl
   |cons c r=>rw[i,kf,cW] at h;have b:=List.head?_dropWhile_not p l.reverse;rw[i] at b;simp only[List.head?_cons] at b;rw[h.1] at b;cases b
  rw[bI,List.all_reverse] at a;exact a
 ·intro h;have a:l.reverse.dropWhile p=[]:=by rw[bI,List.all_reverse];exact h
  rw[a];rfl
theorem Qa(s:aaM)(n:Nat)(w:aaK):(method (n+1) 242 (.string s) "inlay/truth.holds").run Tryz.prog w=.ok (288,.string s) w:=by kernel_rfl
theorem U1(b:Bool)(n:Nat)(w:aaK):(method (n+1) 243 (.bool b) "inlay/truth.holds").run Tryz.prog w=.ok (289,.bool b) w:=by kernel_rfl
theorem Mc(s:Bs)(w:aaK):Calls Tryz.prog 288 #[.string ⟨s.toArray⟩] w (Bj w (.bool (oz (.sr s)))):=by
 rcases dT (s=[]) with rfl|a
 ·go_enter Tryz.func288,Tryz.ntmps288;go_wp2_with fail;go_ret;exact⟨rfl,rfl⟩
 ·have b:(s==[])=false:=aL.2 a;rcases dT (s=CA) with rfl|c
  ·clear a b;go_enter Tryz.func288,Tryz.ntmps288;go_wp2_with fail;go_ret;exact⟨rfl,rfl⟩
  ·have e:(s==[102,97,108,115,101])=false:=aL.2 c;have d:=ad (show oz (.sr s)=true by have h:(s==CA)=false:=e;show((!(s==[]))&&(!(s==CA)))=true;rw[b,h];rfl)
   clear a c;go_enter Tryz.func288,Tryz.ntmps288;go_wp2_with fail;go_ret;exact⟨(by rw[d.o];try rfl),rfl⟩
theorem Md(b:Bool)(w:aaK):Calls Tryz.prog 289 #[.bool b] w (Bj w (.bool b)):=by go_enter Tryz.func289,Tryz.ntmps289;go_wp2_with fail;go_ret;exact⟨rfl,rfl⟩
theorem Bk(x:TV)(w:aaK):Calls Tryz.prog 144 #[Wg x] w (Bj w (.bool (oz x))):=by
 cases x with
 |none=>go_enter Tryz.func144,Tryz.ntmps144;go_wp2_with fail;go_ret;exact⟨rfl,rfl⟩
 |sr s=>have a:=Qa ⟨s.toArray⟩;go_enter Tryz.func144,Tryz.ntmps144;go_wp2_with fail;refine(Mc s w).m ?_;rintro e c⟨rfl,rfl⟩;go_wp2_with fail;go_ret;exact⟨rfl,rfl⟩
 |yes b=>have a:=U1 b;go_enter Tryz.func144,Tryz.ntmps144;go_wp2_with fail;refine(Md b w).m ?_;rintro e c⟨rfl,rfl⟩;go_wp2_with fail;go_ret;exact⟨rfl,rfl⟩
theorem mg(k:Int)(w:aaK):Calls Tryz.prog 177 #[.int .i64 k] w (cN w (.int .i64 (fG k))):=by
 rcases dT (k=10) with rfl|b
 ·go_enter Tryz.func177,Tryz.ntmps177;go_wp2_with fail;go_ret;exact⟨rfl,ar _ _⟩
 rcases dT (k=11) with rfl|c
 ·go_enter Tryz.func177,Tryz.ntmps177;go_wp2_with fail;go_ret;exact⟨rfl,ar _ _⟩
 rcases dT (k=12) with rfl|d
 ·go_enter Tryz.func177,Tryz.ntmps177;go_wp2_with fail;go_ret;exact⟨rfl,ar _ _⟩
 rcases dT (k=3) with rfl|i
 ·go_enter Tryz.func177,Tryz.ntmps177;go_wp2_with fail;go_ret;exact⟨rfl,ar _ _⟩
 rcases dT (k=1) with rfl|a
 ·go_enter Tryz.func177,Tryz.ntmps177;go_wp2_with fail;go_ret;exact⟨rfl,ar _ _⟩
 rcases dT (k=2) with rfl|e
 ·go_enter Tryz.func177,Tryz.ntmps177;go_wp2_with fail;go_ret;exact⟨rfl,ar _ _⟩
 rcases dT (k=4) with rfl|j
 ·go_enter Tryz.func177,Tryz.ntmps177;go_wp2_with fail;go_ret;exact⟨rfl,ar _ _⟩
 rcases dT (k=5) with rfl|l
 ·go_enter Tryz.func177,Tryz.ntmps177;go_wp2_with fail;go_ret;exact⟨rfl,ar _ _⟩
 rcases dT (k=6) with rfl|m
 ·go_enter Tryz.func177,Tryz.ntmps177;go_wp2_with fail;go_ret;exact⟨rfl,ar _ _⟩
 rcases dT (k=7) with rfl|n
 ·go_enter Tryz.func177,Tryz.ntmps177;go_wp2_with fail;go_ret;exact⟨rfl,ar _ _⟩
 rcases dT (k=8) with rfl|p
 ·go_enter Tryz.func177,Tryz.ntmps177;go_wp2_with fail;go_ret;exact⟨rfl,ar _ _⟩
 rcases dT (k=9) with rfl|q
 ·go_enter Tryz.func177,Tryz.ntmps177;go_wp2_with fail;go_ret;exact⟨rfl,ar _ _⟩
 have r:=ad (show fG k=-1 by rcases nV k with h|h|h|h<;>omega);have t:(k==10)=false:=aL.2 b;have u:(k==11)=false:=aL.2 c;have x:(k==12)=false:=aL.2 d;have z:(k==3)=false:=aL.2 i;have s:(k==1)=false:=aL.2 a;have y:(k==2)=false:=aL.2 e;have A:(k==4)=false:=aL.2 j;have B:(k==5)=false:=aL.2 l;have C:(k==6)=false:=aL.2 m;have D:(k==7)=false:=aL.2 n;have E:(k==8)=false:=aL.2 p;have F:(k==9)=false:=aL.2 q;clear b c d i a e j l m n p q;go_enter Tryz.func177,Tryz.ntmps177;go_wp2_with fail;go_ret;exact⟨(by rw[r.o];try rfl),ar _ _⟩
theorem Qb(k o:Int)(w:aaK):Calls Tryz.prog 221 #[.int .i64 k,.int .i64 o] w (Bj w (.bool (mA k o))):=by
 rcases dT (k=4) with rfl|a
 ·go_enter Tryz.func221,Tryz.ntmps221;go_wp2_with fail;all_goals
   go_ret;exact⟨cq (by simp[mA]),rfl⟩
 rcases dT (k=5) with rfl|b
 ·go_enter Tryz.func221,Tryz.ntmps221;go_wp2_with fail;all_goals
   go_ret;exact⟨cq (by simp[mA]),rfl⟩
 rcases dT (k=6) with rfl|c
 ·go_enter Tryz.func221,Tryz.ntmps221;go_wp2_with fail;all_goals
   go_ret;exact⟨cq (by simp[mA]),rfl⟩
 rcases dT (k=7) with rfl|d
 ·go_enter Tryz.func221,Tryz.ntmps221;go_wp2_with fail;all_goals
   go_ret;exact⟨cq (by simp[mA]),rfl⟩
 rcases dT (k=8) with rfl|e
 ·go_enter Tryz.func221,Tryz.ntmps221;go_wp2_with fail;all_goals
   go_ret;exact⟨cq (by simp[mA]),rfl⟩
 have h:=ad (show mA k o=decide (0≤o) by unfold mA;rw[ae a,ae b,ae c,ae d,ae e]);have i:(k==4)=false:=aL.2 a;have j:(k==5)=false:=aL.2 b;have l:(k==6)=false:=aL.2 c;have m:(k==7)=false:=aL.2 d;have n:(k==8)=false:=aL.2 e;clear a b c d e;go_enter Tryz.func221,Tryz.ntmps221;go_wp2_with fail;all_goals
  go_ret;exact⟨(by rw[h.o];try rfl),rfl⟩
theorem Qc(s:Bs)(w:aaK):Calls Tryz.prog 265 #[.string ⟨s.toArray⟩] w (Bj w (.bool false)):=by go_enter Tryz.func265,Tryz.ntmps265;go_wp2_with fail;go_ret;exact⟨rfl,rfl⟩
theorem Ke(a b:Bs)(w:aaK):Calls Tryz.prog 254 #[.string ⟨a.toArray⟩,.string ⟨b.toArray⟩] w (Bj w (.int .i64 (CB a b))):=by
 have d:=ad (show CB a b=if Op.bytesLess a b=true then-1 else if a=b then 0 else 1 from rfl);obtain⟨q,hq⟩:∃q,Op.bytesLess a b=q:=⟨_,rfl⟩;rw[hq] at d;go_enter Tryz.func254,Tryz.ntmps254;go_wp2_with fail;refine(Qc a w).m ?_;rintro e i⟨rfl,rfl⟩;go_wp2_with fail;refine(Qc b i).m ?_;rintro e k⟨rfl,rfl⟩;cases q
 ·rcases dT (a=b) with rfl|h
  ·have c:=ad (show CB a a=0 by rw[d.o];simp);go_wp2_with fail;go_ret;exact⟨(by rw[c.o];try rfl),rfl⟩
  ·have j:(a==b)=false:=aL.2 h;have c:=ad (show CB a b=1 by rw[d.o,ae h];rfl);clear h;go_wp2_with fail;go_ret;exact⟨(by rw[c.o];try rfl),rfl⟩
 ·have c:=ad (show CB a b=-1 by rw[d.o];rfl);go_wp2_with fail;go_ret;exact⟨(by rw[c.o];try rfl),rfl⟩
theorem CC(h:(if ez b=true then(tg b:Int) else 0)=j∧ez b=n)(a:ez b=true):(tg b:Int)=j∧true=n:=by rw[ah a,a] at h;exact h
theorem IP(h:(if ez b=true then(tg b:Int) else 0)=j∧ez b=n)(a:ez b=false):(0:Int)=j∧false=n:=by rw[ae (by rw[a];decide),a] at h;exact h
theorem Bl(s:Bs)(F:s.length≤200000000)(w:aaK):Calls Tryz.prog 252 #[.string ⟨s.toArray⟩] w (cN w (.tuple #[.int .i64 (if ez s=true then(tg s:Int) else 0),.bool (ez s)])):=by
 obtain⟨N,i⟩:∃N:Int,(if ez s=true then(tg s:Int) else 0)=N:=⟨_,rfl⟩;obtain⟨q,hq⟩:∃q,ez s=q:=⟨_,rfl⟩;rw[i,hq];have b:=ad (And.intro i hq);clear i hq;rcases dT (s=[]) with rfl|h
 ·obtain⟨rfl,rfl⟩:=IP b.o (show ez []=false from rfl);go_enter Tryz.func252,Tryz.ntmps252;go_wp2_with fail;go_ret2;exact⟨rfl,ar _ _⟩
 ·have C:(s==[])=false:=aL.2 h;have B:=ad (show s.isEmpty=false by cases s;exact absurd rfl h;rfl);clear h;by_cases c:s.length≤18
  ·have p:¬(18:Int)<(s.length:Int):=by omega
   have k:=ad c;have n:=ad (XM ⟨s.toArray⟩ ⟨#[48,49,50,51,52,53,54,55,56,57]⟩ w (by show s.toArray.size≤_;rw[oC];omega) (by decide) U0);obtain⟨r,j⟩:∃r,Lib.trimS (⟨s.toArray⟩:aaM).data.toList (⟨#[48,49,50,51,52,53,54,55,56,57]⟩:aaM).data.toList=r:=⟨_,rfl⟩;have l:=ad (show(r==[])=s.all kH by rw[←j];exact P9 Ct kH Bd s);rw[j] at n;clear j c;go_enter Tryz.func252,Tryz.ntmps252;go_wp2_with fail;refine n.o.m ?_;rintro e y⟨rfl,u⟩;have d:=ad u;clear u;rcases dT (r=[]) with rfl|x
   ·have a:=ad (show ez s=true by unfold ez;rw[B.o,bN k.o,←l.o];rfl);obtain⟨rfl,rfl⟩:=CC b.o a.o;have z:=ad (Tryz.strconv_Atoi ⟨s.toArray⟩ (tg s:Int) (by show s.toArray.size≤_;rw[oC];exact k.o) (P8 a.o) y);go_upto_region 3 with fail;clear C p;go_wp2_with fail;refine z.o.m ?_;rintro e G⟨rfl,E,rfl⟩;have A:=ad (d.o.t ((Lib.bytesWorld_below y 5 E).m d.o.size));go_wp2_with fail;go_ret2;exact⟨rfl,A.o⟩
   ·have D:(r==[])=false:=aL.2 x;have a:=ad (show ez s=false by unfold ez;rw[←l.o,D,CU]);obtain⟨rfl,rfl⟩:=IP b.o a.o;clear x;go_wp2_with fail;go_ret2;exact⟨rfl,d.o⟩
  ·have p:(18:Int)<(s.length:Int):=by omega
   have a:=ad (show ez s=false by unfold ez;rw[cL c,CU,Bool.false_and]);obtain⟨rfl,rfl⟩:=IP b.o a.o;clear c;go_enter Tryz.func252,Tryz.ntmps252;go_wp2_with fail;go_ret2;exact⟨rfl,ar _ _⟩
theorem Qd(a b:Bs)(y:a.length≤200000000)(z:b.length≤200000000)(w:aaK):Calls Tryz.prog 222 #[.string ⟨a.toArray⟩,.string ⟨b.toArray⟩] w (cN w (.int .i64 (Fu a b))):=by
 have p:=ad (Bl a y);have s:=ad (Bl b z);have d:=ad (show Fu a b=if ez a=true∧ez b=true then Lib.compareInt (tg a) (tg b) else CB a b from rfl);obtain⟨N,k⟩:∃N:Int,(if ez a=true then(tg a:Int) else 0)=N:=⟨_,rfl⟩;obtain⟨M,j⟩:∃M:Int,(if ez b=true then(tg b:Int) else 0)=M:=⟨_,rfl⟩;obtain⟨q,hq⟩:∃q,ez a=q:=⟨_,rfl⟩;obtain⟨l,h⟩:∃l,ez b=l:=⟨_,rfl⟩;rw[k,hq] at p;rw[j,h] at s;rw[hq,h] at d;have x:=ad (And.intro k hq);have u:=ad (And.intro j h);clear hq h y z k j;go_enter Tryz.func222,Tryz.ntmps222;go_wp2_with fail;refine(p.o w).m ?_;rintro e D⟨rfl,A⟩;have r:=ad A;clear A;go_upto_region 2 with fail;go_wp2_with fail;refine(s.o D).m ?_;rintro e n⟨rfl,B⟩;have i:=ad (r.o.t (B.m r.o.size));clear B;cases q
 ·have c:=ad (show Fu a b=CB a b by rw[d.o];simp);go_upto_region 5 with fail;go_wp2_with fail;refine(Ke a b n).m ?_;rintro e C⟨rfl,rfl⟩;go_wp2_with fail;go_ret;exact⟨(by rw[c.o];try rfl),i.o⟩
 ·cases l
  ·have c:=ad (show Fu a b=CB a b by rw[d.o];simp);go_upto_region 5 with fail;go_wp2_with fail;refine(Ke a b n).m ?_;rintro e C⟨rfl,rfl⟩;go_wp2_with fail;go_ret;exact⟨(by rw[c.o];try rfl),i.o⟩
  ·have c:=ad (show Fu a b=Lib.compareInt N M by rw[d.o,←(CC x.o x.o.2).1,←(CC u.o u.o.2).1];simp);go_upto_region 4 with fail;go_wp2_with fail;refine(Tryz.cmp_Compare_int N M n).m ?_;rintro e C⟨rfl,rfl⟩;go_wp2_with fail;go_ret;exact⟨(by rw[c.o];try rfl),i.o⟩
def nW:TV→Prop
 |.sr s=>s.length≤200000000
 |_=>True
theorem V0(s:Bs)(w:aaK):(Instr.typeAssert (.iface 242 (.string ⟨s.toArray⟩)) 207 242 true).run Tryz.prog w=.ok (.tuple #[.string ⟨s.toArray⟩,.bool true]) w:=by kernel_rfl
theorem V1(s:Bs)(w:aaK):(Instr.typeAssert (.iface 242 (.string ⟨s.toArray⟩)) 207 243 true).run Tryz.prog w=.ok (.tuple #[.bool false,.bool false]) w:=by kernel_rfl
theorem V2(b:Bool)(w:aaK):(Instr.typeAssert (.iface 243 (.bool b)) 207 242 true).run Tryz.prog w=.ok (.tuple #[.string ⟨#[]⟩,.bool false]) w:=by kernel_rfl
theorem V3(b:Bool)(w:aaK):(Instr.typeAssert (.iface 243 (.bool b)) 207 243 true).run Tryz.prog w=.ok (.tuple #[.bool b,.bool true]) w:=by kernel_rfl
theorem V4(w:aaK):(Instr.typeAssert .nilIface 207 242 true).run Tryz.prog w=.ok (.tuple #[.string ⟨#[]⟩,.bool false]) w:=by kernel_rfl
theorem V5(w:aaK):(Instr.typeAssert .nilIface 207 243 true).run Tryz.prog w=.ok (.tuple #[.bool false,.bool false]) w:=by kernel_rfl
theorem Fw(k:Int)(x y:TV)(n:nW x)(p:nW y)(w:aaK):Calls Tryz.prog 178 #[.int .i64 k,Wg x,Wg y] w (cN w (.bool (fQ k x y))):=by
 have B:=V0;have C:=V1;have D:=V2;have E:=V3;have z:=V4;have A:=V5;cases x with
 |none=>go_enter Tryz.func178,Tryz.ntmps178;go_wp2_with fail;go_ret;exact⟨rfl,ar _ _⟩
 |sr a=>
  cases y with
  |none=>go_enter Tryz.func178,Tryz.ntmps178;go_wp2_with fail;go_ret;exact⟨rfl,ar _ _⟩
  |sr b=>have i:=ad (Qd a b n p w);have c:=ad (show fQ k (.sr a) (.sr b)=mA k (Fu a b) from rfl);clear n p;obtain⟨o,l⟩:∃o,Fu a b=o:=⟨_,rfl⟩;rw[l] at i c;clear l;go_enter Tryz.func178,Tryz.ntmps178;go_wp2_with fail;refine i.o.m ?_;rintro e s⟨rfl,j⟩;have q:=ad j;clear j;go_wp2_with fail;refine(Qb k o s).m ?_;rintro e F⟨rfl,rfl⟩;go_wp2_with fail;go_ret;exact⟨(by rw[c.o];try rfl),q.o⟩
  |yes b=>go_enter Tryz.func178,Tryz.ntmps178;go_wp2_with fail;go_ret;exact⟨rfl,ar _ _⟩
 |yes a=>
  cases y with
  |none=>go_enter Tryz.func178,Tryz.ntmps178;go_wp2_with fail;go_ret;exact⟨rfl,ar _ _⟩
  |sr b=>go_enter Tryz.func178,Tryz.ntmps178;go_wp2_with fail;go_ret;exact⟨rfl,ar _ _⟩
  |yes b=>
   have c:=ad (show fQ k (.yes a) (.yes b)=((decide (k=4)&&(a==b))||(decide (k=5)&&(a !=b))) from rfl);rcases dT (k=4) with rfl|d
   ·cases a<;>cases b;all_goals
     go_enter Tryz.func178,Tryz.ntmps178;go_wp2_with fail;go_ret;exact⟨by rw[c.o];rfl,ar _ _⟩
   ·rcases dT (k=5) with rfl|h
    ·cases a<;>cases b;all_goals
      go_enter Tryz.func178,Tryz.ntmps178;go_wp2_with fail;go_ret;exact⟨by rw[c.o];rfl,ar _ _⟩
    ·have t:(k==4)=false:=aL.2 d;have u:(k==5)=false:=aL.2 h;have r:=ad (show fQ k (.yes a) (.yes b)=false by rw[c.o,cL d,cL h];rfl);clear d h;go_enter Tryz.func178,Tryz.ntmps178;go_wp2_with fail;go_ret;exact⟨(by rw[r.o];try rfl),ar _ _⟩
