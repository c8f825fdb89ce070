/- The walks of truth's small functions: so, kids, number, order, holds, compares. -/
import Derived.Test.YtogchgjfialleaaGreatDoorKau
import Derived.Test.YtogchgjfialleaaGreatDoorKaw
set_option linter.unusedVariables false
set_option maxRecDepth 100000
set_option maxHeartbeats 4000000
namespace Go.Proofs.YtogchgjfialleaaGreatDoor
open Go.RowKit
theorem Ra{W:World}{base:Nat}{T:TypeId}{size n:Nat}{xs:List Value}(a:xs.length=n*size)(c:n≤maxLen)(b:base≤W.heap.size):(W.alloc (.cells xs.toArray T)).ownsRow base T size (.slice (some ⟨W.heap.size,0,none⟩) n n) n xs:=
 ⟨a,.inr ⟨W.heap.size,n,xs.toArray,rfl,b,au W _,ag _,c,by simp[a],by rw[←a];simp⟩⟩
theorem qy.get{A:Nat→Prop}{W:World}:∀{l:List Tok} {xs:List Value} {i:Nat} {t:Tok},qy A W l xs→l[i]? =some t→∃a c,aP A W t.attrs (.slice a t.attrs.length c)∧∀(j:Nat) (v:Value),(ei t.kind t.name (.slice a t.attrs.length c) t.text t.src t.bJ)[j]? =some v→xs[i*6+j]? =some v
 |[],_,_,_,_,h=>by simp at h
 |u::r,xs,0,t,⟨a,c,rest,d,e,k⟩,h=>by simp at h;subst h;refine⟨a,c,e,fun j v b=> ?_⟩;rw[d,Nat.zero_mul,dH,qC (cH.1 b).1];exact b
 |u::r,xs,i+1,t,⟨a1,o,rest,d,e,k⟩,h=>by obtain⟨a,c,m,n⟩:=qy.get (i:=i) k (by simpa using h);refine⟨a,c,m,fun j v b=> ?_⟩;rw[d,jL (by show 6≤_;omega),←n j v b];congr 1;show(i+1)*6+j-6=_;omega
theorem mu.shape{A:Nat→Prop}{W:World}{b:List Tok}{d:Value}(h:mu A W b d):∃a c,d=.slice a b.length c:=by
 obtain⟨xs,-,h⟩:=h;rcases h with⟨rfl,rfl⟩|⟨g,c,rfl,_⟩
 ·exact⟨none,0,rfl⟩
 ·exact⟨_,c,rfl⟩
theorem mu.get{A:Nat→Prop}{W:World}{d:List Tok}{ta:Option Addr}{r tc i:Nat}{t:Tok}(h:mu A W d (.slice ta r tc))(b:d[i]? =some t):
 ∃g a c,ta=some ⟨g,0,none⟩∧g<W.heap.size∧aP A W t.attrs (.slice a t.attrs.length c)∧∀(j:Nat) (v:Value),(ei t.kind t.name (.slice a t.attrs.length c) t.text t.src t.bJ)[j]? =some v→W.cell? ⟨g,i*6+j,none⟩=some v:=by
 obtain⟨xs,p,h⟩:=h;rcases h with⟨rfl,_⟩|⟨g,s,k,x,y,l,m⟩
 ·simp at b
 ·injection k with e u w;obtain⟨a,c,n,o⟩:=p.get b;refine⟨g,a,c,e,l,n,fun j v q=> ?_⟩;have:=m _ _ (o j v q);rw[dH] at this;exact this
theorem uS{fn:Func}{W:World}{tmps:Array Value}{b e c d:Nat}{v0 v1 v2 i j x y:Value}(h:fn.results=#[.cell e 45,.tmp c,.tmp d])(k:tmps.getD e undef=.pointer (some ⟨b,0,none⟩))(m:tmps.getD c undef=x)(o:tmps.getD d undef=y)(a:W.heap[b]? =some (.cells #[v0,v1,v2,i,j] 45)):
 (results fn tmps).run Tryz.prog W=.ok (.tuple #[.agg #[v0,v1,v2,i,j],x,y]) W:=by
 have q:=aj 0 a;have r:=aj 1 a;have s:=aj 2 a;have t:=aj 3 a;have u:=aj 4 a;have l:tmps[e]?.getD undef=.pointer (some ⟨b,0,none⟩):=by rw[←k];simp
 have n:tmps[c]?.getD undef=x:=by rw[←m];simp
 have p:tmps[d]?.getD undef=y:=by rw[←o];simp
 simp[results,h,go_sem,l,n,p,q,r,s,t,u]
section
variable{lo:KB}{w0 W W':World}{pb:Nat}{ov:Value}{st:List Nd}{kvs ys:List Value}{place e:Int}
theorem NC{A:Nat→Prop}{base:Nat}:∀{l:List Nd} {kvs ys:List Value},gy A W base l kvs ys→∀v∈kvs,∀b,v.ownBlock=some b→base≤b
 |[],_,_,⟨k,_⟩,v,d,_,_=>by subst k;cases d
 |x::r,_,_,⟨a,c,kv,p,rest,xs,i,m,n,j,o,h⟩,v,d,b,e=>by
  subst i;rcases bL.1 d with rfl|d
  ·exact(j.lt b e).1
  ·exact NC h v d b e
theorem PK.Xk(H:PK lo w0 W pb ov st kvs ys place e):∀b∈pb::bM (ov::kvs),w0.heap.size≤b:=fun b a=>by
 rcases bL.1 a with rfl|a
 ·exact H.far
 ·obtain⟨v,c,d⟩:=cQ.1 a;rcases bL.1 c with rfl|c
  ·exact(H.own.lt b d).1
  ·exact NC H.Ge v c b d
theorem PK.QM(H:PK lo w0 W pb ov st kvs ys place e){l:List bQ}{v:Value}(h:aP (fun b=>lo.lo≤b) w0 l v):aP (PL lo (pb::bM (ov::kvs))) W l v:=
 h.cO H.up.size fun b a c=>⟨⟨a,fun d=>by have:=H.Xk b d;omega⟩,H.up.block b c⟩
theorem ND{a b:World}{n:Nat}(o:n≤a.heap.size)(d:Below (a.heap.size+2) ((a.alloc (.cells (eH 1 0 [] (.slice none 0 0) (.slice none 0 0)).toArray 45)).alloc (.cells #[.slice (some ⟨a.heap.size,0,none⟩) 1 1,.int .i64 0,.int .i64 0] 74)) b)(p:BK b (a.heap.size+2) Nw):
 ∃lo:KB,lo.lo=n∧lo.mb=a.heap.size+2∧(∃es c,lo.ob=.map es c∧es.toList.map (fun e=>(e.key,e.val))=TX Nw)∧PK lo a b (a.heap.size+1) (.slice (some ⟨a.heap.size,0,none⟩) 1 1) [lN] [.slice none 0 0] (eH 1 0 [] (.slice none 0 0) (.slice none 0 0)) 0 0:=by
 obtain⟨es,c,i,j⟩:=p;have r:((a.alloc (.cells (eH 1 0 [] (.slice none 0 0) (.slice none 0 0)).toArray 45)).alloc (.cells #[.slice (some ⟨a.heap.size,0,none⟩) 1 1,.int .i64 0,.int .i64 0] 74)).heap.size=a.heap.size+2:=by rw[aO,aO]
 have k:Below a.heap.size a ((a.alloc (.cells (eH 1 0 [] (.slice none 0 0) (.slice none 0 0)).toArray 45)).alloc (.cells #[.slice (some ⟨a.heap.size,0,none⟩) 1 1,.int .i64 0,.int .i64 0] 74)):=
  ((ar _ _).alloc (ag _) _).alloc (by rw[aO];omega) _
 have q:=(Ra (W:=a) (base:=a.heap.size) (T:=45) (size:=5) (n:=1) (xs:=eH 1 0 [] (.slice none 0 0) (.slice none 0 0)) rfl (by decide) (ag _)).alloc (.cells #[.slice (some ⟨a.heap.size,0,none⟩) 1 1,.int .i64 0,.int .i64 0] 74);have m:((a.alloc (.cells (eH 1 0 [] (.slice none 0 0) (.slice none 0 0)).toArray 45)).alloc (.cells #[.slice (some ⟨a.heap.size,0,none⟩) 1 1,.int .i64 0,.int .i64 0] 74)).heap[a.heap.size+1]? =_:=iT a _ _;generalize(a.alloc (.cells (eH 1 0 [] (.slice none 0 0) (.slice none 0 0)).toArray 45)).alloc (.cells #[.slice (some ⟨a.heap.size,0,none⟩) 1 1,.int .i64 0,.int .i64 0] 74)=h at*;have l:Below h.heap.size h b:=by rw[r];exact d
 refine⟨⟨n,a.heap.size+2,.map es c⟩,rfl,rfl,⟨es,c,rfl,j⟩,k.trans (d.mono (by omega)),(d.block _ (by omega)).trans m,cp q l, ?_, ?_,by omega,o,⟨?_, ?_⟩,i⟩
 ·exact⟨none,0,.slice none 0 0,[],[],[],rfl,rfl,.inl ⟨rfl,none,0,rfl⟩,jO _ _ _ _,rfl,rfl,rfl⟩
 ·show([a.heap.size+1,a.heap.size]:List Nat).Nodup;simp
 ·show n≤a.heap.size+2;omega
 ·show a.heap.size+2∉([a.heap.size+1,a.heap.size]:List Nat);simp
theorem PK.Wy{y:Nd}(H:PK lo w0 W pb ov [y] kvs ys place e):∃g cap a c i k,ov=.slice (some ⟨g,0,none⟩) 1 cap∧(∀(j:Nat) (v:Value),(eH y.kind y.place y.text (.slice a y.attrs.length c) (.slice i y.kids.length k))[j]? =some v→W.cell? ⟨g,j,none⟩=some v)∧
 fu (fun b=>lo.lo≤b) W y (wZ y.kind y.place y.text (.slice a y.attrs.length c) (.slice i y.kids.length k)):=by
 obtain⟨g,cap,a,c,kv,xs,E,G,t,A,B,n,F,D,C⟩:=PK.oM (l:=[]) H;obtain⟨i,k,rfl,-⟩:=mK F.own;obtain⟨o,p,q,r,s,u,m,w⟩:=F;refine⟨g,cap,a,c,i,k,t,fun j v d=> ?_, ?_⟩
 ·match j,d with
  |0,d=>cases d;simpa using o
  |1,d=>cases d;simpa using p
  |2,d=>cases d;simpa using q
  |3,d=>cases d;simpa using r
  |4,d=>cases d;simpa using s
 ·rw[Nd.eta y];exact mJ.2 ⟨_,_,rfl,u.cO (ag _) (fun b h _=>⟨h.1,rfl⟩),Ab m (w.map fun x v h=>eD (ag _) (fun b h _=>⟨h.1,rfl⟩) x v h) (fun z n=>bP H.Tn (m.lt z n).1)⟩
end
def xm(w:World)(r:Nd×Nat×Int):Ending→World→Prop:=fun e w'=>Below w.heap.size w w'∧∃v,e=.returned (.tuple #[v,.int .i64 r.2.1,.int .i64 r.2.2])∧fu (fun b=>w.heap.size≤b) w' r.1 v
theorem su{A:Nat→Prop}{W:World}:fu A W ny (wZ 0 0 [] (.slice none 0 0) (.slice none 0 0)):=mJ.2 ⟨_,_,rfl,.inl ⟨rfl,none,0,rfl⟩,.inl ⟨rfl,none,0,rfl⟩⟩
theorem Dy{W:World}{b:Nat}{T:TypeId}{v0 v1 v2 a c:Value}(u0 u1 u2 u3 u4:Value)(h:W.heap[b]? =some (.cells #[v0,v1,v2,a,c] T)):
 (((((W.setCell ⟨b,0,none⟩ u0).setCell ⟨b,1,none⟩ u1).setCell ⟨b,2,none⟩ u2).setCell ⟨b,3,none⟩ u3).setCell ⟨b,4,none⟩ u4).heap[b]? =some (.cells #[u0,u1,u2,u3,u4] T):=
 aw (j:=4) (aw (j:=3) (aw (j:=2) (aw (j:=1) (aw (j:=0) h))))
theorem lO{w W:World}{act:Act}{v0 v1 v2 u x u0 u1 u2 u3 u4:Value}{R:Nd×Nat×Int}{n:Nd}{p:Nat}{e:Int}(j:(n,p,e)=R)(c:Below w.heap.size w W)(k:W.heap[w.heap.size]? =some (.cells #[v0,v1,v2,u,x] 45))
 (o:fu (fun b=>w.heap.size<b) W n (.agg #[u0,u1,u2,u3,u4]))(r:act.tmps.getD 2 undef=.pointer (some ⟨w.heap.size,0,none⟩))(s:act.tmps.getD 3 undef=.int .i64 (p:Int))(t:act.tmps.getD 4 undef=.int .i64 e)(m:act.defers=[]):
 bodyPost Tryz.prog Tryz.f15 (xm w R) Exit.ret act (((((W.setCell ⟨w.heap.size,0,none⟩ u0).setCell ⟨w.heap.size,1,none⟩ u1).setCell ⟨w.heap.size,2,none⟩ u2).setCell ⟨w.heap.size,3,none⟩ u3).setCell ⟨w.heap.size,4,none⟩ u4):=by
 subst j;have i:=Dy u0 u1 u2 u3 u4 k;have a:ak w.heap.size W (((((W.setCell ⟨w.heap.size,0,none⟩ u0).setCell ⟨w.heap.size,1,none⟩ u1).setCell ⟨w.heap.size,2,none⟩ u2).setCell ⟨w.heap.size,3,none⟩ u3).setCell ⟨w.heap.size,4,none⟩ u4):=(((((ak.refl _ W).set).set).set).set).set;generalize((((W.setCell ⟨w.heap.size,0,none⟩ u0).setCell ⟨w.heap.size,1,none⟩ u1).setCell ⟨w.heap.size,2,none⟩ u2).setCell ⟨w.heap.size,3,none⟩ u3).setCell ⟨w.heap.size,4,none⟩ u4=W' at*;have q:=c.size;have l:=c.trans (a.below (ag _) q);refine aD (uS rfl r s t i) m ⟨l,_,rfl, ?_⟩;exact eD (A':=fun b=>w.heap.size≤b) a.size (fun b d h=>⟨om d,a.block b h (by intro e;injection e with e;omega)⟩) _ _ o
theorem BM{w W:World}{act:Act}{v0 v1 v2 u x u0 u1 u2 u3 u4:Value}{R:Nd×Nat×Int}{n:Nd}{p:Nat}{e:Int}(k:(n,p,e)=R)(c:Below w.heap.size w W)(l:W.heap[w.heap.size]? =some (.cells #[v0,v1,v2,u,x] 45))
 (o:fu (fun b=>w.heap.size<b) W n (.agg #[u0,u1,u2,u3,u4]))(r:act.tmps.getD 2 undef=.pointer (some ⟨w.heap.size,0,none⟩))(s:act.tmps.getD 3 undef=.int .i64 (p:Int))(t:act.tmps.getD 4 undef=.int .i64 e)(m:act.defers=[]):
 bodyPost Tryz.prog Tryz.f15 (xm w R) Exit.ret act (((((W.setCell ⟨w.heap.size,0,none⟩ u0).setCell ⟨w.heap.size,1,none⟩ u1).setCell ⟨w.heap.size,2,none⟩ u2).setCell ⟨w.heap.size,3,none⟩ u3).setCell ⟨w.heap.size,4,none⟩ u4).drew:=by
 subst k;have j:=Dy u0 u1 u2 u3 u4 l;have a:ak w.heap.size W (((((W.setCell ⟨w.heap.size,0,none⟩ u0).setCell ⟨w.heap.size,1,none⟩ u1).setCell ⟨w.heap.size,2,none⟩ u2).setCell ⟨w.heap.size,3,none⟩ u3).setCell ⟨w.heap.size,4,none⟩ u4):=(((((ak.refl _ W).set).set).set).set).set;generalize((((W.setCell ⟨w.heap.size,0,none⟩ u0).setCell ⟨w.heap.size,1,none⟩ u1).setCell ⟨w.heap.size,2,none⟩ u2).setCell ⟨w.heap.size,3,none⟩ u3).setCell ⟨w.heap.size,4,none⟩ u4=W' at*;have q:=c.size;have d:=c.trans (a.below (ag _) q);refine aD (uS rfl r s t (W:=W'.drew) j) m ⟨d.trans ((ax W' 1).mono d.size),_,rfl, ?_⟩;exact(eD (A':=fun b=>w.heap.size≤b) a.size (fun b h i=>⟨om h,a.block b i (by intro e;injection e with e;omega)⟩) _ _ o).next (ax W' 1)
theorem TY(s:Bs)(h:¬65536<s.length):(∀q c,lexB s=.bad q c→(ny,q,c)=gW s)∧(∀a j,lexB s=.aq a j→(∀q c,fX ⟨lN,[]⟩ a=.bad q c→(ny,q,c)=gW s)∧
 (∀x,fX ⟨lN,[]⟩ a=.aq x→(x.below=[]→(x.top,0,0)=gW s)∧(x.below≠[]→(ny,s.length,14)=gW s))):=by
 unfold gW;rw[ae h];refine⟨fun q c b=>by rw[b],fun a j b=> ?_⟩;rw[b];refine⟨fun q c d=>by simp only[d],fun x d=> ?_⟩;simp only[d];refine⟨fun e=>by rw[e];rfl,fun e=> ?_⟩;cases i:x.below with
 |nil=>exact absurd i e
 |cons y r=>rfl
theorem Am(w:World)(hG:GL w)(s:Bs)(hs:s.length≤1000000):
 Calls Tryz.prog 15 #[.string ⟨s.toArray⟩] w (xm w (gW s)):=by
 have hA:Below w.heap.size w (w.alloc (.cells (eH 0 0 [] (.slice none 0 0) (.slice none 0 0)).toArray 45)):=(ar _ _).alloc (ag _) _;have J:=ad hA;have l:=ad (au w (.cells (eH 0 0 [] (.slice none 0 0) (.slice none 0 0)).toArray 45));have a8:=ad (aO w (.cells (eH 0 0 [] (.slice none 0 0) (.slice none 0 0)).toArray 45));have K:=ad (Gn _ (hG.next hA) s hs);obtain⟨R,hR⟩:∃R,gW s=R:=⟨_,rfl⟩;rw[hR];have an:=ad hR;clear hA hG hR;go_enter Tryz.func15,Tryz.ntmps15
 go_upto_if 12 with fail
 generalize w.alloc (.cells #[.int .i64 0,.int .i64 0,.string ⟨#[]⟩,.slice none 0 0,.slice none 0 0] 45)=W1 at*;by_cases Z:65536<s.length
 ·have G:=ad (show(ny,65536,3)=R by rw[←an.out,gW,ah Z]);have i1:(65536:Int)<(s.length:Int):=by omega
  have q0:=aj 0 l.out;have o:=aj 1 l.out;have q2:=aj 2 l.out;have q3:=aj 3 l.out;have q4:=aj 4 l.out;have X:=fun j=>aA (n:=j) l.out;have O:=ad (J.out);clear Z;go_wp2_with fail;refine lO G.out O.out l.out su ?_ ?_ ?_ ?_;all_goals rfl
 ·have bm:s.length≤65536:=by omega
  have G:=ad (an.out▸TY s Z);have i1:¬(65536:Int)<(s.length:Int):=by omega
  have Q:=ad (C4 s);clear Z an;cases D:lexB s with
  |bad q c=>
   rw[D] at K Q;have H:=ad (G.out.1 q c D);have b8:=ad (show q≤s.length∧(c=11∨c=12∨c=13∨c=14) from Q.out);have o:(c !=0)=true:=by rw[bne,eS (by have:=b8.out.2;omega)];rfl
   clear D G Q;go_wp2_with fail;refine K.out.mono ?_;rintro en e⟨r,rfl⟩;have m:=(r.block _ (aB.1 l.out).1).trans l.out;have O:=ad (And.intro (J.out.trans (r.mono J.out.size)) m);have q0:=aj 0 m;have o:=aj 1 m;have q2:=aj 2 m;have q3:=aj 3 m;have q4:=aj 4 m;have X:=fun j=>aA (n:=j) m;clear r m;go_wp2_with fail;refine lO H.out O.out.1 O.out.2 su ?_ ?_ ?_ ?_;all_goals rfl
  |aq z j=>
   rw[D] at K;have H:=ad (G.out.2 z j D);have a9:=ad (Vj D);have aN:=ad bm;clear D G Q bm;go_wp2_with fail;refine K.out.mono ?_;rintro en e⟨r,tv,rfl,ay⟩;obtain⟨ta,tc,rfl⟩:=ay.shape;have bb:=ad ay;have m:=(r.block _ (aB.1 l.out).1).trans l.out;have k:=ad (And.intro (J.out.trans (r.mono J.out.size)) (And.intro m (a8.out▸r.size)));have ap:=ad (KK ((e.alloc (.cells (eH 1 0 [] (.slice none 0 0) (.slice none 0 0)).toArray 45)).alloc (.cells #[.slice (some ⟨e.heap.size,0,none⟩) 1 1,.int .i64 0,.int .i64 0] 74)));rw[show((e.alloc (.cells (eH 1 0 [] (.slice none 0 0) (.slice none 0 0)).toArray 45)).alloc (.cells #[.slice (some ⟨e.heap.size,0,none⟩) 1 1,.int .i64 0,.int .i64 0] 74)).heap.size=e.heap.size+2 by rw[aO,aO]] at ap;clear r ay m K;obtain⟨N,hN⟩:∃N,z.length=N:=⟨_,rfl⟩;rw[hN] at bb⊢;have ai:=ad hN;clear hN;go_wp2_with fail;refine ap.out.mono ?_;rintro en w4⟨rfl,bs,bf⟩;obtain⟨lo,bo,bp,br,b3⟩:=ND (n:=w.heap.size+1) k.out.2.2 bf bs;have S:=ad (And.intro bo (And.intro bp br));have a4:=ad (show PK lo e w4 (e.heap.size+1) (.slice (some ⟨e.heap.size,0,none⟩) 1 1) (re ⟨lN,[]⟩) [.slice none 0 0] (eH 1 0 [] (.slice none 0 0) (.slice none 0 0)) 0 0 from b3);obtain⟨P,hP⟩:∃P,fX ⟨lN,[]⟩ z=P:=⟨_,rfl⟩;rw[hP] at H;have a2:=ad (show fX ⟨lN,[]⟩ (z.drop 0)=P from hP);have a6:Hid (tR 0 ⟨lN,[]⟩):=ad ⟨by decide,fun y hy=>by rw[fj.1 hy];decide,rfl⟩;have cd:=ad (show N≤300000 by rw[←ai.out];have:=a9.out.2;have:=aN.out;omega);have n1:N≤300000:=cd.out;clear bo bp br b3 bs bf hP ap;go_upto_region 8 with fail;generalize b2:e.heap.size+1=pb at*;generalize bv:e.heap.size+2=mb at*;have a0:=ad (And.intro b2 bv);clear b2 bv;go_upto_region 9 with fail
   go_loopw [32] (fun iv wr=>∃(i:Nat) (x:rf) (ov:Value) (kvs ys:List Value),i≤N∧iv=.int .i64 i∧Hid (PK lo e wr pb ov (re x) kvs ys 0 0)∧Hid (fX x (z.drop i)=P)∧Hid (tR i x)) (fun iv _=>N-(intOf iv).toNat)
   case atStart=>exact⟨0,_,_,_,_,aH _,rfl,a4,a2,a6⟩
   case round=>
    obtain⟨i,x,ov,kvs,ys,hi,rfl,B,al,ao⟩:=hrel;clear a4 a2 a6;by_cases ck:i<N
    ·have i2:(i:Int)<(N:Int):=by omega
     have i3:(0:Int)≤(i:Int):=by omega
     obtain⟨t,ht⟩:∃t,z[i]? =some t:=⟨_,cA (by rw[ai.out];exact ck)⟩;have a5:=ad (show fX x (t::z.drop (i+1))=P by rw[←al.out];congr 1;obtain⟨M,h2⟩:=cH.1 ht;rw[lG M,h2])
     have ce:=ad (a9.out.1 t (eQ ht));obtain⟨gt,aa,ac,rfl,C,be,d⟩:=bb.out.get ht;have F:=B.out.up;have y0:wr.cell? ⟨gt,i*6,none⟩=_:=(F.cell (p:=⟨gt,i*6,none⟩) C).trans (d 0 _ rfl);have y1:=(F.cell (p:=⟨gt,i*6+1,none⟩) C).trans (d 1 _ rfl);have y2:=(F.cell (p:=⟨gt,i*6+2,none⟩) C).trans (d 2 _ rfl);have y3:=(F.cell (p:=⟨gt,i*6+3,none⟩) C).trans (d 3 _ rfl);have y4:=(F.cell (p:=⟨gt,i*6+4,none⟩) C).trans (d 4 _ rfl);have y5:=(F.cell (p:=⟨gt,i*6+5,none⟩) C).trans (d 5 _ rfl);have hA5:Below wr.heap.size wr (wr.alloc (.cells (ei t.kind t.name (.slice aa t.attrs.length ac) t.text t.src t.bJ).toArray 78)):=(ar _ _).alloc (ag _) _;have af:=ad (B.out.next hA5);have I:=ad (au wr (.cells (ei t.kind t.name (.slice aa t.attrs.length ac) t.text t.src t.bJ).toArray 78));obtain⟨f,bi,bk,bl⟩:=NB af.out ao.out (by omega) ce.out (by have:=aN.out;omega) (af.out.QM (be.cO (ag _) fun b M _=>⟨by rw[S.out.1,←a8.out];exact M,rfl⟩));have a7:=ad bl;have cl:=ad bk;clear ht F hA5 C be d bl;go_upto_region 11 with fail;generalize wr.alloc (.cells (ei t.kind t.name (.slice aa t.attrs.length ac) t.text t.src t.bJ).toArray 78)=V at*;generalize wr.heap.size=nb at*;clear y0 y1 y2 y3 y4 y5;have n0:=aj 0 I.out;have n1:=aj 1 I.out;have n2:=aj 2 I.out;have n3:=aj 3 I.out;have n4:=aj 4 I.out;have n5:=aj 5 I.out;have bn:(Instr.lookup 75 (.map (some mb)) (.int .i64 t.kind) false).run Tryz.prog V=.ok (Q6 f) V:=by obtain⟨es,c,M,h2⟩:=S.out.2.2;refine Nv ⟨es,c, ?_,h2⟩ _ _ uR _ _ bi;rw[←M,←S.out.2.1];exact af.out.mp.2
     have ch:∀(v:Value) (W:World),(Instr.field 81 (.agg #[v]) 0).run Tryz.prog W=.ok v W:=fun v W=>by kernel_rfl
     have ci:(Instr.lookup 75 (.map (some mb)) (.int .i64 t.kind) false).run Tryz.prog V=.ok (.agg #[.func (.func f) #[] #[]]) V:=bn;clear bn bi;go_wp2_with fail;refine a7.out.mono ?_;rintro en w6⟨rfl,b0⟩;have a1:=ad b0;clear n0 n1 n2 n3 n4 n5 ci ch bk b0 a7;cases E:lM x t with
     |bad q c=>
      obtain⟨bg,co,b5,b4,b6,u⟩:=(show Q7 lo e w6 pb (.bad q c) by rw[←E];exact a1.out);have T:=ad (H.out.1 q c (by rw[←a5.out,fX,E]));have o:(c !=0)=true:=by rw[bne,eS bg];rfl
      obtain⟨p0,p1,p2,-,-,-⟩:=u.box.c;have a:=(u.up.block _ (Nat.lt_of_succ_le k.out.2.2)).trans k.out.2.1;have A:=ad (And.intro (k.out.1.trans (u.up.mono (Nat.le_of_succ_le k.out.2.2))) a);have z0:=aj 0 a;have z1:=aj 1 a;have z2:=aj 2 a;have z3:=aj 3 a;have z4:=aj 4 a;have X:=fun j=>aA (n:=j) a;have d1:¬pb=w.heap.size:=by have:=a0.out.1;have:=k.out.2.2;omega
      have d2:¬w.heap.size=pb:=by have:=a0.out.1;have:=k.out.2.2;omega
      clear E bg u a;go_wp2_with fail;go_region;all_goals
       clear z0 z1 z2 z3 z4 X p0 p1 p2;go_wp2_with fail;refine BM T.out A.out.1 A.out.2 su ?_ ?_ ?_ ?_;all_goals rfl
     |aq y=>
      obtain⟨b5,b4,b6,u⟩:=(show Q7 lo e w6 pb (.aq y) by rw[←E];exact a1.out);have b7:=ad u;have cb:=ad (show fX y (z.drop (i+1))=P by rw[←a5.out,fX,E]);have cc:=ad (KL ao.out E);obtain⟨p0,p1,p2,-,-,-⟩:=u.box.c;clear E u;go_wp2_with fail
      go_roundw
      case rel=>exact⟨i+1,y,b5,b4,b6,by omega,by go_num,b7,cb,cc⟩
      case measure=>(simp[intOf]<;>omega)
    ·obtain rfl:i=N:=by omega
     have a3:=ad (show Px.aq x=P by rw[←al.out,qA (by rw[ai.out];exact ag _)];rfl);have T:=ad (H.out.2 x a3.out.symm);obtain⟨g,cap,ab,-,-,-,-,-⟩:=B.out.slice (by simp[re]);obtain⟨L,Y⟩:∃L,x.below.length=L:=⟨_,rfl⟩;rw[show(re x).length=L+1 by rw[re,bB,zN,Y];rfl] at ab;have l1:L≤16:=by rw[←Y];exact ao.out.deep
     obtain⟨p0,p1,p2,-,-,-⟩:=B.out.box.c;rw[ab] at p0;have a:=(B.out.up.block _ (Nat.lt_of_succ_le k.out.2.2)).trans k.out.2.1;have A:=ad (And.intro (k.out.1.trans (B.out.up.mono (Nat.le_of_succ_le k.out.2.2))) a);have z0:=aj 0 a;have z1:=aj 1 a;have z2:=aj 2 a;have z3:=aj 3 a;have z4:=aj 4 a;have X:=fun j=>aA (n:=j) a;have ca:=ad ab;have aU:=ad Y;clear ab a Y al a3 H;by_cases bd:0<L
     ·have i5:(1:Int)<(L:Int)+1:=by omega
      have am:=ad (T.out.2 (fun h=>by have:=aU.out;rw[h] at this;simp at this;omega));clear bd;go_wp2_with fail;refine lO am.out A.out.1 A.out.2 su ?_ ?_ ?_ ?_;all_goals rfl
     ·obtain rfl:L=0:=by omega
      have av:x.below=[]:=jn aU.out;have am:=ad (T.out.1 av);obtain⟨g2,cn,pa,pc,kb,kd,b1,d,bx⟩:=PK.Wy (y:=x.top) (by have h:=B.out;rw[re,av] at h;exact h);have hg:g=g2:=by have h:=ca.out;rw[b1] at h;injection h with o _ _;injection o with o;injection o with o;exact o.symm
      subst hg;have y0:=d 0 _ rfl;have y1:=d 1 _ rfl;have y2:=d 2 _ rfl;have y3:=d 3 _ rfl;have y4:=d 4 _ rfl;have b9:=ad bx;clear d bx bd b1 av;go_wp2_with fail;refine lO am.out A.out.1 A.out.2 (eD (A':=fun b=>w.heap.size<b) (ag _) (fun b h _=>⟨by rw[S.out.1] at h;exact h,rfl⟩) _ _ b9.out) ?_ ?_ ?_ ?_;all_goals rfl
theorem U0:∀(j:Nat) (b:UInt8),(⟨#[48,49,50,51,52,53,54,55,56,57]⟩:ByteArray).data.toList[j]? =some b→b.toNat<128:=by
 intro j b h;have a:=eQ h;have:∀x∈(Ct:Bs),x.toNat<128:=by decide
 exact this b a
abbrev Wg:TV→Value
 |.none=>.nilIface
 |.sr s=>.iface 229 (.string ⟨s.toArray⟩)
 |.yes b=>.iface 230 (.bool b)
def Bj(w:World)(v:Value):Ending→World→Prop:=fun e w'=>e=.returned v∧w'=w
theorem P9(d:Bs)(p:UInt8→Bool)(j:(fun c=>d.contains c)=p)(l:Bs):(Lib.trimS l d==[])=l.all p:=by
 rw[gf,bZ];have e:Lib.trimS l d=List.dropWhile p (List.dropWhile p l.reverse).reverse:=by rw[←j];rfl
 rw[e,bI,List.all_reverse];constructor
 ·intro h;have a:l.reverse.dropWhile p=[]:=by
   cases i:l.reverse.dropWhile p with
   |nil=>rfl
   |cons c r=>rw[i,kf,cW] at h;have b:=List.head?_dropWhile_not p l.reverse;rw[i] at b;simp only[List.head?_cons] at b;rw[h.1] at b;cases b
  rw[bI,List.all_reverse] at a;exact a
 ·intro h;have a:l.reverse.dropWhile p=[]:=by rw[bI,List.all_reverse];exact h
  rw[a];rfl
theorem Qa(s:ByteArray)(n:Nat)(w:World):(method (n+1) 229 (.string s) "inlay/truth.holds").run Tryz.prog w=.ok (284,.string s) w:=by kernel_rfl
theorem U1(b:Bool)(n:Nat)(w:World):(method (n+1) 230 (.bool b) "inlay/truth.holds").run Tryz.prog w=.ok (285,.bool b) w:=by kernel_rfl
theorem Mc(s:Bs)(w:World):Calls Tryz.prog 284 #[.string ⟨s.toArray⟩] w (Bj w (.bool (oz (.sr s)))):=by
 rcases dT (s=[]) with rfl|a
 ·go_enter Tryz.func284,Tryz.ntmps284;go_wp2_with fail;go_ret;exact⟨rfl,rfl⟩
 ·have b:(s==[])=false:=aL.2 a;rcases dT (s=CA) with rfl|c
  ·clear a b;go_enter Tryz.func284,Tryz.ntmps284;go_wp2_with fail;go_ret;exact⟨rfl,rfl⟩
  ·have e:(s==[102,97,108,115,101])=false:=aL.2 c;have d:=ad (show oz (.sr s)=true by have h:(s==CA)=false:=e;show((!(s==[]))&&(!(s==CA)))=true;rw[b,h];rfl)
   clear a c;go_enter Tryz.func284,Tryz.ntmps284;go_wp2_with fail;go_ret;exact⟨(by rw[d.out];try rfl),rfl⟩
theorem Md(b:Bool)(w:World):Calls Tryz.prog 285 #[.bool b] w (Bj w (.bool b)):=by go_enter Tryz.func285,Tryz.ntmps285;go_wp2_with fail;go_ret;exact⟨rfl,rfl⟩
theorem Bk(x:TV)(w:World):Calls Tryz.prog 117 #[Wg x] w (Bj w (.bool (oz x))):=by
 cases x with
 |none=>go_enter Tryz.func117,Tryz.ntmps117;go_wp2_with fail;go_ret;exact⟨rfl,rfl⟩
 |sr s=>have a:=Qa ⟨s.toArray⟩;go_enter Tryz.func117,Tryz.ntmps117;go_wp2_with fail;refine(Mc s w).mono ?_;rintro e c⟨rfl,rfl⟩;go_wp2_with fail;go_ret;exact⟨rfl,rfl⟩
 |yes b=>have a:=U1 b;go_enter Tryz.func117,Tryz.ntmps117;go_wp2_with fail;refine(Md b w).mono ?_;rintro e c⟨rfl,rfl⟩;go_wp2_with fail;go_ret;exact⟨rfl,rfl⟩
theorem mg(k:Int)(w:World):Calls Tryz.prog 160 #[.int .i64 k] w (cN w (.int .i64 (fG k))):=by
 rcases dT (k=10) with rfl|b
 ·go_enter Tryz.func160,Tryz.ntmps160;go_wp2_with fail;go_ret;exact⟨rfl,ar _ _⟩
 rcases dT (k=11) with rfl|c
 ·go_enter Tryz.func160,Tryz.ntmps160;go_wp2_with fail;go_ret;exact⟨rfl,ar _ _⟩
 rcases dT (k=12) with rfl|d
 ·go_enter Tryz.func160,Tryz.ntmps160;go_wp2_with fail;go_ret;exact⟨rfl,ar _ _⟩
 rcases dT (k=3) with rfl|i
 ·go_enter Tryz.func160,Tryz.ntmps160;go_wp2_with fail;go_ret;exact⟨rfl,ar _ _⟩
 rcases dT (k=1) with rfl|a
 ·go_enter Tryz.func160,Tryz.ntmps160;go_wp2_with fail;go_ret;exact⟨rfl,ar _ _⟩
 rcases dT (k=2) with rfl|e
 ·go_enter Tryz.func160,Tryz.ntmps160;go_wp2_with fail;go_ret;exact⟨rfl,ar _ _⟩
 rcases dT (k=4) with rfl|j
 ·go_enter Tryz.func160,Tryz.ntmps160;go_wp2_with fail;go_ret;exact⟨rfl,ar _ _⟩
 rcases dT (k=5) with rfl|l
 ·go_enter Tryz.func160,Tryz.ntmps160;go_wp2_with fail;go_ret;exact⟨rfl,ar _ _⟩
 rcases dT (k=6) with rfl|m
 ·go_enter Tryz.func160,Tryz.ntmps160;go_wp2_with fail;go_ret;exact⟨rfl,ar _ _⟩
 rcases dT (k=7) with rfl|n
 ·go_enter Tryz.func160,Tryz.ntmps160;go_wp2_with fail;go_ret;exact⟨rfl,ar _ _⟩
 rcases dT (k=8) with rfl|o
 ·go_enter Tryz.func160,Tryz.ntmps160;go_wp2_with fail;go_ret;exact⟨rfl,ar _ _⟩
 rcases dT (k=9) with rfl|p
 ·go_enter Tryz.func160,Tryz.ntmps160;go_wp2_with fail;go_ret;exact⟨rfl,ar _ _⟩
 have q:=ad (show fG k=-1 by rcases nV k with h|h|h|h<;>omega);have s:(k==10)=false:=aL.2 b;have t:(k==11)=false:=aL.2 c;have u:(k==12)=false:=aL.2 d;have y:(k==3)=false:=aL.2 i;have r:(k==1)=false:=aL.2 a;have x:(k==2)=false:=aL.2 e;have z:(k==4)=false:=aL.2 j;have A:(k==5)=false:=aL.2 l;have B:(k==6)=false:=aL.2 m;have C:(k==7)=false:=aL.2 n;have D:(k==8)=false:=aL.2 o;have E:(k==9)=false:=aL.2 p;clear b c d i a e j l m n o p;go_enter Tryz.func160,Tryz.ntmps160;go_wp2_with fail;go_ret;exact⟨(by rw[q.out];try rfl),ar _ _⟩
theorem Qb(k o:Int)(w:World):Calls Tryz.prog 211 #[.int .i64 k,.int .i64 o] w (Bj w (.bool (mA k o))):=by
 rcases dT (k=4) with rfl|a
 ·go_enter Tryz.func211,Tryz.ntmps211;go_wp2_with fail;all_goals
   go_ret;exact⟨cq (by simp[mA]),rfl⟩
 rcases dT (k=5) with rfl|b
 ·go_enter Tryz.func211,Tryz.ntmps211;go_wp2_with fail;all_goals
   go_ret;exact⟨cq (by simp[mA]),rfl⟩
 rcases dT (k=6) with rfl|c
 ·go_enter Tryz.func211,Tryz.ntmps211;go_wp2_with fail;all_goals
   go_ret;exact⟨cq (by simp[mA]),rfl⟩
 rcases dT (k=7) with rfl|d
 ·go_enter Tryz.func211,Tryz.ntmps211;go_wp2_with fail;all_goals
   go_ret;exact⟨cq (by simp[mA]),rfl⟩
 rcases dT (k=8) with rfl|e
 ·go_enter Tryz.func211,Tryz.ntmps211;go_wp2_with fail;all_goals
   go_ret;exact⟨cq (by simp[mA]),rfl⟩
 have h:=ad (show mA k o=decide (0≤o) by unfold mA;rw[ae a,ae b,ae c,ae d,ae e]);have i:(k==4)=false:=aL.2 a;have j:(k==5)=false:=aL.2 b;have l:(k==6)=false:=aL.2 c;have m:(k==7)=false:=aL.2 d;have n:(k==8)=false:=aL.2 e;clear a b c d e;go_enter Tryz.func211,Tryz.ntmps211;go_wp2_with fail;all_goals
  go_ret;exact⟨(by rw[h.out];try rfl),rfl⟩
theorem Qc(s:Bs)(w:World):Calls Tryz.prog 259 #[.string ⟨s.toArray⟩] w (Bj w (.bool false)):=by go_enter Tryz.func259,Tryz.ntmps259;go_wp2_with fail;go_ret;exact⟨rfl,rfl⟩
theorem Ke(a b:Bs)(w:World):Calls Tryz.prog 249 #[.string ⟨a.toArray⟩,.string ⟨b.toArray⟩] w (Bj w (.int .i64 (CB a b))):=by
 have d:=ad (show CB a b=if Op.bytesLess a b=true then-1 else if a=b then 0 else 1 from rfl);obtain⟨q,hq⟩:∃q,Op.bytesLess a b=q:=⟨_,rfl⟩;rw[hq] at d;go_enter Tryz.func249,Tryz.ntmps249;go_wp2_with fail;refine(Qc a w).mono ?_;rintro e i⟨rfl,rfl⟩;go_wp2_with fail;refine(Qc b i).mono ?_;rintro e k⟨rfl,rfl⟩;cases q
 ·rcases dT (a=b) with rfl|h
  ·have c:=ad (show CB a a=0 by rw[d.out];simp);go_wp2_with fail;go_ret;exact⟨(by rw[c.out];try rfl),rfl⟩
  ·have j:(a==b)=false:=aL.2 h;have c:=ad (show CB a b=1 by rw[d.out,ae h];rfl);clear h;go_wp2_with fail;go_ret;exact⟨(by rw[c.out];try rfl),rfl⟩
 ·have c:=ad (show CB a b=-1 by rw[d.out];rfl);go_wp2_with fail;go_ret;exact⟨(by rw[c.out];try rfl),rfl⟩
theorem CC{s:Bs}{N:Int}{q:Bool}(h:(if ez s=true then(tg s:Int) else 0)=N∧ez s=q)(a:ez s=true):(tg s:Int)=N∧true=q:=by rw[ah a,a] at h;exact h
theorem IP{s:Bs}{N:Int}{q:Bool}(h:(if ez s=true then(tg s:Int) else 0)=N∧ez s=q)(a:ez s=false):(0:Int)=N∧false=q:=by rw[ae (by rw[a];decide),a] at h;exact h
theorem Bl(s:Bs)(C:s.length≤200000000)(w:World):Calls Tryz.prog 247 #[.string ⟨s.toArray⟩] w (cN w (.tuple #[.int .i64 (if ez s=true then(tg s:Int) else 0),.bool (ez s)])):=by
 obtain⟨N,i⟩:∃N:Int,(if ez s=true then(tg s:Int) else 0)=N:=⟨_,rfl⟩;obtain⟨q,hq⟩:∃q,ez s=q:=⟨_,rfl⟩;rw[i,hq];have b:=ad (And.intro i hq);clear i hq;rcases dT (s=[]) with rfl|h
 ·obtain⟨rfl,rfl⟩:=IP b.out (show ez []=false from rfl);go_enter Tryz.func247,Tryz.ntmps247;go_wp2_with fail;go_ret2;exact⟨rfl,ar _ _⟩
 ·have z:(s==[])=false:=aL.2 h;have y:=ad (show s.isEmpty=false by cases s;exact absurd rfl h;rfl);clear h;by_cases c:s.length≤18
  ·have n:¬(18:Int)<(s.length:Int):=by omega
   have k:=ad c;have m:=ad (o9 ⟨s.toArray⟩ ⟨#[48,49,50,51,52,53,54,55,56,57]⟩ w (by show s.toArray.size≤_;rw[oC];omega) (by decide) U0);obtain⟨r,j⟩:∃r,Lib.trimS (⟨s.toArray⟩:ByteArray).data.toList (⟨#[48,49,50,51,52,53,54,55,56,57]⟩:ByteArray).data.toList=r:=⟨_,rfl⟩;have l:=ad (show(r==[])=s.all kH by rw[←j];exact P9 Ct kH Bd s);rw[j] at m;clear j c;go_enter Tryz.func247,Tryz.ntmps247;go_wp2_with fail;refine m.out.mono ?_;rintro e t⟨rfl,o⟩;have d:=ad o;clear o;rcases dT (r=[]) with rfl|p
   ·have a:=ad (show ez s=true by unfold ez;rw[y.out,bN k.out,←l.out];rfl);obtain⟨rfl,rfl⟩:=CC b.out a.out;have u:=ad (Tryz.strconv_Atoi ⟨s.toArray⟩ (tg s:Int) (by show s.toArray.size≤_;rw[oC];exact k.out) (P8 a.out) t);go_upto_region 3 with fail;clear z n;go_wp2_with fail;refine u.out.mono ?_;rintro e D⟨rfl,B,rfl⟩;have x:=ad (d.out.trans ((Lib.bytesWorld_below t 5 B).mono d.out.size));go_wp2_with fail;go_ret2;exact⟨rfl,x.out⟩
   ·have A:(r==[])=false:=aL.2 p;have a:=ad (show ez s=false by unfold ez;rw[←l.out,A,CU]);obtain⟨rfl,rfl⟩:=IP b.out a.out;clear p;go_wp2_with fail;go_ret2;exact⟨rfl,d.out⟩
  ·have n:(18:Int)<(s.length:Int):=by omega
   have a:=ad (show ez s=false by unfold ez;rw[cL c,CU,Bool.false_and]);obtain⟨rfl,rfl⟩:=IP b.out a.out;clear c;go_enter Tryz.func247,Tryz.ntmps247;go_wp2_with fail;go_ret2;exact⟨rfl,ar _ _⟩
theorem Qd(a b:Bs)(t:a.length≤200000000)(u:b.length≤200000000)(w:World):Calls Tryz.prog 212 #[.string ⟨a.toArray⟩,.string ⟨b.toArray⟩] w (cN w (.int .i64 (Fu a b))):=by
 have n:=ad (Bl a t);have p:=ad (Bl b u);have d:=ad (show Fu a b=if ez a=true∧ez b=true then Lib.compareInt (tg a) (tg b) else CB a b from rfl);obtain⟨N,k⟩:∃N:Int,(if ez a=true then(tg a:Int) else 0)=N:=⟨_,rfl⟩;obtain⟨M,j⟩:∃M:Int,(if ez b=true then(tg b:Int) else 0)=M:=⟨_,rfl⟩;obtain⟨q,hq⟩:∃q,ez a=q:=⟨_,rfl⟩;obtain⟨l,h⟩:∃l,ez b=l:=⟨_,rfl⟩;rw[k,hq] at n;rw[j,h] at p;rw[hq,h] at d;have s:=ad (And.intro k hq);have r:=ad (And.intro j h);clear hq h t u k j;go_enter Tryz.func212,Tryz.ntmps212;go_wp2_with fail;refine(n.out w).mono ?_;rintro e A⟨rfl,x⟩;have o:=ad x;clear x;go_upto_region 2 with fail;go_wp2_with fail;refine(p.out A).mono ?_;rintro e m⟨rfl,y⟩;have i:=ad (o.out.trans (y.mono o.out.size));clear y;cases q
 ·have c:=ad (show Fu a b=CB a b by rw[d.out];simp);go_upto_region 5 with fail;go_wp2_with fail;refine(Ke a b m).mono ?_;rintro e z⟨rfl,rfl⟩;go_wp2_with fail;go_ret;exact⟨(by rw[c.out];try rfl),i.out⟩
 ·cases l
  ·have c:=ad (show Fu a b=CB a b by rw[d.out];simp);go_upto_region 5 with fail;go_wp2_with fail;refine(Ke a b m).mono ?_;rintro e z⟨rfl,rfl⟩;go_wp2_with fail;go_ret;exact⟨(by rw[c.out];try rfl),i.out⟩
  ·have c:=ad (show Fu a b=Lib.compareInt N M by rw[d.out,←(CC s.out s.out.2).1,←(CC r.out r.out.2).1];simp);go_upto_region 4 with fail;go_wp2_with fail;refine(Tryz.cmp_Compare_int N M m).mono ?_;rintro e z⟨rfl,rfl⟩;go_wp2_with fail;go_ret;exact⟨(by rw[c.out];try rfl),i.out⟩
def nW:TV→Prop
 |.sr s=>s.length≤200000000
 |_=>True
theorem V0(s:Bs)(w:World):(Instr.typeAssert (.iface 229 (.string ⟨s.toArray⟩)) 186 229 true).run Tryz.prog w=.ok (.tuple #[.string ⟨s.toArray⟩,.bool true]) w:=by kernel_rfl
theorem V1(s:Bs)(w:World):(Instr.typeAssert (.iface 229 (.string ⟨s.toArray⟩)) 186 230 true).run Tryz.prog w=.ok (.tuple #[.bool false,.bool false]) w:=by kernel_rfl
theorem V2(b:Bool)(w:World):(Instr.typeAssert (.iface 230 (.bool b)) 186 229 true).run Tryz.prog w=.ok (.tuple #[.string ⟨#[]⟩,.bool false]) w:=by kernel_rfl
theorem V3(b:Bool)(w:World):(Instr.typeAssert (.iface 230 (.bool b)) 186 230 true).run Tryz.prog w=.ok (.tuple #[.bool b,.bool true]) w:=by kernel_rfl
theorem V4(w:World):(Instr.typeAssert .nilIface 186 229 true).run Tryz.prog w=.ok (.tuple #[.string ⟨#[]⟩,.bool false]) w:=by kernel_rfl
theorem V5(w:World):(Instr.typeAssert .nilIface 186 230 true).run Tryz.prog w=.ok (.tuple #[.bool false,.bool false]) w:=by kernel_rfl
theorem Fw(k:Int)(x y:TV)(m:nW x)(n:nW y)(w:World):Calls Tryz.prog 161 #[.int .i64 k,Wg x,Wg y] w (cN w (.bool (fQ k x y))):=by
 have A:=V0;have B:=V1;have C:=V2;have D:=V3;have u:=V4;have z:=V5;cases x with
 |none=>go_enter Tryz.func161,Tryz.ntmps161;go_wp2_with fail;go_ret;exact⟨rfl,ar _ _⟩
 |sr a=>
  cases y with
  |none=>go_enter Tryz.func161,Tryz.ntmps161;go_wp2_with fail;go_ret;exact⟨rfl,ar _ _⟩
  |sr b=>have i:=ad (Qd a b m n w);have c:=ad (show fQ k (.sr a) (.sr b)=mA k (Fu a b) from rfl);clear m n;obtain⟨o,l⟩:∃o,Fu a b=o:=⟨_,rfl⟩;rw[l] at i c;clear l;go_enter Tryz.func161,Tryz.ntmps161;go_wp2_with fail;refine i.out.mono ?_;rintro e r⟨rfl,j⟩;have p:=ad j;clear j;go_wp2_with fail;refine(Qb k o r).mono ?_;rintro e E⟨rfl,rfl⟩;go_wp2_with fail;go_ret;exact⟨(by rw[c.out];try rfl),p.out⟩
  |yes b=>go_enter Tryz.func161,Tryz.ntmps161;go_wp2_with fail;go_ret;exact⟨rfl,ar _ _⟩
 |yes a=>
  cases y with
  |none=>go_enter Tryz.func161,Tryz.ntmps161;go_wp2_with fail;go_ret;exact⟨rfl,ar _ _⟩
  |sr b=>go_enter Tryz.func161,Tryz.ntmps161;go_wp2_with fail;go_ret;exact⟨rfl,ar _ _⟩
  |yes b=>
   have c:=ad (show fQ k (.yes a) (.yes b)=((decide (k=4)&&(a==b))||(decide (k=5)&&(a !=b))) from rfl);rcases dT (k=4) with rfl|d
   ·cases a<;>cases b;all_goals
     go_enter Tryz.func161,Tryz.ntmps161;go_wp2_with fail;go_ret;exact⟨by rw[c.out];rfl,ar _ _⟩
   ·rcases dT (k=5) with rfl|h
    ·cases a<;>cases b;all_goals
      go_enter Tryz.func161,Tryz.ntmps161;go_wp2_with fail;go_ret;exact⟨by rw[c.out];rfl,ar _ _⟩
    ·have s:(k==4)=false:=aL.2 d;have t:(k==5)=false:=aL.2 h;have q:=ad (show fQ k (.yes a) (.yes b)=false by rw[c.out,cL d,cL h];rfl);clear d h;go_enter Tryz.func161,Tryz.ntmps161;go_wp2_with fail;go_ret;exact⟨(by rw[q.out];try rfl),ar _ _⟩
