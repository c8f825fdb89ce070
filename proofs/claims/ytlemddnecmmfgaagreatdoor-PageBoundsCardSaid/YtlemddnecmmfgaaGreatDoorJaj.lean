/- The walk of the parser's add. -/
import Derived.Test.YtlemddnecmmfgaaGreatDoorJai
set_option linter.unusedVariables false
set_option maxRecDepth 100000
set_option maxHeartbeats 4000000
namespace Go.Proofs.YtlemddnecmmfgaaGreatDoor
open Go.RowKit
variable{d:Nat}
abbrev ei(k:Int)(nm:Bs)(av:aaL)(t:Bs)(f g:Int):List aaL:=[.int .i64 k,.string ⟨nm.toArray⟩,av,.string ⟨t.toArray⟩,.int .i64 f,.int .i64 g]
def qy(A:Nat→Prop)(W:aaK):List Tok→List aaL→Prop
 |[],xs=>xs=[]
 |t::r,xs=>∃a c rest,xs=ei t.kind t.name (.slice a t.attrs.length c) t.text t.src t.bJ++rest∧aP A W t.attrs (.slice a t.attrs.length c)∧qy A W r rest
theorem qy.map{A A':Nat→Prop}{W W':aaK}(h:∀l v,aP A W l v→aP A' W' l v):∀{l:List Tok} {xs:List aaL},qy A W l xs→qy A' W' l xs
 |[],_,b=>b
 |x::r,xs,⟨a,c,rest,b,d,e⟩=>⟨a,c,rest,b,h _ _ d,qy.map h e⟩
theorem qy.snoc{A:Nat→Prop}{W:aaK}{y:Tok}{a:Option Addr}{c:Nat}(b:aP A W y.attrs (.slice a y.attrs.length c)):∀{l:List Tok} {xs:List aaL},qy A W l xs→qy A W (l++[y]) (xs++ei y.kind y.name (.slice a y.attrs.length c) y.text y.src y.bJ)
 |[],xs,h=>by obtain rfl:xs=[]:=h;exact⟨a,c,[],by simp,b,rfl⟩
 |x::r,xs,⟨a1,d,rest,e,i,j⟩=>⟨a1,d,rest++ei y.kind y.name (.slice a y.attrs.length c) y.text y.src y.bJ,by rw[e,jl],i,qy.snoc b j⟩
def T0(w0:aaK)(p:Nat)(lv:aaL)(b:Nat):Prop:=w0.heap.size≤b∧b≠p∧some b≠lv.ownBlock
structure LK (w0 W:aaK) (p:Nat) (s:Bs) (i:Nat) (h:Int) (lv:aaL) (done:List Tok) (xs:List aaL):Prop where
 up:Below w0.heap.size w0 W
 box:LB W p s i lv h
 own:W.ownsRow w0.heap.size 76 6 lv done.length xs
 row:qy (T0 w0 p lv) W done xs
 far:w0.heap.size≤p
 ne:some p≠lv.ownBlock
section
variable{w0 W W':aaK}{p:Nat}{s:Bs}{i:Nat}{h:Int}{lv:aaL}{done:List Tok}{xs:List aaL}
theorem LK.next(H:LK w0 W p s i h lv done xs)(a:Below W.heap.size W W'):LK w0 W' p s i h lv done xs:=
 ⟨H.up.t (a.m H.up.size),H.box.next a,cp H.own a,H.row.map fun l v h=>h.next a,H.far,H.ne⟩
theorem LK.aN{j:Nat}{c:Int}(H:LK w0 W p s i h lv done xs)(a:ak p W W')(m:LB W' p s j lv c):LK w0 W' p s j c lv done xs:=
 ⟨H.up.t (a.below H.far H.up.size),m,H.own.kept a (.inr (eo H.ne)),H.row.map fun l v h=>h.cO a.size fun b d k=>⟨d,a.block b k (by intro e;cases e;exact d.2.1 rfl)⟩,H.far,H.ne⟩
theorem Rf{j:aaK}{cap:Nat}{O:Obj}{y:Tok}{a:Option Addr}{c:Nat}(H:LK w0 W p s i h lv done xs)(L:aP (T0 w0 p lv) W y.attrs (.slice a y.attrs.length c))
 (J:j.ownsRow w0.heap.size 76 6 (.slice (some ⟨d,0,none⟩) (done.length+1) cap) (done.length+1) (xs++ei y.kind y.name (.slice a y.attrs.length c) y.text y.src y.bJ))(r:(W.alloc O).grownBy j lv.ownBlock)(x:some d=lv.ownBlock∨W.heap.size+1≤d):
 LK w0 (j.setCell ⟨p,2,none⟩ (.slice (some ⟨d,0,none⟩) (done.length+1) cap)) p s i h (.slice (some ⟨d,0,none⟩) (done.length+1) cap) (done++[y]) (xs++ei y.kind y.name (.slice a y.attrs.length c) y.text y.src y.bJ)∧dX W (j.setCell ⟨p,2,none⟩ (.slice (some ⟨d,0,none⟩) (done.length+1) cap)) p lv (.slice (some ⟨d,0,none⟩) (done.length+1) cap)∧LB j p s i lv h:=by
 have o:Below W.heap.size W (W.alloc O):=(ar _ _).alloc (ag _) _;have F:=H.box.lt;have M:=o.size;have N:=r.size;have z:LB j p s i lv h:=((r.block p (by omega) H.ne).t (o.block p F)).t H.box;have u:ak p j (j.setCell ⟨p,2,none⟩ (.slice (some ⟨d,0,none⟩) (done.length+1) cap)):=(ak.refl _ _).set;have Q:=u.size;have K:∀q,lv.ownBlock=some q→w0.heap.size≤q∧q<W.heap.size:=fun q hq=>H.own.lt q hq;have A:d≠p:=by
  rcases x with e|e
  ·intro D;subst D;exact H.ne e
  ·omega
 have C:=((H.up.t (o.m H.up.size))).grown r (by have:=H.up.size;omega) (fun q hq=>(K q hq).1);have B:∀l v,aP (T0 w0 p lv) W l v→aP (T0 w0 p (.slice (some ⟨d,0,none⟩) (done.length+1) cap)) (j.setCell ⟨p,2,none⟩ (.slice (some ⟨d,0,none⟩) (done.length+1) cap)) l v:=fun l v h=>h.cO (by omega) fun b n w=>by
  refine⟨⟨n.1,n.2.1, ?_⟩, ?_⟩
  ·intro e;have e:b=d:=by simpa[Value.ownBlock] using e
   subst e;rcases x with e|e
   ·exact n.2.2 e
   ·omega
  ·exact(u.block b (by omega) (by intro e;cases e;exact n.2.1 rfl)).t ((r.block b (by omega) n.2.2).t (o.block b w))
 have I:(done++[y]).length=done.length+1:=by simp
 have G:=J.kept u (.inr (by intro e;simp[Value.ownBlock] at e;exact A e))
 refine⟨⟨C.t (u.below H.far (by have:=C.size;omega)),z.Dz _,by rw[I];exact G,qy.snoc (B _ _ L) (H.row.map B),H.far, ?_⟩,⟨by omega,fun k n w E=> ?_, ?_⟩,z⟩
 ·intro e;simp[Value.ownBlock] at e;exact A e.symm
 ·exact(u.block k (by omega) (by intro e;cases e;exact w rfl)).t ((r.block k (by omega) E).t (o.block k n))
 ·rcases x with e|e
  ·exact .inl (by simpa[Value.ownBlock] using e)
  ·exact .inr ⟨d,rfl,by omega⟩
end
theorem Vl:(Tryz.prog.info? 76).map (fun i=>(i.zero,i.size,i.bytes))=some (some (.agg #[.int .i64 0,.string ⟨#[]⟩,.slice none 0 0,.string ⟨#[]⟩,.int .i64 0,.int .i64 0]),6,80):=by kernel_rfl
theorem T1:Tryz.prog.underlying 67=some (.slice 76):=by kernel_rfl
theorem mM{w W:aaK}(h:Below d w W):Below d w W.drew:=⟨h.os,h.tape,h.output,h.size,h.block⟩
theorem aI{W:aaK}{b j:Nat}{v:aaL}(h:W.cell? ⟨b,j,none⟩=some v)(O:Obj):(W.alloc O).cell? ⟨b,j,none⟩=some v:=(((ar W.heap.size W).alloc (ag _) O).cell (p:=⟨b,j,none⟩) (aV h)).t h
def To(w0 W:aaK)(p:Nat)(s:Bs)(lv:aaL)(j:Nat)(h:Int)(done:List Tok):Ending→aaK→Prop:=fun e w'=>e=.returned (.tuple #[])∧∃a b,LK w0 w' p s j h a done b∧dX W w' p lv a
theorem nA{w0 W:aaK}{p:Nat}{s:Bs}{i:Nat}{h:Int}{lv:aaL}{done:List Tok}{xs:List aaL}(H:LK w0 W p s i h lv done xs)(k:Int)(nm:Bs)(l:List bQ)(a:Option Addr)(c:Nat)(K:aP (T0 w0 p lv) W l (.slice a l.length c))(u:Bs)(q r:Int)(src:Nat)(av:src≤i)(hi:i≤s.length)(hs:s.length≤1000000)(M:done.length≤10000000):
 Calls Tryz.prog 76 #[.pointer (some ⟨p,0,none⟩),.agg #[.int .i64 k,.string ⟨nm.toArray⟩,.slice a l.length c,.string ⟨u.toArray⟩,.int .i64 q,.int .i64 r],.int .i64 (src:Int)] W (To w0 W p s lv i h (done++[cS s k nm l src i])):=by
 obtain⟨n,B⟩:∃n,l.length=n:=⟨_,rfl⟩;have G:=ad (show aP (T0 w0 p lv) W (cS s k nm l src i).attrs (.slice a (cS s k nm l src i).attrs.length c) from K);have F:=ad (show(cS s k nm l src i).attrs.length=n from B);have z:=ad (show((⟨s.toArray⟩:aaM).extract src i)=⟨(cS s k nm l src i).text.toArray⟩ from vY s src i _ rfl);obtain⟨y,Y,an,ao,Z,aa⟩:∃y,cS s k nm l src i=y∧y.kind=k∧y.name=nm∧y.src=src∧y.bJ=i:=⟨_,rfl,rfl,rfl,rfl,rfl⟩;rw[Y] at G z F⊢;rw[B];subst an;subst ao;have I:=ad (And.intro Z aa);clear B Y Z aa K;have J:Below W.heap.size W (W.alloc (.cells (ei y.kind y.name (.slice a n c) u q r).toArray 76)):=(ar _ _).alloc (ag _) _;have d:=ad J;have b:=ad (au W (.cells (ei y.kind y.name (.slice a n c) u q r).toArray 76));have x:=ad H;have i0:(0:Int)≤(src:Int):=by omega
 have i1:(src:Int)≤(i:Int):=by omega
 have i2:(i:Int)≤(s.length:Int):=by omega
 clear H J;go_enter Tryz.func76,Tryz.ntmps76;go_upto_region 1 with fail;generalize W.alloc (.cells (ei y.kind y.name (.slice a n c) u q r).toArray 76)=W0 at*;have E:=ad (x.o.next d.o);obtain⟨c0,c1,c2,c3,f1,A,f3⟩:=E.o.box.lc;clear f1 A f3 c2 c3;have aq:=x.o.box.lt;have r3:=aF _ _ 3 _ _ b.o;have r4:=aF _ _ 4 _ _ b.o;have r5:=aF _ _ 5 _ _ b.o;obtain⟨g3,g4,g5⟩:=qX3 (aj b.o) 3 4 5;have ap:¬p=W.heap.size:=by omega
 go_region;rw[z.o];have V:(((W0.setCell ⟨W.heap.size,3,none⟩ (.string ⟨y.text.toArray⟩)).setCell ⟨W.heap.size,4,none⟩ (.int .i64 (src:Int))).setCell ⟨W.heap.size,5,none⟩ (.int .i64 (i:Int))).heap[W.heap.size]? =some (.cells (ei y.kind y.name (.slice a n c) y.text src i).toArray 76):=aw (j:=5) (aw (j:=4) (aw (j:=3) b.o));have X:=(((ak.refl W.heap.size W0).set (j:=3) (v:=.string ⟨y.text.toArray⟩)).set (j:=4) (v:=.int .i64 (src:Int))).set (j:=5) (v:=.int .i64 (i:Int));have L:Below W.heap.size W ((((W0.setCell ⟨W.heap.size,3,none⟩ (.string ⟨y.text.toArray⟩)).setCell ⟨W.heap.size,4,none⟩ (.int .i64 (src:Int))).setCell ⟨W.heap.size,5,none⟩ (.int .i64 (i:Int))).drew):=mM (d.o.t (X.below (ag _) d.o.size));have ab:=ad (show((((W0.setCell ⟨W.heap.size,3,none⟩ (.string ⟨y.text.toArray⟩)).setCell ⟨W.heap.size,4,none⟩ (.int .i64 (src:Int))).setCell ⟨W.heap.size,5,none⟩ (.int .i64 (i:Int))).drew).heap[W.heap.size]? =_ from V);have w:=ad L;clear V X L b E d c0 c1 r3 r4 r5 g3 g4 g5 z;generalize(((W0.setCell ⟨W.heap.size,3,none⟩ (.string ⟨y.text.toArray⟩)).setCell ⟨W.heap.size,4,none⟩ (.int .i64 (src:Int))).setCell ⟨W.heap.size,5,none⟩ (.int .i64 (i:Int))).drew=m at*;go_upto_region 2 with fail;have e:=ad ((x.o.next w.o).next (mM (ar _ _)));have ac:=ad (show m.drew.heap[W.heap.size]? =_ from ab.o);obtain⟨x0,x1,x2,x3,x4,x5⟩:=qX6 (aj ac.o) 0 1 2 3 4 5;have b2:m.cell? ⟨p,2,none⟩=some lv:=e.o.box.lc.c2;have D:=ad M;have af:=ad ((dX.refl W p lv).next (mM w.o));have al:=ad ((G.o.next w.o).next (mM (ar _ _)));clear M;have am:∀O,(m.alloc O).cell? ⟨p,2,none⟩=some lv:=fun O=>aI b2 O;go_region_law
  (refine gM (by rfl) _ _ 67 (by rfl) 76 (.agg #[.int .i64 0,.string ⟨#[]⟩,.slice none 0 0,.string ⟨#[]⟩,.int .i64 0,.int .i64 0]) 6 80 T1 Vl (by rfl) (by decide) w0.heap.size m.drew lv done.length xs (by rfl) e.o.own (ei y.kind y.name (.slice a n c) y.text src i) (by rfl) (by rfl) (by rfl) (by simp[Value.oneCell']) (by have:=D.o;omega) (by have:=D.o;omega) (by exact e.o.up.size) ?_;intro g cap w5 R N Q;obtain⟨S,T,C⟩:=Rf (y:=y) (a:=a) (c:=c) e.o al.o (by rw[F.o,I.o.1,I.o.2];exact R) N Q;have HP:=ad S;have ai:=ad (af.o.t T);have g2:=C.lc.c2;have A:=C.lc.f2;clear S T C R N Q)
 all_goals
  clear x0 x1 x2 x3 x4 x5 b2 am g2 A
  go_end0
  exact⟨rfl,_,_,HP.o,ai.o⟩
theorem oO{w0 W:aaK}{p:Nat}{s:Bs}{i:Nat}{h:Int}{lv:aaL}{done:List Tok}{xs:List aaL}(H:LK w0 W p s i h lv done xs)(src:Nat)(d:src≤i)(c:i≤s.length)(q:s.length≤1000000)(l:done.length≤10000000):
 Calls Tryz.prog 37 #[.pointer (some ⟨p,0,none⟩),.int .i64 (src:Int)] W (To w0 W p s lv i h (done++dc s src i)):=by
 obtain⟨t,u,-,-,-,-,-⟩:=H.box.lc;by_cases a:src<i
 ·have j:=ad (nA H 1 [] [] none 0 (.inl ⟨rfl,none,0,rfl⟩) [] 0 0 src d c q l);have b:=ad (show dc s src i=[cS s 1 [] [] src i] by unfold dc;rw[ah a]);have r:(src:Int)<(i:Int):=by omega
  clear H a d c;go_enter Tryz.func37,Tryz.ntmps37;go_wp2_with fail;refine j.o.m ?_;rintro e w⟨rfl,n⟩;go_wp2_with fail
  go_end0
  rw[b.o];exact⟨rfl,n⟩
 ·have b:=ad (show dc s src i=[] by unfold dc;rw[ae a]);have k:=ad H;have r:¬(src:Int)<(i:Int):=by omega
  clear H a d c;go_enter Tryz.func37,Tryz.ntmps37;go_wp2_with fail
  go_end0
  rw[b.o,jm];exact⟨rfl,_,_,k.o,dX.refl _ _ _⟩
theorem NH{w0 W:aaK}{p:Nat}{s:Bs}{i:Nat}{h:Int}{lv:aaL}{done:List Tok}{xs:List aaL}(H:LK w0 W p s i h lv done xs)(d:i+3≤s.length)(C:s.length≤1000000)(A:done.length≤10000000):
 Calls Tryz.prog 75 #[.pointer (some ⟨p,0,none⟩)] W fun e w'=>e=.returned (.tuple #[])∧∃k l,LK w0 w' p s (i+3) (-1) k (done++[cS s 6 [] [] i (i+3)]) l:=by
 have r:=ad H;have c:=ad (H.box.Gp (-1));have a:=ad (c.o.iD (i+3));rw[show((i+3:Nat):Int)=(i:Int)+3 by omega] at a;have b:=ad (((ak.refl p W).set (j:=3) (v:=.int .i64 (-1))).set (j:=1) (v:=.int .i64 ((i:Int)+3)));obtain⟨u,w,-,x,y,-,z⟩:=H.box.lc;have E:(i:Int)+3≤1000000:=by omega
 have q:=ad d;clear H d;go_enter Tryz.func75,Tryz.ntmps75;go_upto_region 3 with fail;have t:=ad (r.o.aN b.o a.o);clear u w x y z c a b;generalize(W.setCell ⟨p,3,none⟩ (.int .i64 (-1))).setCell ⟨p,1,none⟩ (.int .i64 ((i:Int)+3))=D at*;have n:=ad (nA t.o 6 [] [] none 0 (.inl ⟨rfl,none,0,rfl⟩) [] 0 0 i (by omega) q.o C A);go_wp2_with fail;refine n.o.m ?_;rintro e F⟨rfl,k,l,B,-⟩;go_wp2_with fail
 go_end0
 exact⟨rfl,_,_,B⟩
theorem DD{w0 W:aaK}{p:Nat}{s:Bs}{i:Nat}{h:Int}{lv:aaL}{done:List Tok}{xs:List aaL}(H:LK w0 W p s i h lv done xs)(l:0≤h):
 Calls Tryz.prog 74 #[.pointer (some ⟨p,0,none⟩)] W (mL W.heap.size W i 13):=by
 obtain⟨b,c,-,d,j,-,k⟩:=H.box.lc;clear H;go_enter Tryz.func74,Tryz.ntmps74;go_wp2_with fail;refine(fE i 13 _).m ?_;rintro e n⟨rfl,a⟩;go_wp2_with fail;exact⟨rfl,rfl,a⟩
theorem NI{w0 W:aaK}{p:Nat}{s:Bs}{i:Nat}{lv:aaL}{done:List Tok}{xs:List aaL}(H:LK w0 W p s i (-1) lv done xs)(r:i+8≤s.length)(B:s.length≤1000000)(z:done.length≤10000000):
 Calls Tryz.prog 74 #[.pointer (some ⟨p,0,none⟩)] W fun e w'=>e=.returned (.tuple #[])∧∃t u,LK w0 w' p s (i+8) i t (done++[cS s 5 [] [] i (i+8)]) u:=by
 have y:=ad H;have d:=ad (H.box.Gp i);have a:=ad (d.o.iD (i+8));rw[show((i+8:Nat):Int)=(i:Int)+8 by omega] at a;have c:=ad (((ak.refl p W).set (j:=3) (v:=.int .i64 (i:Int))).set (j:=1) (v:=.int .i64 ((i:Int)+8)));obtain⟨h,k,-,l,n,-,q⟩:=H.box.lc;have D:(i:Int)+8≤1000000:=by omega
 have x:=ad r;clear H r;go_enter Tryz.func74,Tryz.ntmps74;go_upto_region 4 with fail;have b:=ad (y.o.aN c.o a.o);clear h k l n q d a c;generalize(W.setCell ⟨p,3,none⟩ (.int .i64 (i:Int))).setCell ⟨p,1,none⟩ (.int .i64 ((i:Int)+8))=C at*;have w:=ad (nA b.o 5 [] [] none 0 (.inl ⟨rfl,none,0,rfl⟩) [] 0 0 i (by omega) x.o B z);obtain⟨h,k,-,l,n,-,q⟩:=b.o.box.lc;go_wp2_with fail;refine w.o.m ?_;rintro e E⟨rfl,t,u,A,-⟩;go_wp2_with fail
 go_end0
 exact⟨rfl,_,_,A⟩
variable{h:List Nd}{a j:Nat}{d:Nat→Prop}{i:Nd}{e:aaK}
abbrev eH(k p:Int)(t:Bs)(av kv:aaL):List aaL:=[.int .i64 k,.int .i64 p,.string ⟨t.toArray⟩,av,kv]
abbrev wZ(k p:Int)(t:Bs)(av kv:aaL):aaL:=.agg #[.int .i64 k,.int .i64 p,.string ⟨t.toArray⟩,av,kv]
mutual
def fu (A:Nat→Prop) (W:aaK):Nd→aaL→Prop
 |.mk k p t at_ l,v=>∃av kv,v=wZ k p t av kv∧aP A W at_ av∧((l=[]∧∃a c,kv=.slice a 0 c)∨∃b o c,kv=.slice (some ⟨b,o,none⟩) l.length c∧l.length≤c∧A b∧b<W.heap.size∧qx A W l b o)
def qx (A:Nat→Prop) (W:aaK):List Nd→Nat→Nat→Prop
 |[],_,_=>True
 |x::r,b,o=>(∃cs,fu A W x (.agg cs)∧eI W b o cs.toList)∧qx A W r b (o+5)
end
def fC(A:Nat→Prop)(W:aaK)(l:List Nd)(kv:aaL):Prop:=(l=[]∧∃a c,kv=.slice a 0 c)∨∃b o c,kv=.slice (some ⟨b,o,none⟩) l.length c∧l.length≤c∧A b∧b<W.heap.size∧qx A W l b o
theorem mJ{k p:Int}{t:Bs}{a:List bQ}{v:aaL}:fu d e (.mk k p t a h) v↔∃av kv,v=wZ k p t av kv∧aP d e a av∧fC d e h kv:=by rw[fu];rfl
theorem tN:qx d e (i::h) a j↔(∃c,fu d e i (.agg c)∧eI e a j c.toList)∧qx d e h a (j+5):=by rw[qx]
theorem Og:qx d e [] a j:=by rw[qx];trivial
mutual
theorem eD {A A':Nat→Prop} {W W':aaK} (hs:W.heap.size≤W'.heap.size) (hk:∀b,A b→b<W.heap.size→A' b∧W'.heap[b]? =W.heap[b]?):∀(x:Nd) (v:aaL),fu A W x v→fu A' W' x v
 |.mk k p t a l,v,h=>by
  rw[fu] at h⊢;obtain⟨av,kv,hv,ha,h⟩:=h;refine⟨av,kv,hv,ha.cO hs hk, ?_⟩;rcases h with h|⟨b,o,c,h1,h2,h3,h4,h5⟩
  ·exact .inl h
  ·exact .inr ⟨b,o,c,h1,h2,(hk b h3 h4).1,ej h4 hs,pW hs hk l b o h3 h4 h5⟩
theorem pW {A A':Nat→Prop} {W W':aaK} (hs:W.heap.size≤W'.heap.size) (hk:∀b,A b→b<W.heap.size→A' b∧W'.heap[b]? =W.heap[b]?):∀(l:List Nd) (b o:Nat),A b→b<W.heap.size→qx A W l b o→qx A' W' l b o
 |[],_,_,_,_,_=>by rw[qx];trivial
 |x::r,b,o,h1,h2,h=>by rw[qx] at h⊢;obtain⟨⟨cs,h3,h4⟩,h5⟩:=h;exact⟨⟨cs,eD hs hk x _ h3,h4.cO (hk b h1 h2).2⟩,pW hs hk r b (o+5) h1 h2 h5⟩
end
theorem fu.next{W W':aaK}{v:aaL}(h:fu d W i v)(a:Below W.heap.size W W'):fu d W' i v:=eD a.size (fun b c e=>⟨c,a.block b e⟩) i v h
def fm(A:Nat→Prop)(W:aaK):List Nd→List aaL→Prop
 |[],xs=>xs=[]
 |x::r,xs=>∃a c b n d rest,xs=eH x.kind x.place x.text (.slice a x.attrs.length c) (.slice b n d)++rest∧fu A W x (wZ x.kind x.place x.text (.slice a x.attrs.length c) (.slice b n d))∧fm A W r rest
theorem fm.map{A A':Nat→Prop}{W W':aaK}(h:∀x v,fu A W x v→fu A' W' x v):∀{l:List Nd} {xs:List aaL},fm A W l xs→fm A' W' l xs
 |[],_,e=>e
 |x::r,xs,⟨a,c,b,n,d,rest,e,i,j⟩=>⟨a,c,b,n,d,rest,e,h _ _ i,fm.map h j⟩
theorem fm.snoc{A:Nat→Prop}{W:aaK}{y:Nd}{a b:Option Addr}{c n d:Nat}(e:fu A W y (wZ y.kind y.place y.text (.slice a y.attrs.length c) (.slice b n d))):∀{l:List Nd} {xs:List aaL},fm A W l xs→fm A W (l++[y]) (xs++eH y.kind y.place y.text (.slice a y.attrs.length c) (.slice b n d))
 |[],xs,h=>by obtain rfl:xs=[]:=h;exact⟨a,c,b,n,d,[],by simp,e,rfl⟩
 |x::r,xs,⟨a1,i,b1,n1,d1,rest,j,k,m⟩=>⟨a1,i,b1,n1,d1,rest++eH y.kind y.place y.text (.slice a y.attrs.length c) (.slice b n d),by rw[j,jl],k,fm.snoc e m⟩
theorem fm.at{A:Nat→Prop}{W:aaK}:∀{l:List Nd} {xs:List aaL} {b o:Nat},fm A W l xs→eI W b o xs→qx A W l b o
 |[],_,_,_,_,_=>Og
 |x::r,xs,b,o,⟨a1,i,b1,n1,d1,rest,d,e,h⟩,c=>by
  subst d;rw[tN];refine⟨⟨_,e,fun j v a=>c j v ?_⟩,fm.at h (fun j v a=> ?_)⟩
  ·rw[qC (cH.1 a).1];exact a
  ·have:=c (5+j) v (by rw[jL (by simp)];simpa using a);rw[show o+5+j=o+(5+j) by omega];exact this
theorem Ab{T:TypeId}{done:List Nd}{v:aaL}{xs:List aaL}(h:e.ownsRow a T 5 v done.length xs)(o:fm d e done xs)(l:∀z,v.ownBlock=some z→d z):fC d e done v:=by
 rcases h.2 with⟨b,c⟩|⟨g,cap,q,b,c,i,k,r,s,t⟩
 ·exact .inl ⟨jn c,none,0,b⟩
 ·have n:=h.cells (g:=g) (by rw[b];rfl);refine .inr ⟨g,0,cap,b,k,l g (by rw[b];rfl),(aB.1 i).1,o.at (fun j v p=> ?_)⟩;have m:(⟨g,0,none⟩:Addr).add j=⟨g,0+j,none⟩:=by unfold Addr.add;split<;>simp_all
  rw[←m];exact n j v p
def gy(A:Nat→Prop)(W:aaK)(base:Nat):List Nd→List aaL→List aaL→Prop
 |[],b,d=>b=[]∧d=[]
 |x::r,b,d=>∃a c kv e rest xs,b=kv::e∧d=eH x.kind x.place x.text (.slice a x.attrs.length c) kv++rest∧aP A W x.attrs (.slice a x.attrs.length c)∧W.ownsRow base 37 5 kv x.kids.length xs∧fm A W x.kids xs∧gy A W base r e rest
theorem gy.len{A:Nat→Prop}{W:aaK}{base:Nat}:∀{l:List Nd} {e h:List aaL},gy A W base l e h→e.length=l.length∧h.length=l.length*5
 |[],_,_,⟨b,d⟩=>by subst b;subst d;exact⟨rfl,rfl⟩
 |x::r,_,_,⟨a,c,kv,j,rest,xs,b,d,_,_,_,i⟩=>by subst b;subst d;have:=gy.len i;refine⟨by simp[this.1], ?_⟩;rw[bB,this.2,bF];simp;omega
theorem gy.snoc{A:Nat→Prop}{W:aaK}{base:Nat}{y:Nd}{a:Option Addr}{c:Nat}{kv:aaL}{xs:List aaL}(e:aP A W y.attrs (.slice a y.attrs.length c))(i:W.ownsRow base 37 5 kv y.kids.length xs)(j:fm A W y.kids xs):
 ∀{l:List Nd} {k m:List aaL},gy A W base l k m→gy A W base (l++[y]) (k++[kv]) (m++eH y.kind y.place y.text (.slice a y.attrs.length c) kv)
 |[],_,_,⟨b,d⟩=>by subst b;subst d;exact⟨a,c,kv,[],[],xs,rfl,by simp,e,i,j,rfl,rfl⟩
 |x::r,_,_,⟨a1,n,t,s,rest,u,b,d,o,p,q,h⟩=>by subst b;subst d;exact⟨a1,n,t,s++[kv],_,u,rfl,by rw[jl],o,p,q,gy.snoc e i j h⟩
theorem gy.last{A:Nat→Prop}{W:aaK}{base:Nat}{y:Nd}:∀{l:List Nd} {d e:List aaL},gy A W base (l++[y]) d e→
 ∃a c kv xs b i,d=b++[kv]∧e=i++eH y.kind y.place y.text (.slice a y.attrs.length c) kv∧aP A W y.attrs (.slice a y.attrs.length c)∧W.ownsRow base 37 5 kv y.kids.length xs∧fm A W y.kids xs∧gy A W base l b i
 |[],d,e,⟨a,c,kv,D,rest,xs,j,k,m,n,o,B,C⟩=>by subst j;subst k;subst B;subst C;exact⟨a,c,kv,xs,[],[],rfl,by simp,m,n,o,rfl,rfl⟩
 |x::r,d,e,⟨a,c,kv,D,rest,xs,j,k,m,n,o,h⟩=>by obtain⟨a1,p,E,F,b,i,q,s,t,u,w,z⟩:=gy.last (l:=r) h;subst j;subst k;subst q;subst s;exact⟨a1,p,E,F,kv::b,_,rfl,by rw[jl],t,u,w,a,c,kv,b,i,xs,rfl,rfl,m,n,o,z⟩
def bM(l:List aaL):List Nat:=l.filterMap Value.ownBlock
theorem gy.cO{A A':Nat→Prop}{W W':aaK}{base:Nat}(m:W.heap.size≤W'.heap.size)(k:∀b,A b→b<W.heap.size→A' b∧W'.heap[b]? =W.heap[b]?):
 ∀{l:List Nd} {n p:List aaL},gy A W base l n p→(∀b,b∈bM n→W'.heap[b]? =W.heap[b]?)→gy A' W' base l n p
 |[],_,_,h,_=>h
 |x::r,_,_,⟨a,c,kv,z,rest,xs,s,d,t,i,u,h⟩,o=>by
  subst s;subst d;refine⟨a,c,kv,z,rest,xs,rfl,rfl,t.cO m k, ?_,u.map fun x v h=>eD m k x v h,gy.cO m k h fun b j=>o b ?_⟩
  ·rcases i.2 with⟨e,d⟩|⟨g,cap,q,e,B,C,D⟩
   ·exact⟨i.1,.inl ⟨e,d⟩⟩
   ·refine⟨i.1,.inr ⟨g,cap,q,e,B, ?_,D⟩⟩;rw[o g (by subst e;simp[bM,Value.ownBlock])];exact C
  ·unfold bM at j⊢;rw[zO] at j⊢;obtain⟨v,w,y⟩:=j;exact⟨v,bY _ w,y⟩
variable{b i k:Nat}{d:Nd}
structure KB where
 lo:Nat
 mb:Nat
 ob:Obj
def PL(lo:KB)(M:List Nat)(b:Nat):Prop:=lo.lo≤b∧b∉M
def Wd(W:aaK)(pb:Nat)(ov:aaL)(place e:Int):Prop:=W.heap[pb]? =some (.cells #[ov,.int .i64 place,.int .i64 e] 72)
structure PK (lo:KB) (w0 W:aaK) (pb:Nat) (ov:aaL) (st:List Nd) (kvs ys:List aaL) (place e:Int):Prop where
 up:Below w0.heap.size w0 W
 box:Wd W pb ov place e
 own:W.ownsRow w0.heap.size 37 5 ov st.length ys
 Ge:gy (PL lo (pb::bM (ov::kvs))) W w0.heap.size st kvs ys
 vW:(pb::bM (ov::kvs)).Nodup
 far:w0.heap.size≤pb
 Tn:lo.lo≤w0.heap.size
 mp:PL lo (pb::bM (ov::kvs)) lo.mb∧W.heap[lo.mb]? =some lo.ob
section
variable{lo:KB}{w0 W W':aaK}{pb:Nat}{ov:aaL}{st:List Nd}{kvs ys:List aaL}{place e:Int}
theorem PK.next(H:PK lo w0 W pb ov st kvs ys place e)(a:Below W.heap.size W W'):PK lo w0 W' pb ov st kvs ys place e:=
 ⟨H.up.t (a.m H.up.size),(a.block _ (aB.1 H.box).1).t H.box,cp H.own a,
  H.Ge.cO a.size (fun b d h=>⟨d,a.block b h⟩) (fun b c=>a.block b (by unfold bM at c;rw[zO] at c;obtain⟨v,i,j⟩:=c;exact qY H.Ge v i b j)),H.vW,H.far,H.Tn,H.mp.1,(a.block _ (aB.1 H.mp.2).1).t H.mp.2⟩
where
 qY {A:Nat→Prop} {base:Nat}:∀{l:List Nd} {kvs ys:List aaL},gy A W base l kvs ys→∀v∈kvs,∀b,v.ownBlock=some b→b<W.heap.size
  |[],_,_,⟨h1,_⟩,v,hv,_,_=>by subst h1;cases hv
  |x::r,_,_,⟨a,c,kv,kr,rest,xs,e1,e2,g1,g2,g3,h⟩,v,hv,b,hb=>by
   subst e1;rcases bL.1 hv with rfl|hv
   ·exact(g2.lt b hb).2
   ·exact qY h v hv b hb
theorem PK.lt(H:PK lo w0 W pb ov st kvs ys place e):pb<W.heap.size:=(aB.1 H.box).1
theorem PK.slice(H:PK lo w0 W pb ov st kvs ys place e)(k:st≠[]):∃g cap,ov=.slice (some ⟨g,0,none⟩) st.length cap∧g≠pb∧g<W.heap.size∧w0.heap.size≤g∧st.length≤cap∧eI W g 0 ys:=by
 rcases H.own.2 with⟨a,b⟩|⟨g,cap,m,a,b,c,d,n,o,p⟩
 ·exact absurd (jn b) k
 ·have i:=H.own.cells (g:=g) (by rw[a];rfl);refine⟨g,cap,a, ?_,(aB.1 c).1,b,d,fun j v l=> ?_⟩
  ·have:=H.vW;rw[a] at this;intro e;subst e;simp[bM,Value.ownBlock] at this
  ·have h:(⟨g,0,none⟩:Addr).add j=⟨g,0+j,none⟩:=by unfold Addr.add;split<;>simp_all
   rw[←h];exact i j v l
end
structure Xh (W:aaK) (pb:Nat) (ov:aaL) (place e:Int):Prop where
 c0:W.cell? ⟨pb,0,none⟩=some ov
 c1:W.cell? ⟨pb,1,none⟩=some (.int .i64 place)
 c2:W.cell? ⟨pb,2,none⟩=some (.int .i64 e)
 f0:W.frozen? ⟨pb,0,none⟩=false
 f1:W.frozen? ⟨pb,1,none⟩=false
 f2:W.frozen? ⟨pb,2,none⟩=false
theorem Wd.c{W:aaK}{pb:Nat}{ov:aaL}{place e:Int}(x:Wd W pb ov place e):Xh W pb ov place e:=
 ⟨tH _ _ 0 _ _ _ x,tH _ _ 1 _ _ _ x,tH _ _ 2 _ _ _ x,aF _ _ 0 _ _ x,aF _ _ 1 _ _ x,aF _ _ 2 _ _ x⟩
section
variable{lo:KB}{w0 W W':aaK}{pb:Nat}{ov:aaL}{st:List Nd}{kvs ys:List aaL}{place e:Int}
theorem Ky{l:List Nat}(h:(b::l).Nodup):b∉l:=(lI.1 h).1
theorem PK.mark(H:PK lo w0 W pb ov st kvs ys place e)(q c:Int):PK lo w0 ((W.setCell ⟨pb,1,none⟩ (.int .i64 q)).setCell ⟨pb,2,none⟩ (.int .i64 c)) pb ov st kvs ys q c:=by
 have d:ak pb W ((W.setCell ⟨pb,1,none⟩ (.int .i64 q)).setCell ⟨pb,2,none⟩ (.int .i64 c)):=((ak.refl pb W).set (j:=1) (v:=.int .i64 q)).set (j:=2) (v:=.int .i64 c);have l:=Ky H.vW;have k:∀b,b≠pb→b<W.heap.size→((W.setCell ⟨pb,1,none⟩ (.int .i64 q)).setCell ⟨pb,2,none⟩ (.int .i64 c)).heap[b]? =W.heap[b]? :=fun b a h=>d.block b h (by intro e;cases e;exact a rfl);refine⟨H.up.t (d.below H.far H.up.size),aw (j:=2) (aw (j:=1) H.box),H.own.kept d (.inr fun e=>l ?_),H.Ge.cO d.size (fun b a h=>⟨a,k b (fun e=>a.2 (by rw[e];exact eF)) h⟩) (fun b i=> ?_),H.vW,H.far,H.Tn,H.mp.1,(k _ (fun e=>H.mp.1.2 (by rw[e];exact eF)) (aB.1 H.mp.2).1).t H.mp.2⟩
 ·unfold bM;rw[zO];exact⟨ov,eF,e⟩
 ·unfold bM at i;rw[zO] at i;obtain⟨v,m,n⟩:=i;refine k b (fun e=>l ?_) (PK.next.qY H.Ge v m b n);subst e;unfold bM;rw[zO];exact⟨v,bY _ m,n⟩
theorem Nf(H:PK lo w0 W pb ov st kvs ys place e)(q c:Int):
 Calls Tryz.prog 80 #[.pointer (some ⟨pb,0,none⟩),.int .i64 q,.int .i64 c] W fun h w'=>h=.returned (.tuple #[])∧PK lo w0 w' pb ov st kvs ys (if e=0 then q else place) (if e=0 then c else e)∧ak pb W w':=by
 obtain⟨i,k,l,m,n,p⟩:=H.box.c;have b:=ad H;by_cases a:e=0
 ·subst a;have d:=ad (And.intro (H.mark q c) (((ak.refl pb W).set (j:=1) (v:=.int .i64 q)).set (j:=2) (v:=.int .i64 c)));rw[ah rfl,ah rfl];clear H;go_enter Tryz.func80,Tryz.ntmps80;go_wp2_with fail
  go_end0
  exact⟨rfl,d.o⟩
 ·rw[ae a,ae a];have r:(e==0)=false:=by rw[aL];exact a
  clear H a;go_enter Tryz.func80,Tryz.ntmps80;go_wp2_with fail
  go_end0
  exact⟨rfl,b.o,ak.refl pb W⟩
theorem pX(H:PK lo w0 W pb ov st kvs ys place e)(a:ov=.slice (some ⟨b,0,none⟩) (i+1) k)(p:i≤1000):
 Calls Tryz.prog 77 #[.pointer (some ⟨pb,0,none⟩)] W (cN W (.pointer (some ⟨b,i*5,none⟩))):=by
 subst a;obtain⟨d,h,j,l,m,o⟩:=H.box.c;have q:(0:Int)≤(i:Int):=by omega
 have r:(i:Int)<(i:Int)+1:=by omega
 have s:(i:Int)+1-1=(i:Int):=by omega
 clear H;go_enter Tryz.func77,Tryz.ntmps77;go_wp2_with fail
 go_quiet (fail)
 go_wp2_with fail;go_ret;exact⟨rfl,ax _ _⟩
structure Wk (lo:KB) (w0 W:aaK) (pb:Nat) (M:List Nat) (g n:Nat) (y:Nd) (a:Option Addr) (c:Nat) (kv:aaL) (xs:List aaL):Prop where
 c0:W.cell? ⟨g,n*5,none⟩=some (.int .i64 y.kind)
 c1:W.cell? ⟨g,n*5+1,none⟩=some (.int .i64 y.place)
 c2:W.cell? ⟨g,n*5+2,none⟩=some (.string ⟨y.text.toArray⟩)
 c3:W.cell? ⟨g,n*5+3,none⟩=some (.slice a y.attrs.length c)
 c4:W.cell? ⟨g,n*5+4,none⟩=some kv
 at_:aP (PL lo M) W y.attrs (.slice a y.attrs.length c)
 own:W.ownsRow w0.heap.size 37 5 kv y.kids.length xs
 row:fm (PL lo M) W y.kids xs
theorem PK.oM{l:List Nd}(H:PK lo w0 W pb ov (l++[d]) kvs ys place e):∃g cap a c kv xs i h,ov=.slice (some ⟨g,0,none⟩) (l.length+1) cap∧kvs=i++[kv]∧ys=h++eH d.kind d.place d.text (.slice a d.attrs.length c) kv∧h.length=l.length*5∧
 Wk lo w0 W pb (pb::bM (ov::kvs)) g l.length d a c kv xs∧gy (PL lo (pb::bM (ov::kvs))) W w0.heap.size l i h∧g<W.heap.size:=by
 obtain⟨g,cap,s,x,t,z,A,u⟩:=H.slice (by simp);obtain⟨a,c,kv,xs,i,h,o,m,p,q,r,n⟩:=H.Ge.last;have k:=n.len.2;have b:∀(j:Nat) (v:aaL),(eH d.kind d.place d.text (.slice a d.attrs.length c) kv)[j]? =some v→W.cell? ⟨g,l.length*5+j,none⟩=some v:=fun j v w=>by have:=u (l.length*5+j) v (by rw[m,jL (by rw[k];omega),k,zQ];exact w);rw[dH] at this;exact this
 refine⟨g,cap,a,c,kv,xs,i,h,by rw[s];simp,o,m,k,⟨b 0 _ rfl,b 1 _ rfl,b 2 _ rfl,b 3 _ rfl,b 4 _ rfl,p,q,r⟩,n,t⟩
theorem mK{W:aaK}{T:TypeId}{v:aaL}{xs:List aaL}(h:W.ownsRow b T i v k xs):∃a c,v=.slice a k c∧(k≠0→∃g,a=some ⟨g,0,none⟩∧g<W.heap.size∧k≤c∧eI W g 0 xs):=by
 rcases h.2 with⟨d,e⟩|⟨g,cap,s,d,e,l,m,t⟩
 ·exact⟨none,0,by rw[e];exact d,fun q=>absurd e q⟩
 ·have p:=h.cells (g:=g) (by rw[d];rfl);refine⟨_,_,d,fun _=>⟨g,rfl,(aB.1 l).1,m,fun j v r=> ?_⟩⟩;have o:(⟨g,0,none⟩:Addr).add j=⟨g,0+j,none⟩:=by unfold Addr.add;split<;>simp_all
  rw[←o];exact p j v r
theorem fm.Dl{A:Nat→Prop}{W:aaK}{z:Nd}:∀{l:List Nd} {xs:List aaL},fm A W (l++[z]) xs→xs[l.length*5]? =some (.int .i64 z.kind)
 |[],xs,⟨a,c,b,n,d,rest,e,_,_⟩=>by rw[e];rfl
 |x::r,xs,⟨a,c,b,n,d,rest,e,_,h⟩=>by have:=fm.Dl (l:=r) h;rw[e,jL (by rw[bF];simp;omega),←this];congr 1;rw[bF];simp;omega
theorem Dm{l:List Nd}(H:PK lo w0 W pb ov (l++[d]) kvs ys place e)(K:l.length≤1000)(O:d.kids.length≤10000000):
 Calls Tryz.prog 84 #[.pointer (some ⟨pb,0,none⟩)] W (cN W (.int .i64 (Xs d))):=by
 obtain⟨g,cap,a,c,kv,xs,X,Z,w,B,C,R,F,G,s⟩:=H.oM;have x:=ad (pX H w K);have k:=ad (And.intro F s);clear H;obtain⟨ka,kc,rfl,u⟩:=mK F.own;rcases List.eq_nil_or_concat d.kids with b|⟨r,z,b⟩
 ·have i:Xs d=0:=by unfold Xs;rw[b];rfl
  rw[i];have j:d.kids.length=0:=by rw[b];rfl
  have n:=ad j;clear u i b B C w G F s;go_enter Tryz.func84,Tryz.ntmps84;go_upto_region 1 with fail;go_wp2_with fail;refine x.o.m ?_;rintro J N⟨rfl,h⟩;have q:=(h.cell (p:=⟨g,l.length*5+4,none⟩) k.o.2).t k.o.1.c4;rw[n.o] at q;clear j;go_wp2_with fail;go_ret;exact⟨rfl,h⟩
 ·rw[List.concat_eq_append] at b;have i:Xs d=z.kind:=by unfold Xs;rw[b];simp
  rw[i];have j:d.kids.length=r.length+1:=by rw[b];simp
  obtain⟨M,rfl,E,Q,D⟩:=u (by omega);have I:=fm.Dl (z:=z) (l:=r) (by rw[←b];exact F.row);have A:=ad (And.intro (D _ _ I) E);have n:=ad j;have T:(r.length:Int)+1≤10000000:=by omega
  have S:(0:Int)≤(r.length:Int):=by omega
  have V:(r.length:Int)+1-1=(r.length:Int):=by omega
  have Y:((r.length:Int)+1==0)=false:=by rw[aL];omega
  clear i b B C w G F s I D E u;go_enter Tryz.func84,Tryz.ntmps84;go_upto_region 1 with fail;go_wp2_with fail;refine x.o.m ?_;rintro J N⟨rfl,h⟩;have q:=(h.cell (p:=⟨g,l.length*5+4,none⟩) k.o.2).t k.o.1.c4;have L:=(h.cell (p:=⟨M,0+r.length*5,none⟩) A.o.2).t A.o.1;rw[dH] at L;rw[n.o] at q;clear j;go_wp2_with fail;go_ret;exact⟨rfl,h⟩
end
variable{b:Bs}{h M:Int}{r:List aaL}{d:Nat}{i R:aaL}
theorem nt{W:aaK}{T:TypeId}{size g n cap j:Nat}{u:aaL}(h:W.ownsRow d T size (.slice (some ⟨g,0,none⟩) n cap) n r)(t:j<n*size):
 (W.setCell ⟨g,j,none⟩ u).ownsRow d T size (.slice (some ⟨g,0,none⟩) n cap) n (r.set j u):=by
 refine⟨by rw[List.length_set];exact h.1, ?_⟩;rcases h.2 with⟨b,_⟩|⟨g',q,c,b,i,k,l,m,o,p⟩
 ·cases b
 ·injection b with a s e;injection a with a;injection a with a;subst a;subst e;refine .inr ⟨g,cap,c.setIfInBounds j u,rfl,i,aw (j:=j) k,l,m,by rw[Array.size_setIfInBounds];exact o, ?_⟩;rw[Array.toList_setIfInBounds,List.take_set,p]
theorem cQ:d∈bM r↔∃v∈r,v.ownBlock=some d:=by unfold bM;rw[zO]
theorem fD(l m:List aaL):bM (l++m)=bM l++bM m:=by unfold bM;rw[List.filterMap_append]
theorem cR(g n c:Nat)(l:List aaL):bM (.slice (some ⟨g,0,none⟩) n c::l)=g::bM l:=by unfold bM;rw[List.filterMap_cons];rfl
section
variable{lo:KB}{w0 W W':aaK}{pb:Nat}{ov:aaL}{st:List Nd}{kvs ys:List aaL}{place e:Int}
theorem PK.apart(H:PK lo w0 W pb ov st kvs ys place e){g n cap:Nat}(i:ov=.slice (some ⟨g,0,none⟩) n cap):pb≠g∧(∀b,b∈bM kvs→b≠g∧b≠pb)∧(bM kvs).Nodup:=by have h:=H.vW;rw[i,cR] at h;have a:=lI.1 h;have c:=lI.1 a.2;exact⟨fun e=>a.1 (by rw[e];exact eF),fun b d=>⟨fun e=>c.1 (by rw[←e];exact d),fun e=>a.1 (by rw[←e];exact bY _ d)⟩,c.2⟩
theorem QY(u:aaL):(r++eH h M b i R).set (r.length+4) u=r++eH h M b i u:=by rw[List.set_append,ae (by omega),zQ];rfl
theorem QZ(a:Bs):(r++eH h M b i R).set (r.length+2) (.string ⟨a.toArray⟩)=r++eH h M a i R:=by rw[List.set_append,ae (by omega),zQ];rfl
theorem PK.text{l:List Nd}{y:Nd}(H:PK lo w0 W pb ov (l++[y]) kvs ys place e){g cap:Nat}(h:ov=.slice (some ⟨g,0,none⟩) (l.length+1) cap)(t:Bs):
 ∃O,PK lo w0 (W.setCell ⟨g,l.length*5+2,none⟩ (.string ⟨t.toArray⟩)) pb ov (l++[vN y t]) kvs O place e:=by
 obtain⟨g',R,a,c,kv,xs,Z,zs,d,S,T,Y,F,X,V⟩:=H.oM;rw[h] at d;injection d with i q2 N;injection i with i;injection i with i;subst i;subst N;obtain⟨n1,n2,n3⟩:=H.apart h;have p:ak g W (W.setCell ⟨g,l.length*5+2,none⟩ (.string ⟨t.toArray⟩)):=(ak.refl g W).set;have o:=H.own;have D:w0.heap.size≤g:=(o.lt g (by rw[h];rfl)).1;have m:∀b,b≠g→b<W.heap.size→(W.setCell ⟨g,l.length*5+2,none⟩ (.string ⟨t.toArray⟩)).heap[b]? =W.heap[b]? :=fun b d n=>p.block b n (by intro e;cases e;exact d rfl);have r:∀b,PL lo (pb::bM (ov::kvs)) b→b≠g:=fun b d e=>d.2 (by rw[h,cR,e];exact bY _ eF);have E:∀b,b∈bM kvs→b<W.heap.size:=fun b k=>by obtain⟨v,K,L⟩:=cQ.1 k;exact PK.next.qY H.Ge v K b L
 have J:=H.Ge.cO p.size (fun b d n=>⟨d,m b (r b d) n⟩) (fun b k=>m b (n2 b k).1 (E b k));obtain⟨a2,w,M,ab,aa,Q,x,z,A,B,C,q⟩:=J.last;subst x;refine⟨Q++eH y.kind y.place t (.slice a2 y.attrs.length w) M,H.up.t (p.below D H.up.size),(m pb n1 H.lt).t H.box, ?_, ?_,H.vW,H.far,H.Tn,H.mp.1,(m _ (r _ H.mp.1) (aB.1 H.mp.2).1).t H.mp.2⟩
 ·have G:(l++[vN y t]).length=l.length+1:=by simp
  have I:(l++[y]).length=l.length+1:=by simp
  rw[G];rw[I,h] at o;have:=nt (j:=l.length*5+2) (u:=.string ⟨t.toArray⟩) o (by omega);have s:=q.len.2;rw[z,←s,QZ] at this;rw[←s,h];exact this
 ·exact gy.snoc (y:=vN y t) A B C q
theorem PK.add{l:List Nd}{y z:Nd}(H:PK lo w0 W pb ov (l++[y]) kvs ys place e){cap:Nat}(w:ov=.slice (some ⟨d,0,none⟩) (l.length+1) cap)
 {o:aaK}{al:Obj}{n L:Nat}{xs:List aaL}{za zb:Option Addr}{zc zn zd:Nat}(ab:kvs=r++[i])
 (hz:fu (PL lo (pb::bM (ov::kvs))) W z (wZ z.kind z.place z.text (.slice za z.attrs.length zc) (.slice zb zn zd)))(bd:fm (PL lo (pb::bM (ov::kvs))) W y.kids xs)
 (af:o.ownsRow w0.heap.size 37 5 (.slice (some ⟨n,0,none⟩) (y.kids.length+1) L) (y.kids.length+1) (xs++eH z.kind z.place z.text (.slice za z.attrs.length zc) (.slice zb zn zd)))
 (O:(W.alloc al).grownBy o i.ownBlock)(hn:some n=i.ownBlock∨W.heap.size+1≤n):
 ∃bg,PK lo w0 (o.setCell ⟨d,l.length*5+4,none⟩ (.slice (some ⟨n,0,none⟩) (y.kids.length+1) L)) pb ov (l++[fV y z]) (r++[.slice (some ⟨n,0,none⟩) (y.kids.length+1) L]) bg place e∧o.cell? ⟨d,l.length*5+4,none⟩=some i∧o.frozen? ⟨d,l.length*5+4,none⟩=false:=by
 obtain⟨n1,n2,n3⟩:=H.apart w;have M:Below W.heap.size W (W.alloc al):=(ar _ _).alloc (ag _) _;have bl:=M.size;have bm:=O.size;have a5:=H.own.lt d (by rw[w];rfl);have bb:=H.lt;have aq:∀b,b∈bM kvs→b<W.heap.size:=fun b s=>by obtain⟨v,T,E⟩:=cQ.1 s;exact PK.next.qY H.Ge v T b E
 have aa:∀q,i.ownBlock=some q→q∈bM kvs:=fun q hq=>cQ.2 ⟨i,by rw[ab];simp,hq⟩;have Z:some d≠i.ownBlock:=fun e=>(n2 d (aa d e.symm)).1 rfl;have aN:some pb≠i.ownBlock:=fun e=>(n2 pb (aa pb e.symm)).2 rfl;have Y:n≠d∧n≠pb∧n<o.heap.size∧w0.heap.size≤n:=by
  have Q:=af.lt n rfl;rcases hn with e|e
  ·exact⟨fun J=>Z (by rw[←J];exact e),fun J=>aN (by rw[←J];exact e),Q.2,Q.1⟩
  ·exact⟨by omega,by omega,Q.2,Q.1⟩
 have am:∀b,b<W.heap.size→some b≠i.ownBlock→o.heap[b]? =W.heap[b]? :=fun b p K=>(O.block b (by omega) K).t (M.block b p);obtain⟨u,hu⟩:∃u,(.slice (some ⟨n,0,none⟩) (y.kids.length+1) L:aaL)=u:=⟨_,rfl⟩;have ai:u.ownBlock=some n:=by rw[←hu];rfl
 rw[hu] at af⊢;have S:ak d o (o.setCell ⟨d,l.length*5+4,none⟩ u):=(ak.refl d o).set;have bn:=S.size;obtain⟨C,I⟩:∃C,o.setCell ⟨d,l.length*5+4,none⟩ u=C:=⟨_,rfl⟩;have V:∀b,b<W.heap.size→some b≠i.ownBlock→b≠d→C.heap[b]? =W.heap[b]? :=fun b p K X=>by rw[←I];exact(S.block b (by omega) (by intro e;cases e;exact X rfl)).t (am b p K)
 have ay:o.ownsRow w0.heap.size 37 5 ov (l++[y]).length ys:=(cp H.own M).kept O (.inr (by rw[w];exact Z));obtain⟨g',bi,a,c,D,bp,B,zs,e0,e1,J,bo,F,av,a4⟩:=H.oM;rw[w] at e0;injection e0 with A q2 q3;injection A with A;injection A with A;subst A;subst q3;have a6:B=r∧D=i:=by rw[ab] at e1;have:=List.append_inj' e1 rfl;exact⟨this.1.symm,by have:=this.2;injection this with h;exact h.symm⟩
 obtain⟨rfl,rfl⟩:=a6;subst ab;have ac:(bM B).Nodup∧(∀b,b∈bM B→some b≠D.ownBlock):=by rw[fD] at n3;have h5:=List.nodup_append.1 n3;exact⟨h5.1,fun b s e=>h5.2.2 b s b (cQ.2 ⟨D,by simp,e.symm⟩) rfl⟩
 have a7:∀b,b∈bM B→b≠n:=fun b s e=>by
  rcases hn with h|h
  ·exact ac.2 b s (by rw[e];exact h)
  ·have:=aq b (by rw[fD];exact uJ _ s);omega
 have G:∀b,PL lo (pb::bM (ov::(B++[D]))) b→b<W.heap.size→PL lo (pb::bM (ov::(B++[u]))) b∧C.heap[b]? =W.heap[b]? :=fun b p K=>by
  have a2:b≠pb:=fun e=>p.2 (by rw[e];exact eF);have N:b≠d:=fun e=>p.2 (by rw[w,cR,e];exact bY _ eF);have an:b∉bM (B++[D]):=fun e=>p.2 (by rw[w,cR];exact bY _ (bY _ e));have ao:some b≠D.ownBlock:=fun e=>an (cQ.2 ⟨D,by simp,e.symm⟩);refine⟨⟨p.1,fun k=> ?_⟩,V b K ao N⟩;rw[w,cR,fD] at k;rcases bL.1 k with e|k
  ·exact a2 e
  rcases bL.1 k with e|k
  ·exact N e
  rcases gZ.1 k with k|k
  ·exact an (by rw[fD];exact uJ _ k)
  ·obtain⟨v,T,E⟩:=cQ.1 k;obtain rfl:v=u:=by simpa using T
   rw[ai] at E;injection E with E;subst E;rcases hn with h|h
   ·exact ao h
   ·omega
 have R:W.heap.size≤C.heap.size:=by rw[←I];omega
 have a8:=av.cO R G (fun b s=>V b (aq b (by rw[fD];exact uJ _ s)) (ac.2 b s) (n2 b (by rw[fD];exact uJ _ s)).1);have a9:C.ownsRow w0.heap.size 37 5 u (y.kids.length+1) (xs++eH z.kind z.place z.text (.slice za z.attrs.length zc) (.slice zb zn zd)):=by rw[←I];exact af.kept S (.inr (by rw[ai];intro e;injection e with e;exact Y.1 e))
 have be:fm (PL lo (pb::bM (ov::(B++[u])))) C (y.kids++[z]) (xs++eH z.kind z.place z.text (.slice za z.attrs.length zc) (.slice zb zn zd)):=
  fm.snoc (eD R G _ _ hz) (bd.map fun x v h=>eD R G x v h)
 have bf:=av.len.2;have aU:=nt (j:=l.length*5+4) (u:=u) (show o.ownsRow w0.heap.size 37 5 (.slice (some ⟨d,0,none⟩) (l.length+1) cap) (l.length+1) ys by rw[←w];have:=ay;rwa [show(l++[y]).length=l.length+1 by simp] at this) (by omega);rw[I,J,←bf,QY] at aU;rw[I];refine⟨zs++eH y.kind y.place y.text (.slice a y.attrs.length c) u,⟨?_, ?_, ?_, ?_, ?_,H.far,H.Tn,(G _ H.mp.1 (aB.1 H.mp.2).1).1,(G _ H.mp.1 (aB.1 H.mp.2).1).2.t H.mp.2⟩, ?_, ?_⟩
 ·rw[←I];have a0:=((H.up.t (M.m H.up.size))).grown O (by have:=H.up.size;omega) (fun q hq=>by obtain⟨v,T,E⟩:=cQ.1 (aa q hq);exact(F.own.lt q hq).1)
  exact a0.t (S.below a5.1 (by have:=a0.size;omega))
 ·exact(V pb bb aN n1).t H.box
 ·rw[show(l++[fV y z]).length=l.length+1 by simp,w];exact aU
 ·exact gy.snoc (y:=fV y z) (F.at_.cO R G) (show C.ownsRow w0.heap.size 37 5 u (y.kids++[z]).length _ by rw[bB];exact a9) be a8
 ·rw[w,cR,fD];have a3:bM [u]=[n]:=by unfold bM;rw[List.filterMap_cons,ai];rfl
  rw[a3];have ap:∀b,b∈bM B→b∈bM (B++[D]):=fun b s=>by rw[fD];exact uJ _ s
  refine lI.2 ⟨fun k=> ?_,lI.2 ⟨fun k=> ?_,List.nodup_append.2 ⟨ac.1,by simp,fun a ha b s e=> ?_⟩⟩⟩
  ·rcases bL.1 k with e|k
   ·exact n1 e
   rcases gZ.1 k with k|k
   ·exact(n2 pb (ap pb k)).2 rfl
   ·exact Y.2.1 (by have:pb=n:=(by simpa using k);exact this.symm)
  ·rcases gZ.1 k with k|k
   ·exact(n2 d (ap d k)).1 rfl
   ·exact Y.1 (by have:d=n:=(by simpa using k);exact this.symm)
  ·have a1:b=n:=by simpa using s
   exact a7 a ha (by rw[e,a1])
 ·have N:o.heap[d]? =W.heap[d]? :=am d a4 Z;exact(uL (a:=⟨d,l.length*5+4,none⟩) N).t F.c4
 ·rcases ay.2 with⟨p,_⟩|⟨g3,c3,bk,p,_,X,_⟩
  ·rw[w] at p;cases p
  ·rw[w] at p;injection p with A _ _;injection A with A;injection A with A;subst A;exact aF _ _ _ _ _ X
end
variable{b d:Nat}
section
variable{lo:KB}{w0 W W':aaK}{pb:Nat}{ov:aaL}{st:List Nd}{kvs ys:List aaL}{place e:Int}
theorem PK.Xi(H:PK lo w0 W pb ov st kvs ys place e){cap:Nat}(h:ov=.slice (some ⟨b,0,none⟩) d cap)(j:Nat):W.frozen? ⟨b,j,none⟩=false:=by
 rcases H.own.2 with⟨a,_⟩|⟨m,k,l,a,_,i,_⟩
 ·rw[h] at a;cases a
 ·rw[h] at a;injection a with c _ _;injection c with c;injection c with c;subst c;exact aF _ _ _ _ _ i
theorem Q0{l:List Nd}{y:Nd}(H:PK lo w0 W pb ov (l++[y]) kvs ys place e)(O:l.length≤1000)(k:Int)(nm t:Bs)(av:aaL)(n p:Int){ta:Option Addr}(J:av=.slice ta b d):
 Calls Tryz.prog 40 #[.pointer (some ⟨pb,0,none⟩),.agg #[.int .i64 k,.string ⟨nm.toArray⟩,av,.string ⟨t.toArray⟩,.int .i64 n,.int .i64 p]] W fun I w'=>I=.returned (.tuple #[])∧∃T,PK lo w0 w' pb ov (l++[vN y t]) kvs T place e:=by
 subst J;obtain⟨g,cap,a,c,kv,xs,ks,zs,x,E,G,hz,F,Q,M⟩:=H.oM;have w:Below W.heap.size W (W.alloc (.cells (ei k nm (.slice ta b d) t n p).toArray 76)):=(ar _ _).alloc (ag _) _;have s:=ad (H.next w);have u:=ad (au W (.cells (ei k nm (.slice ta b d) t n p).toArray 76));have j:=ad x;have L:=(aB.1 u.o).1;clear H E G x F Q M w;go_enter Tryz.func40,Tryz.ntmps40;go_upto_region 1 with fail;generalize W.alloc (.cells (ei k nm (.slice ta b d) t n p).toArray 76)=h at*;have C:=ad (fun(B:BW h)=>pX (s.o.next B.below) j.o O);have S:∀B:BW h,B.val.cell? ⟨W.heap.size,3,none⟩=some (.string ⟨t.toArray⟩):=fun B=>tH _ _ 3 _ _ _ ((B.below.block _ L).t u.o)
 haveI:Nonempty (BW h):=⟨⟨h,ar _ _⟩⟩
 refine aY 6 (fun B:BW h=>B.val) ⟨h.drew,ax h 1⟩ rfl (by kernel_rfl) (by rfl) (by rfl) (by kernel_rfl) (by kernel_rfl) (by kernel_rfl) ?_;simp only[ki,kL];repeat(quiet_step ((go_at_call 77;refine(C.o _).m ?_;rintro e v1⟨rfl,K⟩;exact⟨rfl,⟨v1,BW.next _ K⟩,rfl⟩)))
 refine wpQuiet_nil ?_;rintro w'⟨B,rfl⟩;rw[ah (by rfl)];have q:=ad (s.o.next B.below);have A:=ad (q.o.text j.o t);obtain⟨g',D,V,X,ab,ac,aa,af,z,-,-,-,r,-,-⟩:=q.o.oM;have N:g'=g∧D=cap:=by rw[j.o] at z;injection z with i q2 R;injection i with i;injection i with i;exact⟨i.symm,R.symm⟩
 obtain⟨rfl,rfl⟩:=N;have Y:=r.c2;have Z:=q.o.Xi j.o (l.length*5+2);clear S r;go_simp
 go_end0
 exact⟨rfl,A.o⟩
end
variable{p:List Nd}
theorem Ng{W:aaK}{pb g n cap:Nat}(a:W.cell? ⟨pb,0,none⟩=some (.slice (some ⟨g,0,none⟩) (n+1) cap))(b:n≤1000):
 Calls Tryz.prog 77 #[.pointer (some ⟨pb,0,none⟩)] W (fun e w'=>e=.returned (.pointer (some ⟨g,n*5,none⟩))∧∃m,w'=W.drewN m):=by
 have c:(0:Int)≤(n:Int):=by omega
 have d:(n:Int)<(n:Int)+1:=by omega
 have h:(n:Int)+1-1=(n:Int):=by omega
 go_enter Tryz.func77,Tryz.ntmps77;go_wp2_with fail
 go_quiet (fail)
 go_wp2_with fail;go_ret;exact⟨rfl,_,rfl⟩
theorem Ji:(Tryz.prog.info? 37).map (fun i=>(i.zero,i.size,i.bytes))=some (some (.agg #[.int .i64 0,.int .i64 0,.string ⟨#[]⟩,.slice none 0 0,.slice none 0 0]),5,80):=by kernel_rfl
theorem BG:Tryz.prog.underlying 35=some (.slice 37):=by kernel_rfl
theorem Dn(w:aaK)(O:Obj)(m:Nat):(w.alloc O).drewN m=(w.drewN m).alloc O:=rfl
section
variable{lo:KB}{w0 W W':aaK}{pb:Nat}{ov:aaL}{st:List Nd}{kvs ys:List aaL}{place e:Int}
theorem PK.Xj{y:Nd}(H:PK lo w0 W pb ov (p++[y]) kvs ys place e){g cap:Nat}(k:ov=.slice (some ⟨g,0,none⟩) (p.length+1) cap):∃d kv xs,kvs=d++[kv]∧W.cell? ⟨g,p.length*5+4,none⟩=some kv∧W.ownsRow w0.heap.size 37 5 kv y.kids.length xs∧fm (PL lo (pb::bM (ov::kvs))) W y.kids xs∧some pb≠kv.ownBlock∧some g≠kv.ownBlock∧g<W.heap.size:=by obtain⟨g',n,a,c,kv,xs,d,x,i,h,o,s,F,r,m⟩:=H.oM;obtain⟨n1,n2,t⟩:=H.apart k;rw[k] at i;injection i with b u w;injection b with b;injection b with b;subst b;have j:∀q,kv.ownBlock=some q→q∈bM kvs:=fun q hq=>cQ.2 ⟨kv,by rw[h];simp,hq⟩;exact⟨d,kv,xs,h,F.c4,F.own,F.row,fun e=>(n2 pb (j pb e.symm)).2 rfl,fun e=>(n2 g (j g e.symm)).1 rfl,m⟩
theorem BH{y z:Nd}(H:PK lo w0 W pb ov (p++[y]) kvs ys place e)(hl:p.length≤1000)(hk:y.kids.length≤10000000){za zb:Option Addr}{zc zn zd:Nat}
 (hz:fu (PL lo (pb::bM (ov::kvs))) W z (wZ z.kind z.place z.text (.slice za z.attrs.length zc) (.slice zb zn zd))):
 Calls Tryz.prog 78 #[.pointer (some ⟨pb,0,none⟩),.agg #[.int .i64 z.kind,.int .i64 z.place,.string ⟨z.text.toArray⟩,.slice za z.attrs.length zc,.slice zb zn zd]] W fun Q w'=>Q=.returned (.tuple #[])∧∃ai E,PK lo w0 w' pb ov (p++[fV y z]) ai E place e:=by
 obtain⟨g,cap,-,-,-,-,-,-,B,-⟩:=H.oM;have A:Below W.heap.size W (W.alloc (.cells (eH z.kind z.place z.text (.slice za z.attrs.length zc) (.slice zb zn zd)).toArray 37)):=(ar _ _).alloc (ag _) _;have k:=ad (H.next A);have K:=ad (hz.next A);have q:=ad (au W (.cells (eH z.kind z.place z.text (.slice za z.attrs.length zc) (.slice zb zn zd)).toArray 37));have u:=ad B;obtain⟨ks,kv,xs,X,D,C,Z,Y,T,V⟩:=k.o.Xj u.o;obtain⟨ka,kc,rfl,-⟩:=mK C;have I:=ad C;have J:=ad Z;have G:=ad (And.intro Y (And.intro T V));have F:=ad X;have i:=k.o.box.c.c0;rw[B] at i;clear H B A hz C Z Y T X V;go_enter Tryz.func78,Tryz.ntmps78;go_upto_region 1 with fail;generalize hb:W.heap.size=b at*;clear hb;generalize W.alloc (.cells (eH z.kind z.place z.text (.slice za z.attrs.length zc) (.slice zb zn zd)).toArray 37)=a at*;obtain⟨zi,ab⟩:∃n,y.kids.length=n:=⟨_,rfl⟩;have z0:a.cell? ⟨b,0,none⟩=_:=tH _ _ 0 _ _ _ q.o;have z1:a.cell? ⟨b,1,none⟩=_:=tH _ _ 1 _ _ _ q.o;have z2:a.cell? ⟨b,2,none⟩=_:=tH _ _ 2 _ _ _ q.o;have z3:a.cell? ⟨b,3,none⟩=_:=tH _ _ 3 _ _ _ q.o;have z4:a.cell? ⟨b,4,none⟩=_:=tH _ _ 4 _ _ _ q.o;have L:∀d O,((a.drewN d).alloc O).cell? ⟨pb,0,none⟩=some (.slice (some ⟨g,0,none⟩) (p.length+1) cap):=fun d O=>aI (W:=a.drewN d) i O;have ac:∀d O,((a.drewN d).alloc O).cell? ⟨g,p.length*5+4,none⟩=_:=fun d O=>aI (W:=a.drewN d) D O;have M:∀O,(a.alloc O).cell? ⟨pb,0,none⟩=some (.slice (some ⟨g,0,none⟩) (p.length+1) cap):=fun O=>aI i O;have af:∀O,(a.alloc O).cell? ⟨g,p.length*5+4,none⟩=_:=fun O=>aI D O;clear ab;go_region_law
  (first
   |(go_simp;refine(Ng (W:=_) (by first|assumption|exact i|exact L _ _|exact M _) hl).m ?_;rintro Q v⟨rfl,d,rfl⟩;try rw [Dn])
   |(refine gM (by rfl) _ _ 35 (by rfl) 37 (.agg #[.int .i64 0,.int .i64 0,.string ⟨#[]⟩,.slice none 0 0,.slice none 0 0]) 5 80 BG Ji (by rfl) (by decide) w0.heap.size _ (.slice ka y.kids.length kc) y.kids.length xs (by rfl) (cp I.o (ax a _)) (eH z.kind z.place z.text (.slice za z.attrs.length zc) (.slice zb zn zd)) (by rfl) (by rfl) (by rfl) (by simp[Value.oneCell']) (by omega) (by omega) (by exact k.o.up.size) ?_;intro g2 aa w5 s j r;have N:=j.cell (aI (W:=a.drewN _) i _) G.o.1;obtain⟨E,t,S,R⟩:=PK.add (k.o.next (ax a _)) u.o F.o (K.o.next (ax a _)) (J.o.map fun x v h=>h.next (ax a _)) s j r;have w:=ad t;clear t s j r)
   |(refine gM (by rfl) _ _ 35 (by rfl) 37 (.agg #[.int .i64 0,.int .i64 0,.string ⟨#[]⟩,.slice none 0 0,.slice none 0 0]) 5 80 BG Ji (by rfl) (by decide) w0.heap.size _ (.slice ka y.kids.length kc) y.kids.length xs (by rfl) (cp (cp I.o (ax a _)) (ax (a.drewN _) _)) (eH z.kind z.place z.text (.slice za z.attrs.length zc) (.slice zb zn zd)) (by rfl) (by rfl) (by rfl) (by simp[Value.oneCell']) (by omega) (by omega) (by exact k.o.up.size) ?_;intro g2 aa w5 s j r;have N:=j.cell (aI (W:=(a.drewN _).drewN _) i _) G.o.1;obtain⟨E,t,S,R⟩:=PK.add ((k.o.next (ax a _)).next (ax (a.drewN _) _)) u.o F.o ((K.o.next (ax a _)).next (ax (a.drewN _) _)) (J.o.map fun x v h=>(h.next (ax a _)).next (ax (a.drewN _) _)) s j r;have w:=ad t;clear t s j r))
 all_goals
  clear z0 z1 z2 z3 z4 i L M D ac af N S R
  go_end0
  first
   |exact⟨rfl,_,_,w.o⟩
   |exact⟨rfl,_,_,w.o.next (ax _ _)⟩
end
