/- The parser at work; the walks of its fail, top, last. -/
import Derived.Test.YtogchgjfialleaaGreatDoorKal
set_option linter.unusedVariables false
set_option maxRecDepth 100000
set_option maxHeartbeats 4000000
namespace Go.Proofs.YtogchgjfialleaaGreatDoor
open Go.RowKit
abbrev ei(k:Int)(nm:Bs)(av:Value)(t:Bs)(f g:Int):List Value:=[.int .i64 k,.string ⟨nm.toArray⟩,av,.string ⟨t.toArray⟩,.int .i64 f,.int .i64 g]
def qy(A:Nat→Prop)(W:World):List Tok→List Value→Prop
 |[],xs=>xs=[]
 |t::r,xs=>∃a c rest,xs=ei t.kind t.name (.slice a t.attrs.length c) t.text t.src t.bJ++rest∧aP A W t.attrs (.slice a t.attrs.length c)∧qy A W r rest
theorem qy.map{A A':Nat→Prop}{W W':World}(h:∀l v,aP A W l v→aP A' W' l v):∀{l:List Tok} {xs:List Value},qy A W l xs→qy A' W' l xs
 |[],_,b=>b
 |x::r,xs,⟨a,c,rest,b,d,e⟩=>⟨a,c,rest,b,h _ _ d,qy.map h e⟩
theorem qy.snoc{A:Nat→Prop}{W:World}{y:Tok}{a:Option Addr}{c:Nat}(b:aP A W y.attrs (.slice a y.attrs.length c)):∀{l:List Tok} {xs:List Value},qy A W l xs→qy A W (l++[y]) (xs++ei y.kind y.name (.slice a y.attrs.length c) y.text y.src y.bJ)
 |[],xs,h=>by obtain rfl:xs=[]:=h;exact⟨a,c,[],by simp,b,rfl⟩
 |x::r,xs,⟨a1,d,rest,e,i,j⟩=>⟨a1,d,rest++ei y.kind y.name (.slice a y.attrs.length c) y.text y.src y.bJ,by rw[e,jl],i,qy.snoc b j⟩
def T0(w0:World)(p:Nat)(lv:Value)(b:Nat):Prop:=w0.heap.size≤b∧b≠p∧some b≠lv.ownBlock
structure LK (w0 W:World) (p:Nat) (s:Bs) (i:Nat) (h:Int) (lv:Value) (done:List Tok) (xs:List Value):Prop where
 up:Below w0.heap.size w0 W
 box:LB W p s i lv h
 own:W.ownsRow w0.heap.size 78 6 lv done.length xs
 row:qy (T0 w0 p lv) W done xs
 far:w0.heap.size≤p
 ne:some p≠lv.ownBlock
section
variable{w0 W W':World}{p:Nat}{s:Bs}{i:Nat}{h:Int}{lv:Value}{done:List Tok}{xs:List Value}
theorem LK.next(H:LK w0 W p s i h lv done xs)(a:Below W.heap.size W W'):LK w0 W' p s i h lv done xs:=
 ⟨H.up.trans (a.mono H.up.size),H.box.next a,cp H.own a,H.row.map fun l v h=>h.next a,H.far,H.ne⟩
theorem LK.aN{j:Nat}{c:Int}(H:LK w0 W p s i h lv done xs)(a:ak p W W')(m:LB W' p s j lv c):LK w0 W' p s j c lv done xs:=
 ⟨H.up.trans (a.below H.far H.up.size),m,H.own.kept a (.inr (eo H.ne)),H.row.map fun l v h=>h.cO a.size fun b d k=>⟨d,a.block b k (by intro e;cases e;exact d.2.1 rfl)⟩,H.far,H.ne⟩
theorem Rf{d:World}{g cap:Nat}{O:Obj}{y:Tok}{a:Option Addr}{c:Nat}(H:LK w0 W p s i h lv done xs)(I:aP (T0 w0 p lv) W y.attrs (.slice a y.attrs.length c))
 (F:d.ownsRow w0.heap.size 78 6 (.slice (some ⟨g,0,none⟩) (done.length+1) cap) (done.length+1) (xs++ei y.kind y.name (.slice a y.attrs.length c) y.text y.src y.bJ))(n:(W.alloc O).grownBy d lv.ownBlock)(t:some g=lv.ownBlock∨W.heap.size+1≤g):
 LK w0 (d.setCell ⟨p,2,none⟩ (.slice (some ⟨g,0,none⟩) (done.length+1) cap)) p s i h (.slice (some ⟨g,0,none⟩) (done.length+1) cap) (done++[y]) (xs++ei y.kind y.name (.slice a y.attrs.length c) y.text y.src y.bJ)∧dX W (d.setCell ⟨p,2,none⟩ (.slice (some ⟨g,0,none⟩) (done.length+1) cap)) p lv (.slice (some ⟨g,0,none⟩) (done.length+1) cap)∧LB d p s i lv h:=by
 have m:Below W.heap.size W (W.alloc O):=(ar _ _).alloc (ag _) _;have C:=H.box.lt;have J:=m.size;have K:=n.size;have u:LB d p s i lv h:=((n.block p (by omega) H.ne).trans (m.block p C)).trans H.box;have o:ak p d (d.setCell ⟨p,2,none⟩ (.slice (some ⟨g,0,none⟩) (done.length+1) cap)):=(ak.refl _ _).set;have L:=o.size;have G:∀q,lv.ownBlock=some q→w0.heap.size≤q∧q<W.heap.size:=fun q hq=>H.own.lt q hq;have w:g≠p:=by
  rcases t with e|e
  ·intro A;subst A;exact H.ne e
  ·omega
 have z:=((H.up.trans (m.mono H.up.size))).grown n (by have:=H.up.size;omega) (fun q hq=>(G q hq).1);have x:∀l v,aP (T0 w0 p lv) W l v→aP (T0 w0 p (.slice (some ⟨g,0,none⟩) (done.length+1) cap)) (d.setCell ⟨p,2,none⟩ (.slice (some ⟨g,0,none⟩) (done.length+1) cap)) l v:=fun l v h=>h.cO (by omega) fun b j r=>by
  refine⟨⟨j.1,j.2.1, ?_⟩, ?_⟩
  ·intro e;have e:b=g:=by simpa[Value.ownBlock] using e
   subst e;rcases t with e|e
   ·exact j.2.2 e
   ·omega
  ·exact(o.block b (by omega) (by intro e;cases e;exact j.2.1 rfl)).trans ((n.block b (by omega) j.2.2).trans (m.block b r))
 have E:(done++[y]).length=done.length+1:=by simp
 have D:=F.kept o (.inr (by intro e;simp[Value.ownBlock] at e;exact w e))
 refine⟨⟨z.trans (o.below H.far (by have:=z.size;omega)),u.Dz _,by rw[E];exact D,qy.snoc (x _ _ I) (H.row.map x),H.far, ?_⟩,⟨by omega,fun k j r B=> ?_, ?_⟩,u⟩
 ·intro e;simp[Value.ownBlock] at e;exact w e.symm
 ·exact(o.block k (by omega) (by intro e;cases e;exact r rfl)).trans ((n.block k (by omega) B).trans (m.block k j))
 ·rcases t with e|e
  ·exact .inl (by simpa[Value.ownBlock] using e)
  ·exact .inr ⟨g,rfl,by omega⟩
end
theorem Vl:(Tryz.prog.info? 78).map (fun i=>(i.zero,i.size,i.bytes))=some (some (.agg #[.int .i64 0,.string ⟨#[]⟩,.slice none 0 0,.string ⟨#[]⟩,.int .i64 0,.int .i64 0]),6,80):=by kernel_rfl
theorem T1:Tryz.prog.underlying 69=some (.slice 78):=by kernel_rfl
theorem mM{n:Nat}{w W:World}(h:Below n w W):Below n w W.drew:=⟨h.os,h.tape,h.output,h.size,h.block⟩
theorem aI{W:World}{b j:Nat}{v:Value}(h:W.cell? ⟨b,j,none⟩=some v)(O:Obj):(W.alloc O).cell? ⟨b,j,none⟩=some v:=(((ar W.heap.size W).alloc (ag _) O).cell (p:=⟨b,j,none⟩) (aV h)).trans h
def To(w0 W:World)(p:Nat)(s:Bs)(lv:Value)(j:Nat)(h:Int)(done:List Tok):Ending→World→Prop:=fun e w'=>e=.returned (.tuple #[])∧∃a b,LK w0 w' p s j h a done b∧dX W w' p lv a
theorem nA{w0 W:World}{p:Nat}{s:Bs}{i:Nat}{h:Int}{lv:Value}{done:List Tok}{xs:List Value}(H:LK w0 W p s i h lv done xs)(k:Int)(nm:Bs)(l:List bQ)(a:Option Addr)(c:Nat)(J:aP (T0 w0 p lv) W l (.slice a l.length c))(t:Bs)(q r:Int)(src:Nat)(ap:src≤i)(hi:i≤s.length)(hs:s.length≤1000000)(L:done.length≤10000000):
 Calls Tryz.prog 73 #[.pointer (some ⟨p,0,none⟩),.agg #[.int .i64 k,.string ⟨nm.toArray⟩,.slice a l.length c,.string ⟨t.toArray⟩,.int .i64 q,.int .i64 r],.int .i64 (src:Int)] W (To w0 W p s lv i h (done++[cS s k nm l src i])):=by
 obtain⟨n,A⟩:∃n,l.length=n:=⟨_,rfl⟩;have F:=ad (show aP (T0 w0 p lv) W (cS s k nm l src i).attrs (.slice a (cS s k nm l src i).attrs.length c) from J);have E:=ad (show(cS s k nm l src i).attrs.length=n from A);have x:=ad (show((⟨s.toArray⟩:ByteArray).extract src i)=⟨(cS s k nm l src i).text.toArray⟩ from vY s src i _ rfl);obtain⟨y,X,al,am,Y,Z⟩:∃y,cS s k nm l src i=y∧y.kind=k∧y.name=nm∧y.src=src∧y.bJ=i:=⟨_,rfl,rfl,rfl,rfl,rfl⟩;rw[X] at F x E⊢;rw[A];subst al;subst am;have G:=ad (And.intro Y Z);clear A X Y Z J;have I:Below W.heap.size W (W.alloc (.cells (ei y.kind y.name (.slice a n c) t q r).toArray 78)):=(ar _ _).alloc (ag _) _;have e:=ad I;have b:=ad (au W (.cells (ei y.kind y.name (.slice a n c) t q r).toArray 78));have w:=ad H;have i0:(0:Int)≤(src:Int):=by omega
 have i1:(src:Int)≤(i:Int):=by omega
 have i2:(i:Int)≤(s.length:Int):=by omega
 clear H I;go_enter Tryz.func73,Tryz.ntmps73;go_upto_region 1 with fail;generalize W.alloc (.cells (ei y.kind y.name (.slice a n c) t q r).toArray 78)=W0 at*;have D:=ad (w.out.next e.out);obtain⟨c0,c1,c2,c3,f1,z,f3⟩:=D.out.box.lc;clear f1 z f3 c2 c3;have ao:=w.out.box.lt;have r3:=aF _ _ 3 _ _ b.out;have r4:=aF _ _ 4 _ _ b.out;have r5:=aF _ _ 5 _ _ b.out;have g3:=aj 3 b.out;have g4:=aj 4 b.out;have g5:=aj 5 b.out;have an:¬p=W.heap.size:=by omega
 go_region;rw[x.out];have T:(((W0.setCell ⟨W.heap.size,3,none⟩ (.string ⟨y.text.toArray⟩)).setCell ⟨W.heap.size,4,none⟩ (.int .i64 (src:Int))).setCell ⟨W.heap.size,5,none⟩ (.int .i64 (i:Int))).heap[W.heap.size]? =some (.cells (ei y.kind y.name (.slice a n c) y.text src i).toArray 78):=aw (j:=5) (aw (j:=4) (aw (j:=3) b.out));have V:=(((ak.refl W.heap.size W0).set (j:=3) (v:=.string ⟨y.text.toArray⟩)).set (j:=4) (v:=.int .i64 (src:Int))).set (j:=5) (v:=.int .i64 (i:Int));have K:Below W.heap.size W ((((W0.setCell ⟨W.heap.size,3,none⟩ (.string ⟨y.text.toArray⟩)).setCell ⟨W.heap.size,4,none⟩ (.int .i64 (src:Int))).setCell ⟨W.heap.size,5,none⟩ (.int .i64 (i:Int))).drew):=mM (e.out.trans (V.below (ag _) e.out.size));have aa:=ad (show((((W0.setCell ⟨W.heap.size,3,none⟩ (.string ⟨y.text.toArray⟩)).setCell ⟨W.heap.size,4,none⟩ (.int .i64 (src:Int))).setCell ⟨W.heap.size,5,none⟩ (.int .i64 (i:Int))).drew).heap[W.heap.size]? =_ from T);have u:=ad K;clear T V K b D e c0 c1 r3 r4 r5 g3 g4 g5 x;generalize(((W0.setCell ⟨W.heap.size,3,none⟩ (.string ⟨y.text.toArray⟩)).setCell ⟨W.heap.size,4,none⟩ (.int .i64 (src:Int))).setCell ⟨W.heap.size,5,none⟩ (.int .i64 (i:Int))).drew=o at*;go_upto_region 2 with fail;have m:=ad ((w.out.next u.out).next (mM (ar _ _)));have d:=ad (show o.drew.heap[W.heap.size]? =_ from aa.out);have x0:=aj 0 d.out;have x1:=aj 1 d.out;have x2:=aj 2 d.out;have x3:=aj 3 d.out;have x4:=aj 4 d.out;have x5:=aj 5 d.out;have b2:o.cell? ⟨p,2,none⟩=some lv:=m.out.box.lc.c2;have C:=ad L;have ab:=ad ((dX.refl W p lv).next (mM u.out));have af:=ad ((F.out.next u.out).next (mM (ar _ _)));clear L;have ai:∀O,(o.alloc O).cell? ⟨p,2,none⟩=some lv:=fun O=>aI b2 O;go_region_law
  (refine gM (by rfl) _ _ 69 (by rfl) 78 (.agg #[.int .i64 0,.string ⟨#[]⟩,.slice none 0 0,.string ⟨#[]⟩,.int .i64 0,.int .i64 0]) 6 80 T1 Vl (by rfl) (by decide) w0.heap.size o.drew lv done.length xs (by rfl) m.out.own (ei y.kind y.name (.slice a n c) y.text src i) (by rfl) (by rfl) (by rfl) (by simp[Value.oneCell']) (by have:=C.out;omega) (by have:=C.out;omega) (by exact m.out.up.size) ?_;intro g cap w5 Q M N;obtain⟨R,S,B⟩:=Rf (y:=y) (a:=a) (c:=c) m.out af.out (by rw[E.out,G.out.1,G.out.2];exact Q) M N;have HP:=ad R;have ac:=ad (ab.out.trans S);have g2:=B.lc.c2;have z:=B.lc.f2;clear R S B Q M N)
 all_goals
  clear x0 x1 x2 x3 x4 x5 b2 ai g2 z
  go_end0
  exact⟨rfl,_,_,HP.out,ac.out⟩
theorem oO{w0 W:World}{p:Nat}{s:Bs}{i:Nat}{h:Int}{lv:Value}{done:List Tok}{xs:List Value}(H:LK w0 W p s i h lv done xs)(src:Nat)(d:src≤i)(c:i≤s.length)(n:s.length≤1000000)(l:done.length≤10000000):
 Calls Tryz.prog 37 #[.pointer (some ⟨p,0,none⟩),.int .i64 (src:Int)] W (To w0 W p s lv i h (done++dc s src i)):=by
 obtain⟨q,r,-,-,-,-,-⟩:=H.box.lc;by_cases a:src<i
 ·have j:=ad (nA H 1 [] [] none 0 (.inl ⟨rfl,none,0,rfl⟩) [] 0 0 src d c n l);have b:=ad (show dc s src i=[cS s 1 [] [] src i] by unfold dc;rw[ah a]);have o:(src:Int)<(i:Int):=by omega
  clear H a d c;go_enter Tryz.func37,Tryz.ntmps37;go_wp2_with fail;refine j.out.mono ?_;rintro e t⟨rfl,m⟩;go_wp2_with fail
  go_end0
  rw[b.out];exact⟨rfl,m⟩
 ·have b:=ad (show dc s src i=[] by unfold dc;rw[ae a]);have k:=ad H;have o:¬(src:Int)<(i:Int):=by omega
  clear H a d c;go_enter Tryz.func37,Tryz.ntmps37;go_wp2_with fail
  go_end0
  rw[b.out,jm];exact⟨rfl,_,_,k.out,dX.refl _ _ _⟩
theorem NH{w0 W:World}{p:Nat}{s:Bs}{i:Nat}{h:Int}{lv:Value}{done:List Tok}{xs:List Value}(H:LK w0 W p s i h lv done xs)(d:i+3≤s.length)(A:s.length≤1000000)(y:done.length≤10000000):
 Calls Tryz.prog 72 #[.pointer (some ⟨p,0,none⟩)] W fun e w'=>e=.returned (.tuple #[])∧∃k l,LK w0 w' p s (i+3) (-1) k (done++[cS s 6 [] [] i (i+3)]) l:=by
 have o:=ad H;have c:=ad (H.box.Gp (-1));have a:=ad (c.out.iD (i+3));rw[show((i+3:Nat):Int)=(i:Int)+3 by omega] at a;have b:=ad (((ak.refl p W).set (j:=3) (v:=.int .i64 (-1))).set (j:=1) (v:=.int .i64 ((i:Int)+3)));obtain⟨r,t,-,u,w,-,x⟩:=H.box.lc;have C:(i:Int)+3≤1000000:=by omega
 have n:=ad d;clear H d;go_enter Tryz.func72,Tryz.ntmps72;go_upto_region 3 with fail;have q:=ad (o.out.aN b.out a.out);clear r t u w x c a b;generalize(W.setCell ⟨p,3,none⟩ (.int .i64 (-1))).setCell ⟨p,1,none⟩ (.int .i64 ((i:Int)+3))=B at*;have m:=ad (nA q.out 6 [] [] none 0 (.inl ⟨rfl,none,0,rfl⟩) [] 0 0 i (by omega) n.out A y);go_wp2_with fail;refine m.out.mono ?_;rintro e D⟨rfl,k,l,z,-⟩;go_wp2_with fail
 go_end0
 exact⟨rfl,_,_,z⟩
theorem DD{w0 W:World}{p:Nat}{s:Bs}{i:Nat}{h:Int}{lv:Value}{done:List Tok}{xs:List Value}(H:LK w0 W p s i h lv done xs)(l:0≤h):
 Calls Tryz.prog 71 #[.pointer (some ⟨p,0,none⟩)] W (mL W.heap.size W i 13):=by
 obtain⟨b,c,-,d,j,-,k⟩:=H.box.lc;clear H;go_enter Tryz.func71,Tryz.ntmps71;go_wp2_with fail;refine(fE i 13 _).mono ?_;rintro e m⟨rfl,a⟩;go_wp2_with fail;exact⟨rfl,rfl,a⟩
theorem NI{w0 W:World}{p:Nat}{s:Bs}{i:Nat}{lv:Value}{done:List Tok}{xs:List Value}(H:LK w0 W p s i (-1) lv done xs)(o:i+8≤s.length)(z:s.length≤1000000)(x:done.length≤10000000):
 Calls Tryz.prog 71 #[.pointer (some ⟨p,0,none⟩)] W fun e w'=>e=.returned (.tuple #[])∧∃q r,LK w0 w' p s (i+8) i q (done++[cS s 5 [] [] i (i+8)]) r:=by
 have w:=ad H;have d:=ad (H.box.Gp i);have a:=ad (d.out.iD (i+8));rw[show((i+8:Nat):Int)=(i:Int)+8 by omega] at a;have c:=ad (((ak.refl p W).set (j:=3) (v:=.int .i64 (i:Int))).set (j:=1) (v:=.int .i64 ((i:Int)+8)));obtain⟨h,k,-,l,m,-,n⟩:=H.box.lc;have B:(i:Int)+8≤1000000:=by omega
 have u:=ad o;clear H o;go_enter Tryz.func71,Tryz.ntmps71;go_upto_region 4 with fail;have b:=ad (w.out.aN c.out a.out);clear h k l m n d a c;generalize(W.setCell ⟨p,3,none⟩ (.int .i64 (i:Int))).setCell ⟨p,1,none⟩ (.int .i64 ((i:Int)+8))=A at*;have t:=ad (nA b.out 5 [] [] none 0 (.inl ⟨rfl,none,0,rfl⟩) [] 0 0 i (by omega) u.out z x);obtain⟨h,k,-,l,m,-,n⟩:=b.out.box.lc;go_wp2_with fail;refine t.out.mono ?_;rintro e C⟨rfl,q,r,y,-⟩;go_wp2_with fail
 go_end0
 exact⟨rfl,_,_,y⟩
abbrev eH(k p:Int)(t:Bs)(av kv:Value):List Value:=[.int .i64 k,.int .i64 p,.string ⟨t.toArray⟩,av,kv]
abbrev wZ(k p:Int)(t:Bs)(av kv:Value):Value:=.agg #[.int .i64 k,.int .i64 p,.string ⟨t.toArray⟩,av,kv]
mutual
def fu (A:Nat→Prop) (W:World):Nd→Value→Prop
 |.mk k p t at_ l,v=>∃av kv,v=wZ k p t av kv∧aP A W at_ av∧((l=[]∧∃a c,kv=.slice a 0 c)∨∃b o c,kv=.slice (some ⟨b,o,none⟩) l.length c∧l.length≤c∧A b∧b<W.heap.size∧qx A W l b o)
def qx (A:Nat→Prop) (W:World):List Nd→Nat→Nat→Prop
 |[],_,_=>True
 |x::r,b,o=>(∃cs,fu A W x (.agg cs)∧eI W b o cs.toList)∧qx A W r b (o+5)
end
def fC(A:Nat→Prop)(W:World)(l:List Nd)(kv:Value):Prop:=(l=[]∧∃a c,kv=.slice a 0 c)∨∃b o c,kv=.slice (some ⟨b,o,none⟩) l.length c∧l.length≤c∧A b∧b<W.heap.size∧qx A W l b o
theorem mJ{A:Nat→Prop}{W:World}{k p:Int}{t:Bs}{a:List bQ}{l:List Nd}{v:Value}:fu A W (.mk k p t a l) v↔∃av kv,v=wZ k p t av kv∧aP A W a av∧fC A W l kv:=by rw[fu];rfl
theorem tN{A:Nat→Prop}{W:World}{x:Nd}{r:List Nd}{b o:Nat}:qx A W (x::r) b o↔(∃a,fu A W x (.agg a)∧eI W b o a.toList)∧qx A W r b (o+5):=by rw[qx]
theorem Og{A:Nat→Prop}{W:World}{b o:Nat}:qx A W [] b o:=by rw[qx];trivial
mutual
theorem eD {A A':Nat→Prop} {W W':World} (hs:W.heap.size≤W'.heap.size) (hk:∀b,A b→b<W.heap.size→A' b∧W'.heap[b]? =W.heap[b]?):∀(x:Nd) (v:Value),fu A W x v→fu A' W' x v
 |.mk k p t a l,v,h=>by
  rw[fu] at h⊢;obtain⟨av,kv,hv,ha,h⟩:=h;refine⟨av,kv,hv,ha.cO hs hk, ?_⟩;rcases h with h|⟨b,o,c,h1,h2,h3,h4,h5⟩
  ·exact .inl h
  ·exact .inr ⟨b,o,c,h1,h2,(hk b h3 h4).1,ej h4 hs,pW hs hk l b o h3 h4 h5⟩
theorem pW {A A':Nat→Prop} {W W':World} (hs:W.heap.size≤W'.heap.size) (hk:∀b,A b→b<W.heap.size→A' b∧W'.heap[b]? =W.heap[b]?):∀(l:List Nd) (b o:Nat),A b→b<W.heap.size→qx A W l b o→qx A' W' l b o
 |[],_,_,_,_,_=>by rw[qx];trivial
 |x::r,b,o,h1,h2,h=>by rw[qx] at h⊢;obtain⟨⟨cs,h3,h4⟩,h5⟩:=h;exact⟨⟨cs,eD hs hk x _ h3,h4.cO (hk b h1 h2).2⟩,pW hs hk r b (o+5) h1 h2 h5⟩
end
theorem fu.next{A:Nat→Prop}{W W':World}{x:Nd}{v:Value}(h:fu A W x v)(a:Below W.heap.size W W'):fu A W' x v:=eD a.size (fun b c d=>⟨c,a.block b d⟩) x v h
def fm(A:Nat→Prop)(W:World):List Nd→List Value→Prop
 |[],xs=>xs=[]
 |x::r,xs=>∃a c b n d rest,xs=eH x.kind x.place x.text (.slice a x.attrs.length c) (.slice b n d)++rest∧fu A W x (wZ x.kind x.place x.text (.slice a x.attrs.length c) (.slice b n d))∧fm A W r rest
theorem fm.map{A A':Nat→Prop}{W W':World}(h:∀x v,fu A W x v→fu A' W' x v):∀{l:List Nd} {xs:List Value},fm A W l xs→fm A' W' l xs
 |[],_,e=>e
 |x::r,xs,⟨a,c,b,n,d,rest,e,i,j⟩=>⟨a,c,b,n,d,rest,e,h _ _ i,fm.map h j⟩
theorem fm.snoc{A:Nat→Prop}{W:World}{y:Nd}{a b:Option Addr}{c n d:Nat}(e:fu A W y (wZ y.kind y.place y.text (.slice a y.attrs.length c) (.slice b n d))):∀{l:List Nd} {xs:List Value},fm A W l xs→fm A W (l++[y]) (xs++eH y.kind y.place y.text (.slice a y.attrs.length c) (.slice b n d))
 |[],xs,h=>by obtain rfl:xs=[]:=h;exact⟨a,c,b,n,d,[],by simp,e,rfl⟩
 |x::r,xs,⟨a1,i,b1,n1,d1,rest,j,k,m⟩=>⟨a1,i,b1,n1,d1,rest++eH y.kind y.place y.text (.slice a y.attrs.length c) (.slice b n d),by rw[j,jl],k,fm.snoc e m⟩
theorem fm.at{A:Nat→Prop}{W:World}:∀{l:List Nd} {xs:List Value} {b o:Nat},fm A W l xs→eI W b o xs→qx A W l b o
 |[],_,_,_,_,_=>Og
 |x::r,xs,b,o,⟨a1,i,b1,n1,d1,rest,d,e,h⟩,c=>by
  subst d;rw[tN];refine⟨⟨_,e,fun j v a=>c j v ?_⟩,fm.at h (fun j v a=> ?_)⟩
  ·rw[qC (cH.1 a).1];exact a
  ·have:=c (5+j) v (by rw[jL (by simp)];simpa using a);rw[show o+5+j=o+(5+j) by omega];exact this
theorem Ab{A:Nat→Prop}{W:World}{base:Nat}{T:TypeId}{done:List Nd}{v:Value}{xs:List Value}(c:W.ownsRow base T 5 v done.length xs)(l:fm A W done xs)(h:∀z,v.ownBlock=some z→A z):fC A W done v:=by
 rcases c.2 with⟨a,b⟩|⟨g,cap,n,a,b,d,e,o,p,q⟩
 ·exact .inl ⟨jn b,none,0,a⟩
 ·have k:=c.cells (g:=g) (by rw[a];rfl);refine .inr ⟨g,0,cap,a,e,h g (by rw[a];rfl),(aB.1 d).1,l.at (fun j v m=> ?_)⟩;have i:(⟨g,0,none⟩:Addr).add j=⟨g,0+j,none⟩:=by unfold Addr.add;split<;>simp_all
  rw[←i];exact k j v m
def gy(A:Nat→Prop)(W:World)(base:Nat):List Nd→List Value→List Value→Prop
 |[],b,d=>b=[]∧d=[]
 |x::r,b,d=>∃a c kv e rest xs,b=kv::e∧d=eH x.kind x.place x.text (.slice a x.attrs.length c) kv++rest∧aP A W x.attrs (.slice a x.attrs.length c)∧W.ownsRow base 45 5 kv x.kids.length xs∧fm A W x.kids xs∧gy A W base r e rest
theorem gy.len{A:Nat→Prop}{W:World}{base:Nat}:∀{l:List Nd} {e h:List Value},gy A W base l e h→e.length=l.length∧h.length=l.length*5
 |[],_,_,⟨b,d⟩=>by subst b;subst d;exact⟨rfl,rfl⟩
 |x::r,_,_,⟨a,c,kv,j,rest,xs,b,d,_,_,_,i⟩=>by subst b;subst d;have:=gy.len i;refine⟨by simp[this.1], ?_⟩;rw[bB,this.2,bF];simp;omega
theorem gy.snoc{A:Nat→Prop}{W:World}{base:Nat}{y:Nd}{a:Option Addr}{c:Nat}{kv:Value}{xs:List Value}(e:aP A W y.attrs (.slice a y.attrs.length c))(i:W.ownsRow base 45 5 kv y.kids.length xs)(j:fm A W y.kids xs):
 ∀{l:List Nd} {k m:List Value},gy A W base l k m→gy A W base (l++[y]) (k++[kv]) (m++eH y.kind y.place y.text (.slice a y.attrs.length c) kv)
 |[],_,_,⟨b,d⟩=>by subst b;subst d;exact⟨a,c,kv,[],[],xs,rfl,by simp,e,i,j,rfl,rfl⟩
 |x::r,_,_,⟨a1,n,t,s,rest,u,b,d,o,p,q,h⟩=>by subst b;subst d;exact⟨a1,n,t,s++[kv],_,u,rfl,by rw[jl],o,p,q,gy.snoc e i j h⟩
theorem gy.last{A:Nat→Prop}{W:World}{base:Nat}{y:Nd}:∀{l:List Nd} {d e:List Value},gy A W base (l++[y]) d e→
 ∃a c kv xs b i,d=b++[kv]∧e=i++eH y.kind y.place y.text (.slice a y.attrs.length c) kv∧aP A W y.attrs (.slice a y.attrs.length c)∧W.ownsRow base 45 5 kv y.kids.length xs∧fm A W y.kids xs∧gy A W base l b i
 |[],d,e,⟨a,c,kv,D,rest,xs,j,k,m,n,o,B,C⟩=>by subst j;subst k;subst B;subst C;exact⟨a,c,kv,xs,[],[],rfl,by simp,m,n,o,rfl,rfl⟩
 |x::r,d,e,⟨a,c,kv,D,rest,xs,j,k,m,n,o,h⟩=>by obtain⟨a1,p,E,F,b,i,q,s,t,u,w,z⟩:=gy.last (l:=r) h;subst j;subst k;subst q;subst s;exact⟨a1,p,E,F,kv::b,_,rfl,by rw[jl],t,u,w,a,c,kv,b,i,xs,rfl,rfl,m,n,o,z⟩
def bM(l:List Value):List Nat:=l.filterMap Value.ownBlock
theorem gy.cO{A A':Nat→Prop}{W W':World}{base:Nat}(m:W.heap.size≤W'.heap.size)(k:∀b,A b→b<W.heap.size→A' b∧W'.heap[b]? =W.heap[b]?):
 ∀{l:List Nd} {n p:List Value},gy A W base l n p→(∀b,b∈bM n→W'.heap[b]? =W.heap[b]?)→gy A' W' base l n p
 |[],_,_,h,_=>h
 |x::r,_,_,⟨a,c,kv,z,rest,xs,s,d,t,i,u,h⟩,o=>by
  subst s;subst d;refine⟨a,c,kv,z,rest,xs,rfl,rfl,t.cO m k, ?_,u.map fun x v h=>eD m k x v h,gy.cO m k h fun b j=>o b ?_⟩
  ·rcases i.2 with⟨e,d⟩|⟨g,cap,q,e,B,C,D⟩
   ·exact⟨i.1,.inl ⟨e,d⟩⟩
   ·refine⟨i.1,.inr ⟨g,cap,q,e,B, ?_,D⟩⟩;rw[o g (by subst e;simp[bM,Value.ownBlock])];exact C
  ·unfold bM at j⊢;rw[zO] at j⊢;obtain⟨v,w,y⟩:=j;exact⟨v,bY _ w,y⟩
structure KB where
 lo:Nat
 mb:Nat
 ob:Obj
def PL(lo:KB)(M:List Nat)(b:Nat):Prop:=lo.lo≤b∧b∉M
def Wd(W:World)(pb:Nat)(ov:Value)(place e:Int):Prop:=W.heap[pb]? =some (.cells #[ov,.int .i64 place,.int .i64 e] 74)
structure PK (lo:KB) (w0 W:World) (pb:Nat) (ov:Value) (st:List Nd) (kvs ys:List Value) (place e:Int):Prop where
 up:Below w0.heap.size w0 W
 box:Wd W pb ov place e
 own:W.ownsRow w0.heap.size 45 5 ov st.length ys
 Ge:gy (PL lo (pb::bM (ov::kvs))) W w0.heap.size st kvs ys
 vW:(pb::bM (ov::kvs)).Nodup
 far:w0.heap.size≤pb
 Tn:lo.lo≤w0.heap.size
 mp:PL lo (pb::bM (ov::kvs)) lo.mb∧W.heap[lo.mb]? =some lo.ob
section
variable{lo:KB}{w0 W W':World}{pb:Nat}{ov:Value}{st:List Nd}{kvs ys:List Value}{place e:Int}
theorem PK.next(H:PK lo w0 W pb ov st kvs ys place e)(a:Below W.heap.size W W'):PK lo w0 W' pb ov st kvs ys place e:=
 ⟨H.up.trans (a.mono H.up.size),(a.block _ (aB.1 H.box).1).trans H.box,cp H.own a,
  H.Ge.cO a.size (fun b d h=>⟨d,a.block b h⟩) (fun b c=>a.block b (by unfold bM at c;rw[zO] at c;obtain⟨v,i,j⟩:=c;exact qY H.Ge v i b j)),H.vW,H.far,H.Tn,H.mp.1,(a.block _ (aB.1 H.mp.2).1).trans H.mp.2⟩
where
 qY {A:Nat→Prop} {base:Nat}:∀{l:List Nd} {kvs ys:List Value},gy A W base l kvs ys→∀v∈kvs,∀b,v.ownBlock=some b→b<W.heap.size
  |[],_,_,⟨h1,_⟩,v,hv,_,_=>by subst h1;cases hv
  |x::r,_,_,⟨a,c,kv,kr,rest,xs,e1,e2,g1,g2,g3,h⟩,v,hv,b,hb=>by
   subst e1;rcases bL.1 hv with rfl|hv
   ·exact(g2.lt b hb).2
   ·exact qY h v hv b hb
theorem PK.lt(H:PK lo w0 W pb ov st kvs ys place e):pb<W.heap.size:=(aB.1 H.box).1
theorem PK.slice(H:PK lo w0 W pb ov st kvs ys place e)(k:st≠[]):∃g cap,ov=.slice (some ⟨g,0,none⟩) st.length cap∧g≠pb∧g<W.heap.size∧w0.heap.size≤g∧st.length≤cap∧eI W g 0 ys:=by
 rcases H.own.2 with⟨a,b⟩|⟨g,cap,m,a,b,c,d,n,o,p⟩
 ·exact absurd (jn b) k
 ·have i:=H.own.cells (g:=g) (by rw[a];rfl);refine⟨g,cap,a, ?_,(aB.1 c).1,b,d,fun j v l=> ?_⟩
  ·have:=H.vW;rw[a] at this;intro e;subst e;simp[bM,Value.ownBlock] at this
  ·have h:(⟨g,0,none⟩:Addr).add j=⟨g,0+j,none⟩:=by unfold Addr.add;split<;>simp_all
   rw[←h];exact i j v l
end
structure Xh (W:World) (pb:Nat) (ov:Value) (place e:Int):Prop where
 c0:W.cell? ⟨pb,0,none⟩=some ov
 c1:W.cell? ⟨pb,1,none⟩=some (.int .i64 place)
 c2:W.cell? ⟨pb,2,none⟩=some (.int .i64 e)
 f0:W.frozen? ⟨pb,0,none⟩=false
 f1:W.frozen? ⟨pb,1,none⟩=false
 f2:W.frozen? ⟨pb,2,none⟩=false
theorem Wd.c{W:World}{pb:Nat}{ov:Value}{place e:Int}(x:Wd W pb ov place e):Xh W pb ov place e:=
 ⟨aj 0 x,aj 1 x,aj 2 x,aF _ _ 0 _ _ x,aF _ _ 1 _ _ x,aF _ _ 2 _ _ x⟩
section
variable{lo:KB}{w0 W W':World}{pb:Nat}{ov:Value}{st:List Nd}{kvs ys:List Value}{place e:Int}
theorem Ky{a:Nat}{l:List Nat}(h:(a::l).Nodup):a∉l:=(lI.1 h).1
theorem PK.mark(H:PK lo w0 W pb ov st kvs ys place e)(q c:Int):PK lo w0 ((W.setCell ⟨pb,1,none⟩ (.int .i64 q)).setCell ⟨pb,2,none⟩ (.int .i64 c)) pb ov st kvs ys q c:=by
 have d:ak pb W ((W.setCell ⟨pb,1,none⟩ (.int .i64 q)).setCell ⟨pb,2,none⟩ (.int .i64 c)):=((ak.refl pb W).set (j:=1) (v:=.int .i64 q)).set (j:=2) (v:=.int .i64 c);have l:=Ky H.vW;have k:∀b,b≠pb→b<W.heap.size→((W.setCell ⟨pb,1,none⟩ (.int .i64 q)).setCell ⟨pb,2,none⟩ (.int .i64 c)).heap[b]? =W.heap[b]? :=fun b a h=>d.block b h (by intro e;cases e;exact a rfl);refine⟨H.up.trans (d.below H.far H.up.size),aw (j:=2) (aw (j:=1) H.box),H.own.kept d (.inr fun e=>l ?_),H.Ge.cO d.size (fun b a h=>⟨a,k b (fun e=>a.2 (by rw[e];exact eF)) h⟩) (fun b i=> ?_),H.vW,H.far,H.Tn,H.mp.1,(k _ (fun e=>H.mp.1.2 (by rw[e];exact eF)) (aB.1 H.mp.2).1).trans H.mp.2⟩
 ·unfold bM;rw[zO];exact⟨ov,eF,e⟩
 ·unfold bM at i;rw[zO] at i;obtain⟨v,m,n⟩:=i;refine k b (fun e=>l ?_) (PK.next.qY H.Ge v m b n);subst e;unfold bM;rw[zO];exact⟨v,bY _ m,n⟩
theorem Nf(H:PK lo w0 W pb ov st kvs ys place e)(q c:Int):
 Calls Tryz.prog 77 #[.pointer (some ⟨pb,0,none⟩),.int .i64 q,.int .i64 c] W fun h w'=>h=.returned (.tuple #[])∧PK lo w0 w' pb ov st kvs ys (if e=0 then q else place) (if e=0 then c else e)∧ak pb W w':=by
 obtain⟨i,k,l,m,n,o⟩:=H.box.c;have b:=ad H;by_cases a:e=0
 ·subst a;have d:=ad (And.intro (H.mark q c) (((ak.refl pb W).set (j:=1) (v:=.int .i64 q)).set (j:=2) (v:=.int .i64 c)));rw[ah rfl,ah rfl];clear H;go_enter Tryz.func77,Tryz.ntmps77;go_wp2_with fail
  go_end0
  exact⟨rfl,d.out⟩
 ·rw[ae a,ae a];have p:(e==0)=false:=by rw[aL];exact a
  clear H a;go_enter Tryz.func77,Tryz.ntmps77;go_wp2_with fail
  go_end0
  exact⟨rfl,b.out,ak.refl pb W⟩
theorem pX(H:PK lo w0 W pb ov st kvs ys place e){g n cap:Nat}(a:ov=.slice (some ⟨g,0,none⟩) (n+1) cap)(l:n≤1000):
 Calls Tryz.prog 74 #[.pointer (some ⟨pb,0,none⟩)] W (cN W (.pointer (some ⟨g,n*5,none⟩))):=by
 subst a;obtain⟨b,d,h,i,j,k⟩:=H.box.c;have m:(0:Int)≤(n:Int):=by omega
 have o:(n:Int)<(n:Int)+1:=by omega
 have p:(n:Int)+1-1=(n:Int):=by omega
 clear H;go_enter Tryz.func74,Tryz.ntmps74;go_wp2_with fail
 go_quiet (fail)
 go_wp2_with fail;go_ret;exact⟨rfl,ax _ _⟩
structure Wk (lo:KB) (w0 W:World) (pb:Nat) (M:List Nat) (g n:Nat) (y:Nd) (a:Option Addr) (c:Nat) (kv:Value) (xs:List Value):Prop where
 c0:W.cell? ⟨g,n*5,none⟩=some (.int .i64 y.kind)
 c1:W.cell? ⟨g,n*5+1,none⟩=some (.int .i64 y.place)
 c2:W.cell? ⟨g,n*5+2,none⟩=some (.string ⟨y.text.toArray⟩)
 c3:W.cell? ⟨g,n*5+3,none⟩=some (.slice a y.attrs.length c)
 c4:W.cell? ⟨g,n*5+4,none⟩=some kv
 at_:aP (PL lo M) W y.attrs (.slice a y.attrs.length c)
 own:W.ownsRow w0.heap.size 45 5 kv y.kids.length xs
 row:fm (PL lo M) W y.kids xs
theorem PK.oM{l:List Nd}{y:Nd}(H:PK lo w0 W pb ov (l++[y]) kvs ys place e):∃g cap a c kv xs h d,ov=.slice (some ⟨g,0,none⟩) (l.length+1) cap∧kvs=h++[kv]∧ys=d++eH y.kind y.place y.text (.slice a y.attrs.length c) kv∧d.length=l.length*5∧
 Wk lo w0 W pb (pb::bM (ov::kvs)) g l.length y a c kv xs∧gy (PL lo (pb::bM (ov::kvs))) W w0.heap.size l h d∧g<W.heap.size:=by
 obtain⟨g,cap,r,w,s,x,z,t⟩:=H.slice (by simp);obtain⟨a,c,kv,xs,h,d,n,k,o,p,q,m⟩:=H.Ge.last;have i:=m.len.2;have b:∀(j:Nat) (v:Value),(eH y.kind y.place y.text (.slice a y.attrs.length c) kv)[j]? =some v→W.cell? ⟨g,l.length*5+j,none⟩=some v:=fun j v u=>by have:=t (l.length*5+j) v (by rw[k,jL (by rw[i];omega),i,zQ];exact u);rw[dH] at this;exact this
 refine⟨g,cap,a,c,kv,xs,h,d,by rw[r];simp,n,k,i,⟨b 0 _ rfl,b 1 _ rfl,b 2 _ rfl,b 3 _ rfl,b 4 _ rfl,o,p,q⟩,m,s⟩
theorem mK{W:World}{base:Nat}{T:TypeId}{size n:Nat}{v:Value}{xs:List Value}(h:W.ownsRow base T size v n xs):∃a c,v=.slice a n c∧(n≠0→∃g,a=some ⟨g,0,none⟩∧g<W.heap.size∧n≤c∧eI W g 0 xs):=by
 rcases h.2 with⟨b,d⟩|⟨g,cap,p,b,d,e,i,q⟩
 ·exact⟨none,0,by rw[d];exact b,fun m=>absurd d m⟩
 ·have l:=h.cells (g:=g) (by rw[b];rfl);refine⟨_,_,b,fun _=>⟨g,rfl,(aB.1 e).1,i,fun j v o=> ?_⟩⟩;have k:(⟨g,0,none⟩:Addr).add j=⟨g,0+j,none⟩:=by unfold Addr.add;split<;>simp_all
  rw[←k];exact l j v o
theorem fm.Dl{A:Nat→Prop}{W:World}{z:Nd}:∀{l:List Nd} {xs:List Value},fm A W (l++[z]) xs→xs[l.length*5]? =some (.int .i64 z.kind)
 |[],xs,⟨a,c,b,n,d,rest,e,_,_⟩=>by rw[e];rfl
 |x::r,xs,⟨a,c,b,n,d,rest,e,_,h⟩=>by have:=fm.Dl (l:=r) h;rw[e,jL (by rw[bF];simp;omega),←this];congr 1;rw[bF];simp;omega
theorem Dm{l:List Nd}{y:Nd}(H:PK lo w0 W pb ov (l++[y]) kvs ys place e)(E:l.length≤1000)(K:y.kids.length≤10000000):
 Calls Tryz.prog 81 #[.pointer (some ⟨pb,0,none⟩)] W (cN W (.int .i64 (fo y))):=by
 obtain⟨g,cap,a,c,kv,xs,R,T,q,u,w,M,F,B,n⟩:=H.oM;have s:=ad (pX H q E);have j:=ad (And.intro F n);clear H;obtain⟨ka,kc,rfl,o⟩:=mK F.own;rcases List.eq_nil_or_concat y.kids with b|⟨r,z,b⟩
 ·have h:fo y=0:=by unfold fo;rw[b];rfl
  rw[h];have i:y.kids.length=0:=by rw[b];rfl
  have k:=ad i;clear o h b u w q B F n;go_enter Tryz.func81,Tryz.ntmps81;go_upto_region 1 with fail;go_wp2_with fail;refine s.out.mono ?_;rintro D J⟨rfl,d⟩;have m:=(d.cell (p:=⟨g,l.length*5+4,none⟩) j.out.2).trans j.out.1.c4;rw[k.out] at m;clear i;go_wp2_with fail;go_ret;exact⟨rfl,d⟩
 ·rw[List.concat_eq_append] at b;have h:fo y=z.kind:=by unfold fo;rw[b];simp
  rw[h];have i:y.kids.length=r.length+1:=by rw[b];simp
  obtain⟨I,rfl,A,L,x⟩:=o (by omega);have C:=fm.Dl (z:=z) (l:=r) (by rw[←b];exact F.row);have t:=ad (And.intro (x _ _ C) A);have k:=ad i;have O:(r.length:Int)+1≤10000000:=by omega
  have N:(0:Int)≤(r.length:Int):=by omega
  have Q:(r.length:Int)+1-1=(r.length:Int):=by omega
  have S:((r.length:Int)+1==0)=false:=by rw[aL];omega
  clear h b u w q B F n C x A o;go_enter Tryz.func81,Tryz.ntmps81;go_upto_region 1 with fail;go_wp2_with fail;refine s.out.mono ?_;rintro D J⟨rfl,d⟩;have m:=(d.cell (p:=⟨g,l.length*5+4,none⟩) j.out.2).trans j.out.1.c4;have G:=(d.cell (p:=⟨I,0+r.length*5,none⟩) t.out.2).trans t.out.1;rw[dH] at G;rw[k.out] at m;clear i;go_wp2_with fail;go_ret;exact⟨rfl,d⟩
end
