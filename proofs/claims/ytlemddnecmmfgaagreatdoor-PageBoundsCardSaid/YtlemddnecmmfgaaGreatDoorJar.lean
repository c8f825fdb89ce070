/- The walk of a comparison. -/
import Derived.Test.YtlemddnecmmfgaaGreatDoorJaq
set_option linter.unusedVariables false
set_option maxRecDepth 100000
set_option maxHeartbeats 4000000
namespace Go.Proofs.YtlemddnecmmfgaaGreatDoor
open Go.RowKit
variable{a:Array aaL}{b z:Bs}{y:Int}{d u B E:Nat}{j:Nat→Prop}{r:Option Addr}{l:aaK}
def cG.map(f:Ex→Ex):cG→cG
 |.aq x t=>.aq (f x) t
 |.ay p e=>.ay p e
theorem gP.op{W:aaK}{p:Nat}{s:Bs}{op:Nat}{A:Nat→Prop}{g:cG}{v:aaL}(h:gP W p s op A g v)(k:¬A p)(n:Nat):gP (W.setCell ⟨p,2,none⟩ (.int .i64 (n:Int))) p s n A g v:=by
 have j:ak p W (W.setCell ⟨p,2,none⟩ (.int .i64 (n:Int))):=(ak.refl p W).set;cases g with
 |aq x t=>obtain⟨⟨q,a,b,c,d⟩,i⟩:=h;exact⟨⟨q,a,b,c,d.Dz n⟩,i.aN j k⟩
 |ay q e=>exact⟨h.1,h.2.1,h.2.2.1.Dz n,h.2.2.2⟩
theorem gP.next{W W':aaK}{p:Nat}{s:Bs}{op:Nat}{A:Nat→Prop}{g:cG}{v:aaL}(h:gP W p s op A g v)(a:Below W.heap.size W W'):gP W' p s op A g v:=by
 cases g with
 |aq x t=>obtain⟨⟨q,b,c,d,i⟩,j⟩:=h;exact⟨⟨q,b,c,d,i.next a⟩,j.next a⟩
 |ay q e=>exact⟨h.1,h.2.1,h.2.2.1.next a,h.2.2.2⟩
theorem gP.one{g:cG}{u1:bc}(k:Int)(h:gP l d b u j g (dY y z u1 (.slice r B E)))(F:j l.heap.size):
 gP (l.alloc (.cells (dC y z u1 (.slice r B E)).toArray 171)) d b u j (g.map (ry k)) (dY k [] aC (.slice (some ⟨l.heap.size,0,none⟩) 1 1)):=by
 have i:=(ar l.heap.size l).alloc (ag _) (.cells (dC y z u1 (.slice r B E)).toArray 171);cases g with
 |aq x t=>obtain⟨⟨q,m,o,w,C⟩,D⟩:=h;exact⟨⟨q,m,o,w,C.next i⟩,PI k D F⟩
 |ay q e=>exact⟨h.1,h.2.1,h.2.2.1.next i,⟨k,[],aC,_,_,_,rfl⟩⟩
theorem gP.cell{p:Nat}{g:cG}{v:aaL}(h:gP l p b d j g v):∃i bad,PB l p b i d bad:=by
 cases g with
 |aq x t=>obtain⟨⟨q,c,k,m,a⟩,n⟩:=h;exact⟨_,_,a⟩
 |ay q e=>exact⟨_,_,h.2.2.1⟩
theorem J5{k i:Nat}(h:Lib.hasPrefix (rs b i) [33]=false):je b k i=Cu b k i:=by rw[wC];unfold uf;rw[h];rfl
theorem Ze(h:Lib.hasPrefix (rs b d) [33]=true):je b 0 d=.ay (pa b d) 3:=by rw[wC];unfold uf;rw[h];rfl
theorem PU{k i:Nat}(h:Lib.hasPrefix (rs b i) [33]=true):je b (k+1) i=(je b k (pa b i+1)).map (ry 3):=by rw[wC];unfold uf;rw[h];show(match je b k (pa b i+1) with|.ay p e=>cG.ay p e|.aq x t=>cG.aq (ry 3 x) t)=_;cases je b k (pa b i+1)<;>rfl
theorem J6(h:u≤b.length):Cu b d (pa b u)=Cu b d u:=by unfold Cu zA qL;rw[pJ b h,fL b h]
theorem ba{fn:Func}{b c:Nat}{v0 v1 v2 d e i j k m n:aaL}(h:fn.results=#[.cell c 171])(p:a.getD c undef=.pointer (some ⟨b,0,none⟩))(o:l.heap[b]? =some (.cells #[v0,v1,v2,d,e,i,j,k,m,n] 171)):
 (results fn a).run Tryz.prog l=.ok (.agg #[v0,v1,v2,d,e,i,j,k,m,n]) l:=by
 obtain⟨r,s,t,u,w,x,y,z,A,B⟩:=aR o;have q:a[c]?.getD undef=.pointer (some ⟨b,0,none⟩):=by rw[←p];simp
 simp[results,h,go_sem,q,r,s,t,u,w,x,y,z,A,B]
theorem Fj(h:a.size=10):∃v0 v1 v2 b c d e i j k,a=#[v0,v1,v2,b,c,d,e,i,j,k]:=by
 obtain⟨l⟩:=a
 match l,h with
 |[v0,v1,v2,b,c,d,e,i,j,k],_=>exact⟨v0,v1,v2,b,c,d,e,i,j,k,rfl⟩
theorem J7{W0 j a:aaK}{g:cG}{u9:bc}(H:Below l.heap.size l W0)(K:∃c,W0.heap[l.heap.size]? =some (.cells c 171)∧c.size=10)(x:ak d W0 a)(C:d<l.heap.size)(I:l.heap.size<j.heap.size)(J:j.heap.size≤a.heap.size)
 (O:gP a d b (u+1) (du j.heap.size) g (dY y z u9 (.slice r B E))):
 ∃m,m=(a.alloc (.cells (dC y z u9 (.slice r B E)).toArray 171)).alloc (.cells (dC 3 [] aC (.slice (some ⟨a.heap.size,0,none⟩) 1 1)).toArray 171)∧(∃i bad,PB m d b i (u+1) bad)∧m.heap[a.heap.size+1]? =some (.cells (dC 3 [] aC (.slice (some ⟨a.heap.size,0,none⟩) 1 1)).toArray 171)∧
  ∃k,k=m.setCell ⟨d,2,none⟩ (.int .i64 (u:Int))∧k.heap[a.heap.size+1]? =some (.cells (dC 3 [] aC (.slice (some ⟨a.heap.size,0,none⟩) 1 1)).toArray 171)∧(∃c,k.heap[l.heap.size]? =some (.cells c 171)∧c.size=10)∧
   ak d l (dO k l.heap.size 3 [] aC (.slice (some ⟨a.heap.size,0,none⟩) 1 1))∧gP (dO k l.heap.size 3 [] aC (.slice (some ⟨a.heap.size,0,none⟩) 1 1)) d b u (du l.heap.size) (g.map (ry 3)) (dY 3 [] aC (.slice (some ⟨a.heap.size,0,none⟩) 1 1)):=by
 have o:Below a.heap.size a (a.alloc (.cells (dC y z u9 (.slice r B E)).toArray 171)):=(ar _ _).alloc (ag _) _;have q:Below a.heap.size a ((a.alloc (.cells (dC y z u9 (.slice r B E)).toArray 171)).alloc (.cells (dC 3 [] aC (.slice (some ⟨a.heap.size,0,none⟩) 1 1)).toArray 171)):=o.alloc o.size _;have D:=(gP.one 3 O (show du j.heap.size a.heap.size from J)).next (W':=(a.alloc (.cells (dC y z u9 (.slice r B E)).toArray 171)).alloc (.cells (dC 3 [] aC (.slice (some ⟨a.heap.size,0,none⟩) 1 1)).toArray 171)) ((ar _ _).alloc (ag _) _)
 have n:=au (a.alloc (.cells (dC y z u9 (.slice r B E)).toArray 171)) (.cells (dC 3 [] aC (.slice (some ⟨a.heap.size,0,none⟩) 1 1)).toArray 171);rw[aO] at n;have N:¬du j.heap.size d:=fun h=>by have:j.heap.size≤d:=h;omega
 have Q:=D.op N u;obtain⟨c,M,R⟩:=K;have F:=bu M (x.t (ak.ai q)) C;have L:ak d l (((a.alloc (.cells (dC y z u9 (.slice r B E)).toArray 171)).alloc (.cells (dC 3 [] aC (.slice (some ⟨a.heap.size,0,none⟩) 1 1)).toArray 171)).setCell ⟨d,2,none⟩ (.int .i64 (u:Int))):=((ak.ai H).t (x.t (ak.ai q))).set;have G:ak d ((a.alloc (.cells (dC y z u9 (.slice r B E)).toArray 171)).alloc (.cells (dC 3 [] aC (.slice (some ⟨a.heap.size,0,none⟩) 1 1)).toArray 171)) (((a.alloc (.cells (dC y z u9 (.slice r B E)).toArray 171)).alloc (.cells (dC 3 [] aC (.slice (some ⟨a.heap.size,0,none⟩) 1 1)).toArray 171)).setCell ⟨d,2,none⟩ (.int .i64 (u:Int))):=(ak.refl _ _).set;have A:=gq L C I Q;exact⟨_,rfl,D.cell,n,_,rfl,(G.block _ (aB.1 n).1 (by intro e;cases e;omega)).t n,⟨c,(G.block _ (aB.1 F).1 (by intro e;cases e;omega)).t F,R⟩,A.1,A.2⟩
theorem UU(w:aaK)(p:Nat)(s:Bs)(i op k:Nat)(d:i≤s.length)(hs:s.length≤100000)(br:op+(k+1)=16)(hC:XE 211 #[.pointer (some ⟨p,0,none⟩)] p s op (Cu s (k+1)) (GP p))
 (hN:XE 175 #[.pointer (some ⟨p,0,none⟩)] p s (op+1) (je s k) (GP p))(a0:GP p w)(h:PB w p s i op 0):
 Calls Tryz.prog 175 #[.pointer (some ⟨p,0,none⟩)] w fun e w'=>∃v,e=.returned v∧ak p w w'∧Hid (gP w' p s op (du w.heap.size) (je s (k+1) i) v):=by
 have J:=ad h.lt;have HB:=ad (show PB (w.alloc (.cells #[.int .i64 0,.string ⟨#[]⟩,.int .i64 0,.int .i64 0,.string ⟨#[]⟩,.string ⟨#[]⟩,.string ⟨#[]⟩,.bool false,.bool false,.slice none 0 0] 171)) p s i op 0 from h.next ((ar _ _).alloc (ag _) _));have x:=ad (show Below w.heap.size w (w.alloc (.cells #[.int .i64 0,.string ⟨#[]⟩,.int .i64 0,.int .i64 0,.string ⟨#[]⟩,.string ⟨#[]⟩,.string ⟨#[]⟩,.bool false,.bool false,.slice none 0 0] 171)) from(ar _ _).alloc (ag _) _);have ao:=ad (au w (.cells #[.int .i64 0,.string ⟨#[]⟩,.int .i64 0,.int .i64 0,.string ⟨#[]⟩,.string ⟨#[]⟩,.string ⟨#[]⟩,.bool false,.bool false,.slice none 0 0] 171));have ap:=ad (show(w.alloc (.cells #[.int .i64 0,.string ⟨#[]⟩,.int .i64 0,.int .i64 0,.string ⟨#[]⟩,.string ⟨#[]⟩,.string ⟨#[]⟩,.bool false,.bool false,.slice none 0 0] 171)).heap.size=w.heap.size+1 by rw[aO]);have bd:=ad hN;have bb:=ad hC;clear h hN hC;go_enter Tryz.func175,Tryz.ntmps175;go_wp2_with fail;generalize w.alloc (.cells #[.int .i64 0,.string ⟨#[]⟩,.int .i64 0,.int .i64 0,.string ⟨#[]⟩,.string ⟨#[]⟩,.string ⟨#[]⟩,.bool false,.bool false,.slice none 0 0] 171)=W0 at*;refine(dF W0 p s i op d hs HB.o).m ?_;rintro e F⟨rfl,aq,a4⟩;have al:=ad aq;have y:=ad a4;clear aq a4;go_wp2_with fail;refine(cj ⟨(rs s i).toArray⟩ ⟨#[33]⟩ F).m ?_;rintro e w2⟨rfl,rfl⟩;rw[show Lib.hasPrefix (⟨(rs s i).toArray⟩:aaM).data.toList (⟨#[33]⟩:aaM).data.toList=Lib.hasPrefix (rs s i) [33] from rfl];cases l:Lib.hasPrefix (rs s i) [33]
 ·have H:=ad (J5 (k:=k+1) l);clear l;go_wp2_with fail;refine(bb.o F (pa s i) (cY s i) ((a0.aN (ak.ai x.o)).aN y.o) al.o).m ?_;rintro e r⟨v,rfl,q,ab⟩;obtain⟨C,E,u9,z,D,A,rfl⟩:=ab.F4;have c:=ad (y.o.t q);have I:=ad (bu ao.o c.o J.o);have HE:=ad (gq ((ak.ai x.o).t c.o) J.o (by have h1:=ap.o;have h2:=y.o.size;omega:w.heap.size<F.heap.size) ab);have K:=ad (aK (k:=C) (t:=E) (u:=u9) (kv:=.slice z D A) I.o);obtain⟨M,N,n,O,Q,R,S,T,V,X⟩:=aJ I.o;obtain⟨Y,Z,g2,g3,g4,g5,g6,g7,g8,g9⟩:=aR I.o;clear q ab;go_wp2_with fail;clear M N n O Q R S T V X Y Z g2 g3 g4 g5 g6 g7 g8 g9;obtain⟨y0,y1,y2,y3,y4,y5,y6,y7,y8,y9⟩:=aM K.o;refine aD (v:=dY C E u9 (.slice z D A)) ?_ rfl ⟨_,rfl,HE.o.1,ad (by rw[H.o,←J6 d];exact HE.o.2)⟩;simp[results,Tryz.f175,go_sem,y0,y1,y2,y3,y4,y5,y6,y7,y8,y9]
 ·have H:=ad (PU (k:=k) l);have a2:=nR d l;simp only[mF] at a2;have HP:=ad l;clear l;go_wp2_with fail;refine(fM F p s (pa s i) op [33] (cY s i) hs (by decide) al.o).m ?_;rintro e w2⟨rfl,aa,a5⟩;rw[fL s d,HP.o,pJ s d] at aa;rw[fL s d,HP.o];have a8:=ad (show PB w2 p s (pa s i+1) op 0 from aa);have bk:=ad (y.o.t a5);clear aa a5;go_wp2_with fail;refine(tf w2 p s (pa s i+1) op 0 (by omega) a8.o).m ?_;rintro e r⟨rfl,av,q⟩;have am:=ad av;have c:=ad (bk.o.t q);clear av q;go_wp2_with fail;refine(bd.o r (pa s i+1) a2 ((a0.aN (ak.ai x.o)).aN c.o) am.o).m ?_;rintro e a⟨v,rfl,af,ac⟩;obtain⟨C,E,u9,z,D,A,rfl⟩:=ac.F4;have bl:=ad (c.o.t af);have be:=ad ac;have bf:=ad (show w.heap.size<r.heap.size by have h1:=ap.o;have h2:=c.o.size;omega);have bg:=ad (show r.heap.size≤a.heap.size from af.size);have bp:=ad (show p<r.heap.size from am.o.lt);clear af ac;have bo:=J7 x.o ⟨_,ao.o,rfl⟩ bl.o J.o bf.o bg.o be.o;obtain⟨W5,a6,⟨j,bad,a1⟩,bn,W6,a7,ay,⟨cs,B,a3⟩,aU⟩:=bo;go_upto_region 4 with fail;generalize hq:(a.alloc (.cells #[.int .i64 C,.string ⟨E.toArray⟩,.int .i64 u9.src,.int .i64 u9.bJ,.string ⟨u9.name.toArray⟩,.string ⟨u9.key.toArray⟩,.string ⟨u9.cK.toArray⟩,.bool u9.hk,.bool u9.hd,.slice z D A] 171)).alloc (.cells #[.int .i64 3,.string ⟨#[]⟩,.int .i64 0,.int .i64 0,.string ⟨#[]⟩,.string ⟨#[]⟩,.string ⟨#[]⟩,.bool false,.bool false,.slice (some ⟨a.heap.size,0,none⟩) 1 1] 171)=W;obtain rfl:W5=W:=a6.t hq;clear hq a6;obtain⟨-,-,L,-,-,-,n,-⟩:=a1.pc;have an:=ad aU;have a9:=ad (show W6.heap[a.heap.size+1]? =some (.cells #[.int .i64 3,.string ⟨#[]⟩,.int .i64 0,.int .i64 0,.string ⟨#[]⟩,.string ⟨#[]⟩,.string ⟨#[]⟩,.bool false,.bool false,.slice (some ⟨a.heap.size,0,none⟩) 1 1] 171) from ay);have G:=ad B;have bi:=ad a3;clear a1 bn ay B a3 aU;go_upto_region 5 with fail;rw[←a7];clear a7 L n;obtain⟨v0,v1,v2,v3,v4,v5,v6,v7,v8,v9,B⟩:∃v0 v1 v2 v3 v4 v5 v6 v7 v8 v9,cs=#[v0,v1,v2,v3,v4,v5,v6,v7,v8,v9]:=Fj bi.o;subst B;obtain⟨c0,c1,L,c3,c4,c5,c6,c7,c8,bm⟩:=aR a9.o;obtain⟨M,N,n,O,Q,R,S,T,V,X⟩:=aJ G.o;obtain⟨Y,Z,g2,g3,g4,g5,g6,g7,g8,g9⟩:=aR G.o;have K:=ad (show(dO W6 w.heap.size 3 [] aC (.slice (some ⟨a.heap.size,0,none⟩) 1 1)).heap[w.heap.size]? =some (.cells #[.int .i64 3,.string ⟨#[]⟩,.int .i64 0,.int .i64 0,.string ⟨#[]⟩,.string ⟨#[]⟩,.string ⟨#[]⟩,.bool false,.bool false,.slice (some ⟨a.heap.size,0,none⟩) 1 1] 171) from aK (k:=3) (t:=[]) (u:=aC) (kv:=.slice (some ⟨a.heap.size,0,none⟩) 1 1) G.o);go_wp2_with fail;clear c0 c1 L c3 c4 c5 c6 c7 c8 bm M N n O Q R S T V X Y Z g2 g3 g4 g5 g6 g7 g8 g9;refine aD (v:=dY 3 [] aC (.slice (some ⟨a.heap.size,0,none⟩) 1 1)) ?_ rfl ⟨_,rfl,an.o.1,ad (by rw[H.o];exact an.o.2)⟩;exact ba (b:=w.heap.size) rfl rfl K.o
theorem SM(w:aaK)(p:Nat)(s:Bs)(i op:Nat)(l:i≤s.length)(hs:s.length≤100000)(a1:op=16)(hC:XE 211 #[.pointer (some ⟨p,0,none⟩)] p s op (Cu s 0) (GP p))
 (hN:iC 175 #[.pointer (some ⟨p,0,none⟩)] p s (GP p))(a0:GP p w)(h:PB w p s i op 0):
 Calls Tryz.prog 175 #[.pointer (some ⟨p,0,none⟩)] w fun e w'=>∃v,e=.returned v∧ak p w w'∧Hid (gP w' p s op (du w.heap.size) (je s 0 i) v):=by
 have J:=ad h.lt;have HB:=ad (show PB (w.alloc (.cells #[.int .i64 0,.string ⟨#[]⟩,.int .i64 0,.int .i64 0,.string ⟨#[]⟩,.string ⟨#[]⟩,.string ⟨#[]⟩,.bool false,.bool false,.slice none 0 0] 171)) p s i op 0 from h.next ((ar _ _).alloc (ag _) _));have C:=ad (show Below w.heap.size w (w.alloc (.cells #[.int .i64 0,.string ⟨#[]⟩,.int .i64 0,.int .i64 0,.string ⟨#[]⟩,.string ⟨#[]⟩,.string ⟨#[]⟩,.bool false,.bool false,.slice none 0 0] 171)) from(ar _ _).alloc (ag _) _);have an:=ad (au w (.cells #[.int .i64 0,.string ⟨#[]⟩,.int .i64 0,.int .i64 0,.string ⟨#[]⟩,.string ⟨#[]⟩,.string ⟨#[]⟩,.bool false,.bool false,.slice none 0 0] 171));have ao:=ad (show(w.alloc (.cells #[.int .i64 0,.string ⟨#[]⟩,.int .i64 0,.int .i64 0,.string ⟨#[]⟩,.string ⟨#[]⟩,.string ⟨#[]⟩,.bool false,.bool false,.slice none 0 0] 171)).heap.size=w.heap.size+1 by rw[aO]);have be:=ad hN;have bd:=ad hC;have bf:=ad a1;have o1:op≤16:=by omega
 clear h hN hC a1;go_enter Tryz.func175,Tryz.ntmps175;go_wp2_with fail;generalize w.alloc (.cells #[.int .i64 0,.string ⟨#[]⟩,.int .i64 0,.int .i64 0,.string ⟨#[]⟩,.string ⟨#[]⟩,.string ⟨#[]⟩,.bool false,.bool false,.slice none 0 0] 171)=W0 at*;refine(dF W0 p s i op l hs HB.o).m ?_;rintro e F⟨rfl,ap,a5⟩;have af:=ad ap;have D:=ad a5;clear ap a5;go_wp2_with fail;refine(cj ⟨(rs s i).toArray⟩ ⟨#[33]⟩ F).m ?_;rintro e w2⟨rfl,rfl⟩;rw[show Lib.hasPrefix (⟨(rs s i).toArray⟩:aaM).data.toList (⟨#[33]⟩:aaM).data.toList=Lib.hasPrefix (rs s i) [33] from rfl];cases n:Lib.hasPrefix (rs s i) [33]
 ·have H:=ad (J5 (k:=0) n);clear n;go_wp2_with fail;refine(bd.o F (pa s i) (cY s i) ((a0.aN (ak.ai C.o)).aN D.o) af.o).m ?_;rintro e c⟨v,rfl,y,ab⟩;obtain⟨z,B,u9,q,A,r,rfl⟩:=ab.F4;have d:=ad (D.o.t y);have I:=ad (bu an.o d.o J.o);have HE:=ad (gq ((ak.ai C.o).t d.o) J.o (by have h1:=ao.o;have h2:=D.o.size;omega:w.heap.size<F.heap.size) ab);have K:=ad (aK (k:=z) (t:=B) (u:=u9) (kv:=.slice q A r) I.o);obtain⟨M,N,x,O,Q,R,S,T,V,X⟩:=aJ I.o;obtain⟨Y,Z,g2,g3,g4,g5,g6,g7,g8,g9⟩:=aR I.o;clear y ab;go_wp2_with fail;clear M N x O Q R S T V X Y Z g2 g3 g4 g5 g6 g7 g8 g9;obtain⟨y0,y1,y2,y3,y4,y5,y6,y7,y8,y9⟩:=aM K.o;refine aD (v:=dY z B u9 (.slice q A r)) ?_ rfl ⟨_,rfl,HE.o.1,ad (by rw[H.o,←J6 l];exact HE.o.2)⟩;simp[results,Tryz.f175,go_sem,y0,y1,y2,y3,y4,y5,y6,y7,y8,y9]
 ·have H:=ad (Ze n);have bs:=nR l n;simp only[mF] at bs;have HP:=ad n;clear n;go_wp2_with fail;refine(fM F p s (pa s i) op [33] (cY s i) hs (by decide) af.o).m ?_;rintro e w2⟨rfl,aa,a6⟩;rw[fL s l,HP.o,pJ s l] at aa;rw[fL s l,HP.o];have a9:=ad (show PB w2 p s (pa s i+1) op 0 from aa);have bm:=ad (D.o.t a6);clear aa a6;go_wp2_with fail;refine(pL w2 p s (pa s i+1) op (by omega) (by omega) bf.o a9.o).m ?_;rintro e c⟨rfl,aq,y⟩;have al:=ad (show PB c p s (pa s i) (op+1) 3 from aq);have d:=ad (bm.o.t y);clear aq y;go_wp2_with fail;refine(be.o c (pa s i) (op+1) 3 (cY s i) (by decide) ((a0.aN (ak.ai C.o)).aN d.o) al.o).m ?_;rintro e a⟨v,rfl,ac,a2,bv⟩;obtain⟨z,B,u9,q,A,r,rfl⟩:=bv;have bn:=ad (d.o.t ac);have bg:=ad (show gP a p s (op+1) (du c.heap.size) (.ay (pa s i) 3) _ from⟨by decide,cY s i,a2,⟨z,B,u9,q,A,r,rfl⟩⟩);have bi:=ad (show w.heap.size<c.heap.size by have h1:=ao.o;have h2:=d.o.size;omega);have bk:=ad (show c.heap.size≤a.heap.size from ac.size);have bx:=ad (show p<c.heap.size from al.o.lt);clear ac a2;have br:=J7 C.o ⟨_,an.o,rfl⟩ bn.o J.o bi.o bk.o bg.o;obtain⟨W5,a7,⟨j,bad,a3⟩,bp,W6,a8,av,⟨cs,E,a4⟩,aU⟩:=br;go_upto_region 4 with fail;generalize hq:(a.alloc (.cells #[.int .i64 z,.string ⟨B.toArray⟩,.int .i64 u9.src,.int .i64 u9.bJ,.string ⟨u9.name.toArray⟩,.string ⟨u9.key.toArray⟩,.string ⟨u9.cK.toArray⟩,.bool u9.hk,.bool u9.hd,.slice q A r] 171)).alloc (.cells #[.int .i64 3,.string ⟨#[]⟩,.int .i64 0,.int .i64 0,.string ⟨#[]⟩,.string ⟨#[]⟩,.string ⟨#[]⟩,.bool false,.bool false,.slice (some ⟨a.heap.size,0,none⟩) 1 1] 171)=W;obtain rfl:W5=W:=a7.t hq;clear hq a7;obtain⟨-,-,L,-,-,-,x,-⟩:=a3.pc;have am:=ad aU;have bb:=ad (show W6.heap[a.heap.size+1]? =some (.cells #[.int .i64 3,.string ⟨#[]⟩,.int .i64 0,.int .i64 0,.string ⟨#[]⟩,.string ⟨#[]⟩,.string ⟨#[]⟩,.bool false,.bool false,.slice (some ⟨a.heap.size,0,none⟩) 1 1] 171) from av);have G:=ad E;have bl:=ad a4;clear a3 bp av E a4 aU;go_upto_region 5 with fail;rw[←a8];clear a8 L x;obtain⟨v0,v1,v2,v3,v4,v5,v6,v7,v8,v9,E⟩:∃v0 v1 v2 v3 v4 v5 v6 v7 v8 v9,cs=#[v0,v1,v2,v3,v4,v5,v6,v7,v8,v9]:=Fj bl.o;subst E;obtain⟨c0,c1,L,c3,c4,c5,c6,c7,c8,bo⟩:=aR bb.o;obtain⟨M,N,x,O,Q,R,S,T,V,X⟩:=aJ G.o;obtain⟨Y,Z,g2,g3,g4,g5,g6,g7,g8,g9⟩:=aR G.o;have K:=ad (show(dO W6 w.heap.size 3 [] aC (.slice (some ⟨a.heap.size,0,none⟩) 1 1)).heap[w.heap.size]? =some (.cells #[.int .i64 3,.string ⟨#[]⟩,.int .i64 0,.int .i64 0,.string ⟨#[]⟩,.string ⟨#[]⟩,.string ⟨#[]⟩,.bool false,.bool false,.slice (some ⟨a.heap.size,0,none⟩) 1 1] 171) from aK (k:=3) (t:=[]) (u:=aC) (kv:=.slice (some ⟨a.heap.size,0,none⟩) 1 1) G.o);go_wp2_with fail;clear c0 c1 L c3 c4 c5 c6 c7 c8 bo M N x O Q R S T V X Y Z g2 g3 g4 g5 g6 g7 g8 g9;refine aD (v:=dY 3 [] aC (.slice (some ⟨a.heap.size,0,none⟩) 1 1)) ?_ rfl ⟨_,rfl,am.o.1,ad (by rw[H.o];exact am.o.2)⟩;exact ba (b:=w.heap.size) rfl rfl K.o
theorem IJ(w:aaK)(p:Nat)(s:Bs)(i op:Nat)(bad:Int)(hi:i≤s.length)(hs:s.length≤100000)(ao:bad≠0)(hC:iC 211 #[.pointer (some ⟨p,0,none⟩)] p s (GP p))(ap:GP p w)(h:PB w p s i op bad):
 Calls Tryz.prog 175 #[.pointer (some ⟨p,0,none⟩)] w fun e w'=>∃v,e=.returned v∧ak p w w'∧Hid (PB w' p s i op bad∧Cs v):=by
 have D:=ad h.lt;have HB:=ad (show PB (w.alloc (.cells #[.int .i64 0,.string ⟨#[]⟩,.int .i64 0,.int .i64 0,.string ⟨#[]⟩,.string ⟨#[]⟩,.string ⟨#[]⟩,.bool false,.bool false,.slice none 0 0] 171)) p s i op bad from h.next ((ar _ _).alloc (ag _) _));have E:=ad (show Below w.heap.size w (w.alloc (.cells #[.int .i64 0,.string ⟨#[]⟩,.int .i64 0,.int .i64 0,.string ⟨#[]⟩,.string ⟨#[]⟩,.string ⟨#[]⟩,.bool false,.bool false,.slice none 0 0] 171)) from(ar _ _).alloc (ag _) _);have af:=ad (au w (.cells #[.int .i64 0,.string ⟨#[]⟩,.int .i64 0,.int .i64 0,.string ⟨#[]⟩,.string ⟨#[]⟩,.string ⟨#[]⟩,.bool false,.bool false,.slice none 0 0] 171));have aU:=ad (show(w.alloc (.cells #[.int .i64 0,.string ⟨#[]⟩,.int .i64 0,.int .i64 0,.string ⟨#[]⟩,.string ⟨#[]⟩,.string ⟨#[]⟩,.bool false,.bool false,.slice none 0 0] 171)).heap.size=w.heap.size+1 by rw[aO]);have C:=ad ao;have ac:=ad hC;clear h hC ao;go_enter Tryz.func175,Tryz.ntmps175;go_wp2_with fail;generalize w.alloc (.cells #[.int .i64 0,.string ⟨#[]⟩,.int .i64 0,.int .i64 0,.string ⟨#[]⟩,.string ⟨#[]⟩,.string ⟨#[]⟩,.bool false,.bool false,.slice none 0 0] 171)=W0 at*;refine(iQ W0 p s i op bad hi hs C.o HB.o).m ?_;rintro e w1⟨rfl,am,aq⟩;have ab:=ad am;have G:=ad aq;clear am aq;go_wp2_with fail;refine(cj ⟨(s.drop i).toArray⟩ ⟨#[33]⟩ w1).m ?_;rintro e w2⟨rfl,rfl⟩;rw[show Lib.hasPrefix (⟨(s.drop i).toArray⟩:aaM).data.toList (⟨#[33]⟩:aaM).data.toList=Lib.hasPrefix (s.drop i) [33] from rfl];cases hp:Lib.hasPrefix (s.drop i) [33]
 ·clear hp;go_wp2_with fail;refine(ac.o w1 i op bad hi C.o ((ap.aN (ak.ai E.o)).aN G.o) ab.o).m ?_;rintro e w3⟨v,rfl,B,A,aa⟩;obtain⟨q,x,u9,j,r,l,rfl⟩:=aa;have z:=ad (G.o.t B);have d:=ad (bu af.o z.o D.o);have y:=ad (kD (k:=q) (t:=x) (u:=u9) (a:=j) (n:=r) (c:=l) ((ak.ai E.o).t z.o) D.o A);have F:=ad (aK (k:=q) (t:=x) (u:=u9) (kv:=.slice j r l) d.o);obtain⟨H,I,J,K,L,M,N,O,Q,R⟩:=aJ d.o;obtain⟨S,T,V,W,X,Y,Z,g7,g8,g9⟩:=aR d.o;clear B A;go_wp2_with fail;clear H I J K L M N O Q R S T V W X Y Z g7 g8 g9;refine aD (v:=dY q x u9 (.slice j r l)) ?_ rfl ⟨_,rfl,y.o.1,ad y.o.2⟩;exact ba (b:=w.heap.size) rfl rfl F.o
 ·clear hp;go_wp2_with fail;refine(qo w1 p s i op bad ⟨#[33]⟩ C.o ab.o).m ?_;rintro e w2⟨rfl,an,av⟩;have ay:=ad an;have al:=ad (G.o.t av);clear an av;go_wp2_with fail;refine(ac.o w2 i op bad hi C.o ((ap.aN (ak.ai E.o)).aN al.o) ay.o).m ?_;rintro e w3⟨v,rfl,B,A,aa⟩;obtain⟨q,x,u9,j,r,l,rfl⟩:=aa;have z:=ad (al.o.t B);have d:=ad (bu af.o z.o D.o);have y:=ad (kD (k:=q) (t:=x) (u:=u9) (a:=j) (n:=r) (c:=l) ((ak.ai E.o).t z.o) D.o A);have F:=ad (aK (k:=q) (t:=x) (u:=u9) (kv:=.slice j r l) d.o);obtain⟨H,I,J,K,L,M,N,O,Q,R⟩:=aJ d.o;obtain⟨S,T,V,W,X,Y,Z,g7,g8,g9⟩:=aR d.o;clear B A;go_wp2_with fail;clear H I J K L M N O Q R S T V W X Y Z g7 g8 g9;refine aD (v:=dY q x u9 (.slice j r l)) ?_ rfl ⟨_,rfl,y.o.1,ad y.o.2⟩;exact ba (b:=w.heap.size) rfl rfl F.o
end Go.Proofs.YtlemddnecmmfgaaGreatDoor
namespace Go.Proofs.YtlemddnecmmfgaaGreatDoor
open Go.RowKit
variable{a:Array aaL}{b z:Bs}{y:Int}{d u B E:Nat}{j:Nat→Prop}{r:Option Addr}{l:aaK}
def Cw(W:aaK)(p:Nat)(s:Bs)(op:Nat):cG→Prop
 |.aq _ t=>∃a:Nat,a≤s.length∧t≤s.length∧rs s a=rs s t∧PB W p s a op 0
 |.ay q e=>e≠0∧q≤s.length∧PB W p s q op e
def UW(s:Bs):cG→Bs
 |.aq _ t=>rs s t
 |.ay q _=>s.drop q
theorem gP.box{g:cG}{v:aaL}(h:gP l d b u j g v):Cw l d b u g:=by
 cases g with
 |aq x t=>exact h.1
 |ay q e=>exact⟨h.1,h.2.1,h.2.2.1⟩
theorem Cw.next{W W':aaK}{p:Nat}{s:Bs}{op:Nat}{g:cG}(h:Cw W p s op g)(b:Below W.heap.size W W'):Cw W' p s op g:=by
 cases g with
 |aq x t=>obtain⟨a,c,d,i,j⟩:=h;exact⟨a,c,d,i,j.next b⟩
 |ay q e=>exact⟨h.1,h.2.1,h.2.2.next b⟩
theorem Cw.lt{W:aaK}{p:Nat}{s:Bs}{op:Nat}{g:cG}(h:Cw W p s op g):p<W.heap.size:=by
 cases g with
 |aq x t=>obtain⟨a,c,d,i,b⟩:=h;exact b.lt
 |ay q e=>exact h.2.2.lt
theorem Fk(w:aaK)(p:Nat)(s:Bs)(op:Nat)(g:cG)(j:s.length≤100000)(h:Cw w p s op g):
 Calls Tryz.prog 140 #[.pointer (some ⟨p,0,none⟩)] w fun e w'=>e=.returned (.string ⟨(UW s g).toArray⟩)∧Cw w' p s op g∧ak p w w':=by
 cases g with
 |aq x t=>obtain⟨a,d,k,i,l⟩:=h;refine(dF w p s a op d j l).m ?_;rintro e w'⟨rfl,b,c⟩;exact⟨by rw[i];rfl,⟨pa s a,cY s a,k,(fL s d).t i,b⟩,c⟩
 |ay q e=>refine(iQ w p s q op e h.2.1 j h.1 h.2.2).m ?_;rintro n w'⟨rfl,b,c⟩;exact⟨rfl,⟨h.1,h.2.1,b⟩,c⟩
def UX(s:Bs)(t:Bs):cG→Bool
 |.aq _ a=>Lib.hasPrefix (rs s a) t
 |.ay _ _=>false
def Wf(s:Bs)(t:Bs):cG→cG
 |.aq x a=>bif Lib.hasPrefix (rs s a) t then .aq x (pa s a+t.length) else .aq x a
 |.ay q e=>.ay q e
theorem ux(w:aaK)(p:Nat)(s:Bs)(op:Nat)(g:cG)(t:Bs)(y:t.length≤100)(u:s.length≤100000)(h:Cw w p s op g):
 Calls Tryz.prog 209 #[.pointer (some ⟨p,0,none⟩),.string ⟨t.toArray⟩] w fun e w'=>e=.returned (.bool (UX s t g))∧Cw w' p s op (Wf s t g)∧ak p w w':=by
 cases g with
 |aq x b=>
  obtain⟨a,n,d,i,o⟩:=h;refine(fM w p s a op t n u y o).m ?_;rintro e w'⟨rfl,c,k⟩;have r:pa s a=pa s b:=by unfold pa;rw[i]
  refine⟨by rw[i];rfl, ?_,k⟩;rw[i,r] at c;show Cw w' p s op (bif Lib.hasPrefix (rs s b) t then .aq x (pa s b+t.length) else .aq x b);cases j:Lib.hasPrefix (rs s b) t
  ·rw[j] at c;exact⟨pa s b,cY s b,d,fL s d,c⟩
  ·rw[j] at c;have l:=nR d j;exact⟨pa s b+t.length,l,l,rfl,c⟩
 |ay q e=>refine(qo w p s q op e ⟨t.toArray⟩ h.1 h.2.2).m ?_;rintro z w'⟨rfl,c,k⟩;exact⟨rfl,⟨h.1,h.2.1,c⟩,k⟩
def lu:Nat→Bs
 |0=>[61,61]
 |1=>[33,61]
 |2=>[60]
 |3=>[60,61]
 |4=>[62]
 |_=>[62,61]
def gJ(r:Bs):Nat→Option Nat
 |0=>none
 |k+1=>match gJ r k with
  |none=>bif Lib.hasPrefix r (lu k) then some k else none
  |some b=>bif Lib.hasPrefix r (lu k)&&decide ((lu b).length<(lu k).length) then some k else some b
theorem yM(r:Bs):∀k b,gJ r k=some b→b<k∧Lib.hasPrefix r (lu b)=true
 |0,b,h=>by cases h
 |k+1,b,h=>by
  unfold gJ at h;cases c:gJ r k with
  |none=>
   rw[c] at h;cases a:Lib.hasPrefix r (lu k)
   ·rw[a] at h;cases h
   ·rw[a] at h;cases h;exact⟨Nat.lt_succ_self _,a⟩
  |some b2=>
   rw[c] at h;have d:=yM r k b2 c;cases a:Lib.hasPrefix r (lu k)&&decide ((lu b2).length<(lu k).length)
   ·simp only[a,cI] at h;cases h;exact⟨by omega,d.2⟩
   ·simp only[a,aS] at h;cases h;rw[cW] at a;exact⟨Nat.lt_succ_self _,a.1⟩
theorem SN(k:Nat):(lu k).length≤2∧1≤(lu k).length:=by unfold lu;split<;>decide
theorem Bg(r:Bs):oV r=(gJ r 6).map fun b=>(b,(lu b).length):=by
 unfold oV;simp only[gJ,lu];cases r with
 |nil=>rfl
 |cons c r=>
  have j:∀a:UInt8,Lib.hasPrefix (c::r) [a]=(a==c):=fun a=>by simp[Lib.hasPrefix,List.isPrefixOf]
  have k:∀a:UInt8,Lib.hasPrefix (c::r) [a,61]=(a==c&&Lib.hasPrefix r [61]):=fun a=>by simp[Lib.hasPrefix,List.isPrefixOf]
  simp only[j,k];cases Lib.hasPrefix r [61]
  ·simp only[CU,cI];cases d:(60:UInt8)==c
   ·cases h:(62:UInt8)==c<;>rfl
   ·have:c=60:=(bZ.1 d).symm;subst this;rfl
  ·simp only[Bool.and_true];cases e:(61:UInt8)==c
   ·cases i:(33:UInt8)==c
    ·cases d:(60:UInt8)==c
     ·cases h:(62:UInt8)==c<;>rfl
     ·have:c=60:=(bZ.1 d).symm;subst this;rfl
    ·have:c=33:=(bZ.1 i).symm;subst this;rfl
   ·have:c=61:=(bZ.1 e).symm;subst this;rfl
theorem yN(w:aaK):Calls Tryz.prog 244 #[] w fun e w'=>e=.returned (.slice (some ⟨w.heap.size,0,none⟩) 6 6)∧w'=w.alloc (.cells #[.string ⟨#[61,61]⟩,.string ⟨#[33,61]⟩,.string ⟨#[60]⟩,.string ⟨#[60,61]⟩,.string ⟨#[62]⟩,.string ⟨#[62,61]⟩] 9):=by go_enter Tryz.func244,Tryz.ntmps244;go_wp2_with fail;go_ret;exact⟨rfl,rfl⟩
theorem rM(a:u<6)(h:l.heap[d]? =some (.cells #[.string ⟨#[61,61]⟩,.string ⟨#[33,61]⟩,.string ⟨#[60]⟩,.string ⟨#[60,61]⟩,.string ⟨#[62]⟩,.string ⟨#[62,61]⟩] 9)):l.cell? ⟨d,u,none⟩=some (.string ⟨(lu u).toArray⟩):=by
 match u,a with
 |0,_=>exact tH _ _ 0 _ _ _ h
 |1,_=>exact tH _ _ 1 _ _ _ h
 |2,_=>exact tH _ _ 2 _ _ _ h
 |3,_=>exact tH _ _ 3 _ _ _ h
 |4,_=>exact tH _ _ 4 _ _ _ h
 |5,_=>exact tH _ _ 5 _ _ _ h
end Go.Proofs.YtlemddnecmmfgaaGreatDoor
namespace Go.Proofs.YtlemddnecmmfgaaGreatDoor
open Go.RowKit
variable{d:Bs}{K:Ex}{i j l:Nat}{n:aaK}{a:cG}
def rN(s:Bs)(k:Nat):cG→cG
 |.ay q e=>.ay q e
 |.aq x t=>ou (zI s k) s x t
def Fl(o:Option Nat):aaL:=match o with|none=>.int .i64 (-1)|some b=>.int .i64 (b:Int)
structure CI (W1 W:aaK) (p:Nat) (s:Bs) (op:Nat) (g:cG):Prop where
 aN:ak p W1 W
 box:Cw W p s op g
theorem CI.step{b W W':aaK}(h:CI b W i d j a)(e:ak i W W')(c:Cw W' i d j a):CI b W' i d j a:=⟨h.aN.t e,c⟩
theorem PX{j:Nat}(h:Lib.hasPrefix d (lu j)=false):gJ d (j+1)=gJ d j:=by
 conv=>lhs;unfold gJ
 rw[h];cases gJ d j<;>rfl
theorem Zf{j:Nat}(h:Lib.hasPrefix d (lu j)=true)(a:gJ d j=none):gJ d (j+1)=some j:=by
 conv=>lhs;unfold gJ
 rw[h,a];rfl
theorem Zg{j b:Nat}(h:Lib.hasPrefix d (lu j)=true)(c:gJ d j=some b):gJ d (j+1)=if(lu b).length<(lu j).length then some j else some b:=by
 conv=>lhs;unfold gJ
 rw[h,c];show(bif true&&decide ((lu b).length<(lu j).length) then some j else some b)=_;by_cases a:(lu b).length<(lu j).length
 ·rw[bN a,ah a];rfl
 ·rw[cL a,ae a];rfl
theorem PY(h:gJ (UW d a) 6=none):rN d i a=a:=by
 cases a with
 |ay q e=>rfl
 |aq x t=>show ou (zI d i) d x t=_;unfold ou;rw[Bg,show gJ (rs d t) 6=none from h];rfl
theorem J8{W W':aaK}{A:Nat→Prop}{v:aaL}(h:gP W i d j A a v)(k:ak i W W')(c:¬A i)(b:Cw W' i d j a):gP W' i d j A a v:=by
 cases a with
 |aq x t=>exact⟨b,h.2.aN k c⟩
 |ay q e=>exact⟨b.1,b.2.1,b.2.2,h.2.2.2⟩
abbrev PZ(b:Nat)(k:Int)(t:Bs)(u:bc)(kv:aaL)(w':aaK):Prop:=w'.cell? ⟨b,0,none⟩=some (.int .i64 k)∧w'.cell? ⟨b,1,none⟩=some (.string ⟨t.toArray⟩)∧w'.cell? ⟨b,2,none⟩=some (.int .i64 u.src)∧w'.cell? ⟨b,3,none⟩=some (.int .i64 u.bJ)∧w'.cell? ⟨b,4,none⟩=some (.string ⟨u.name.toArray⟩)∧w'.cell? ⟨b,5,none⟩=some (.string ⟨u.key.toArray⟩)∧w'.cell? ⟨b,6,none⟩=some (.string ⟨u.cK.toArray⟩)∧w'.cell? ⟨b,7,none⟩=some (.bool u.hk)∧w'.cell? ⟨b,8,none⟩=some (.bool u.hd)∧w'.cell? ⟨b,9,none⟩=some (kv)
theorem J9{b:Nat}{k:Int}{t:Bs}{u:bc}{kv:aaL}{T:TypeId}(h:n.heap[b]? =some (.cells (dC k t u kv).toArray T)):PZ b k t u kv n:=
 ⟨tH _ _ 0 _ _ _ h,tH _ _ 1 _ _ _ h,tH _ _ 2 _ _ _ h,tH _ _ 3 _ _ _ h,tH _ _ 4 _ _ _ h,tH _ _ 5 _ _ _ h,tH _ _ 6 _ _ _ h,tH _ _ 7 _ _ _ h,tH _ _ 8 _ _ _ h,tH _ _ 9 _ _ _ h⟩
theorem UY(h:rs d j=rs d l):nT d i j=nT d i l:=by unfold nT qL;rw[show pa d j=pa d l by unfold pa;rw[h],h]
theorem P0{t:Nat}(h:gJ (rs d t) 6=some j)(c:rs d l=rs d (pa d t+(lu j).length)):rN d i (.aq K t)=(nT d i l).map (oA (4+j) K):=by show ou (zI d i) d K t=_;rw[UY c];unfold ou;rw[Bg,h];show(match qL (zI d i) d (pa d t+(lu j).length) with|.ay p e=>cG.ay p e|.aq y m=>cG.aq (oA (4+j) K y) m)=_;unfold nT;cases qL (zI d i) d (pa d t+(lu j).length)<;>rfl
theorem SO{W0 c b:aaK}{k:Int}{A B:Int}{D E:Bs}{u1 u6:bc}{a1 m:Option Addr}{n1 o C r:Nat}(T:gP c i d j (du W0.heap.size) (.aq K l) (dY A D u1 (.slice a1 n1 o)))(u:gP b i d j (du c.heap.size) a (dY B E u6 (.slice m C r)))(G:ak i c b)(S:¬du W0.heap.size i)
 (H:Below n.heap.size n W0)(Q:ak i W0 c)(Z:W0.heap.size=n.heap.size+1)(R:i<n.heap.size)(X:W0.heap.size≤c.heap.size):
 ak i n (dO (b.alloc (.cells (dC A D u1 (.slice a1 n1 o)++dC B E u6 (.slice m C r)).toArray 171)) n.heap.size k [] aC (.slice (some ⟨b.heap.size,0,none⟩) 2 2))∧
 gP (dO (b.alloc (.cells (dC A D u1 (.slice a1 n1 o)++dC B E u6 (.slice m C r)).toArray 171)) n.heap.size k [] aC (.slice (some ⟨b.heap.size,0,none⟩) 2 2)) i d j (du n.heap.size) (a.map (oA k K)) (dY k [] aC (.slice (some ⟨b.heap.size,0,none⟩) 2 2)):=by
 have F:Below b.heap.size b (b.alloc (.cells (dC A D u1 (.slice a1 n1 o)++dC B E u6 (.slice m C r)).toArray 171)):=(ar _ _).alloc (ag _) _;have Y:=G.size;have V:dR (du W0.heap.size) b K _:=T.2.aN G S;refine gq (N:=W0.heap.size) (((ak.ai H).t (Q.t G)).t (ak.ai F)) R (by omega) ?_;cases a with
 |ay q e=>exact⟨u.1,u.2.1,u.2.2.1.next F,⟨k,[],aC,_,_,_,rfl⟩⟩
 |aq y t2=>obtain⟨⟨q,I,J,L,M⟩,O⟩:=u;have W:dR (du W0.heap.size) b y _:=jJ (fun z _ h=>by have:c.heap.size≤z:=h;show W0.heap.size≤z;omega) _ _ O;exact⟨⟨q,I,J,L,M.next F⟩,Fc k V W (show W0.heap.size≤b.heap.size by omega)⟩
theorem P3(w:aaK)(p:Nat)(s:Bs)(op k:Nat)(g:cG)(hs:s.length≤100000)(E:p<w.heap.size)(cx:GP p w)
 (hO:∀W,Below w.heap.size w W→Calls Tryz.prog 243 #[.pointer (some ⟨p,0,none⟩)] W fun e w'=>∃v,e=.returned v∧ak p W w'∧gP w' p s op (du W.heap.size) g v)
 (bo:∀x t,g=.aq x t→XE 243 #[.pointer (some ⟨p,0,none⟩)] p s op (nT s k) (GP p)):
 Calls Tryz.prog 211 #[.pointer (some ⟨p,0,none⟩)] w fun e w'=>∃v,e=.returned v∧ak p w w'∧Hid (gP w' p s op (du w.heap.size) (rN s k g) v):=by
 have H:=ad E;have N:=ad (show Below w.heap.size w (w.alloc (.cells #[.int .i64 0,.string ⟨#[]⟩,.int .i64 0,.int .i64 0,.string ⟨#[]⟩,.string ⟨#[]⟩,.string ⟨#[]⟩,.bool false,.bool false,.slice none 0 0] 171)) from(ar _ _).alloc (ag _) _);have a0:=ad (au w (.cells #[.int .i64 0,.string ⟨#[]⟩,.int .i64 0,.int .i64 0,.string ⟨#[]⟩,.string ⟨#[]⟩,.string ⟨#[]⟩,.bool false,.bool false,.slice none 0 0] 171));have I:=ad (show(w.alloc (.cells #[.int .i64 0,.string ⟨#[]⟩,.int .i64 0,.int .i64 0,.string ⟨#[]⟩,.string ⟨#[]⟩,.string ⟨#[]⟩,.bool false,.bool false,.slice none 0 0] 171)).heap.size=w.heap.size+1 by rw[aO]);have HO:=ad hO;have ca:=ad bo;clear hO bo;go_enter Tryz.func211,Tryz.ntmps211;go_wp2_with fail;generalize w.alloc (.cells #[.int .i64 0,.string ⟨#[]⟩,.int .i64 0,.int .i64 0,.string ⟨#[]⟩,.string ⟨#[]⟩,.string ⟨#[]⟩,.bool false,.bool false,.slice none 0 0] 171)=W0 at*;refine(HO.o W0 N.o).m ?_;rintro e J⟨v,rfl,be,a9⟩;obtain⟨d,i,u1,a1,n1,c,rfl⟩:=a9.F4;have l:Below J.heap.size J (J.alloc (.cells (dC d i u1 (.slice a1 n1 c)).toArray 171)):=(ar _ _).alloc (ag _) _;have an:=ad (au J (.cells (dC d i u1 (.slice a1 n1 c)).toArray 171));have L:=ad (a9.next l);have bk:=ad (be.t (ak.ai l));have bm:=ad be.size;clear be a9 l;go_wp2_with fail;generalize J.alloc (.cells (dC d i u1 (.slice a1 n1 c)).toArray 171)=y at*;generalize c0:J.heap.size=b3 at*;refine(yN y).m ?_;rintro e w2⟨rfl,rfl⟩;have bi:=ad (au y (.cells #[.string ⟨#[61,61]⟩,.string ⟨#[33,61]⟩,.string ⟨#[60]⟩,.string ⟨#[60,61]⟩,.string ⟨#[62]⟩,.string ⟨#[62,61]⟩] 9));have l:Below y.heap.size y (y.alloc (.cells #[.string ⟨#[61,61]⟩,.string ⟨#[33,61]⟩,.string ⟨#[60]⟩,.string ⟨#[60,61]⟩,.string ⟨#[62]⟩,.string ⟨#[62,61]⟩] 9)):=(ar _ _).alloc (ag _) _;have HC:=ad (show CI y (y.alloc (.cells #[.string ⟨#[61,61]⟩,.string ⟨#[33,61]⟩,.string ⟨#[60]⟩,.string ⟨#[60,61]⟩,.string ⟨#[62]⟩,.string ⟨#[62,61]⟩] 9)) p s op g from⟨ak.ai l,L.o.box.next l⟩);have cc:=ad (show p<y.heap.size from L.o.box.lt);have af:=ad (show¬du W0.heap.size p from fun h=>by have:W0.heap.size≤p:=h;have:=I.o;omega);have a5:=ad (show p<b3 by have:=bm.o;have:=I.o;omega);clear l;go_wp2_with fail;generalize y.alloc (.cells #[.string ⟨#[61,61]⟩,.string ⟨#[33,61]⟩,.string ⟨#[60]⟩,.string ⟨#[60,61]⟩,.string ⟨#[62]⟩,.string ⟨#[62,61]⟩] 9)=W2 at*;generalize c1:y.heap.size=bs at*;generalize hr:UW s g=r at*;have al:=ad hr;have b8:=ad (show ak p W2 W2 from ak.refl p W2);clear hr
 go_loopw [4,11] (fun bv iv wr=>∃(j:Nat),j≤6∧iv=.int .i64 (j:Int)∧bv=Fl (gJ r j)∧Hid (CI y wr p s op g)∧Hid (ak p W2 wr)) (fun _ iv _=>6-(intOf iv).toNat)
 case atStart=>exact⟨0,by omega,rfl,rfl,HC,b8⟩
 case round=>
  obtain⟨j,hj,rfl,rfl,C,bn⟩:=hrel;have co:=ad (show wr.heap[bs]? =_ from(bn.o.block bs (aB.1 bi.o).1 (by have:=cc.o;intro e;cases e;omega)).t bi.o);by_cases br:j<6
  ·have hc:=rM br co.o;have j0:(0:Int)≤(j:Int):=by omega
   have j1:(j:Int)<6:=by omega
   go_wp2_with fail;refine(Fk wr p s op g hs C.o.box).m ?_;rintro e G⟨rfl,bp,bf⟩;have ab:=ad (C.o.step bf bp);have a6:=ad (bn.o.t bf);rw[al.o];clear bp bf hc;go_wp2_with fail;refine(cj ⟨r.toArray⟩ ⟨(lu j).toArray⟩ G).m ?_;rintro e w4⟨rfl,rfl⟩;rw[show Lib.hasPrefix (⟨r.toArray⟩:aaM).data.toList (⟨(lu j).toArray⟩:aaM).data.toList=Lib.hasPrefix r (lu j) from rfl];cases E:Lib.hasPrefix r (lu j)
   ·have B:=ad (PX E);clear E;go_wp2_with fail
    go_roundw
    case rel=>exact⟨j+1,by omega,by go_num,by rw[B.o],ab,a6⟩
    case measure=>(simp[intOf]<;>omega)
   ·cases z:gJ r j with
    |none=>
     have B:=ad (Zf E z);clear E z;rw[show Fl none=Value.int .i64 (-1) from rfl];go_wp2_with fail
     go_roundw
     case rel=>exact⟨j+1,by omega,by go_num,by rw[B.o];rfl,ab,a6⟩
     case measure=>(simp[intOf]<;>omega)
    |some b=>
     have B:=ad (Zg E z);have av:=(yM r j b z).1;clear E z;rw[show Fl (some b)=Value.int .i64 (b:Int) from rfl];have b0:¬(b:Int)<0:=by omega
     have b1:(0:Int)≤(b:Int):=by omega
     have b2:(b:Int)<6:=by omega
     go_wp2_with fail;refine(yN G).m ?_;rintro e w4⟨rfl,rfl⟩;have l:Below G.heap.size G (G.alloc (.cells #[.string ⟨#[61,61]⟩,.string ⟨#[33,61]⟩,.string ⟨#[60]⟩,.string ⟨#[60,61]⟩,.string ⟨#[62]⟩,.string ⟨#[62,61]⟩] 9)):=(ar _ _).alloc (ag _) _;have K:=ad (ab.o.step (ak.ai l) (ab.o.box.next l));have bl:=ad (a6.o.t (ak.ai l));have hc:=rM (show b<6 by omega) (au G (.cells #[.string ⟨#[61,61]⟩,.string ⟨#[33,61]⟩,.string ⟨#[60]⟩,.string ⟨#[60,61]⟩,.string ⟨#[62]⟩,.string ⟨#[62,61]⟩] 9));clear l;generalize G.alloc (.cells #[.string ⟨#[61,61]⟩,.string ⟨#[33,61]⟩,.string ⟨#[60]⟩,.string ⟨#[60,61]⟩,.string ⟨#[62]⟩,.string ⟨#[62,61]⟩] 9)=W4 at*;by_cases hl:(lu b).length<(lu j).length
     ·have HL:=ad hl;have cO:((lu b).length:Int)<((lu j).length:Int):=by omega
      clear hl;go_wp2_with fail
      go_roundw
      case rel=>exact⟨j+1,by omega,by go_num,by rw[B.o,ah HL.o];rfl,K,bl⟩
      case measure=>(simp[intOf]<;>omega)
     ·have HL:=ad hl;have cO:¬((lu b).length:Int)<((lu j).length:Int):=by omega
      clear hl;go_wp2_with fail
      go_roundw
      case rel=>exact⟨j+1,by omega,by go_num,by rw[B.o,ae HL.o];rfl,K,bl⟩
      case measure=>(simp[intOf]<;>omega)
  ·obtain rfl:j=6:=by omega
   clear br hj;have ct:=ad (show wr.heap[b3]? =_ from(C.o.aN.block b3 (aB.1 an.o).1 (by have:=a5.o;intro e;cases e;omega)).t an.o);cases z:gJ r 6 with
   |none=>have hg:rN s k g=g:=PY (by rw[al.o];exact z);have A:=ad (bk.o.t C.o.aN);have a2:=ad (bu a0.o A.o H.o);have D:=ad (gq ((ak.ai N.o).t A.o) H.o (by have:=I.o;omega) (J8 L.o C.o.aN af.o C.o.box));have HG:=ad hg;have M:=ad (aK (k:=d) (t:=i) (u:=u1) (kv:=.slice a1 n1 c) a2.o);clear z hg;rw[show Fl none=Value.int .i64 (-1) from rfl];obtain⟨x0,x1,x2,x3,x4,x5,x6,x7,x8,x9⟩:=aM ct.o;obtain⟨R,S,V,X,Y,Z,f6,f7,f8,f9⟩:=aJ a2.o;obtain⟨g0,g1,g2,g3,g4,g5,g6,g7,g8,g9⟩:=aR a2.o;go_wp2_with fail;clear x0 x1 x2 x3 x4 x5 x6 x7 x8 x9 R S V X Y Z f6 f7 f8 f9 g0 g1 g2 g3 g4 g5 g6 g7 g8 g9;refine aD (v:=dY d i u1 (.slice a1 n1 c)) ?_ rfl ⟨_,rfl,D.o.1,ad (by rw[HG.o];exact D.o.2)⟩;exact ba (b:=w.heap.size) rfl rfl M.o
   |some b=>
    have av:=yM r 6 b z;have B:=ad z;have b0:¬(b:Int)<0:=by omega
    have b1:(0:Int)≤(b:Int):=by omega
    have b2:(b:Int)<6:=by omega
    have b5:=ad av.2;have b4:=ad av.1;clear z av;rw[show Fl (some b)=Value.int .i64 (b:Int) from rfl];go_wp2_with fail;refine(yN wr).m ?_;rintro e w4⟨rfl,rfl⟩;have l:Below wr.heap.size wr (wr.alloc (.cells #[.string ⟨#[61,61]⟩,.string ⟨#[33,61]⟩,.string ⟨#[60]⟩,.string ⟨#[60,61]⟩,.string ⟨#[62]⟩,.string ⟨#[62,61]⟩] 9)):=(ar _ _).alloc (ag _) _;have K:=ad (C.o.step (ak.ai l) (C.o.box.next l));have hc:=rM b4.o (au wr (.cells #[.string ⟨#[61,61]⟩,.string ⟨#[33,61]⟩,.string ⟨#[60]⟩,.string ⟨#[60,61]⟩,.string ⟨#[62]⟩,.string ⟨#[62,61]⟩] 9));clear l;generalize wr.alloc (.cells #[.string ⟨#[61,61]⟩,.string ⟨#[33,61]⟩,.string ⟨#[60]⟩,.string ⟨#[60,61]⟩,.string ⟨#[62]⟩,.string ⟨#[62,61]⟩] 9)=W4 at*;go_wp2_with fail;refine(ux W4 p s op g (lu b) (by have:=SN b;omega) hs K.o.box).m ?_;rintro e n⟨rfl,aa,bg⟩;have ac:=ad (show ak p y n from K.o.aN.t bg);have ao:=ad (show n.heap[b3]? =_ from(ac.o.block b3 (aB.1 an.o).1 (by have:=a5.o;intro e;cases e;omega)).t an.o);have A:=ad (bk.o.t ac.o);have a3:=ad (bu a0.o A.o H.o);cases g with
    |ay q e=>have D:=ad (gq ((ak.ai N.o).t A.o) H.o (by have:=I.o;omega) (J8 L.o ac.o af.o aa));have M:=ad (aK (k:=d) (t:=i) (u:=u1) (kv:=.slice a1 n1 c) a3.o);rw[show UX s (lu b) (.ay q e)=false from rfl];obtain⟨x0,x1,x2,x3,x4,x5,x6,x7,x8,x9⟩:=aM ao.o;obtain⟨R,S,V,X,Y,Z,f6,f7,f8,f9⟩:=aJ a3.o;obtain⟨g0,g1,g2,g3,g4,g5,g6,g7,g8,g9⟩:=aR a3.o;clear hc bg aa;go_wp2_with fail;clear x0 x1 x2 x3 x4 x5 x6 x7 x8 x9 R S V X Y Z f6 f7 f8 f9 g0 g1 g2 g3 g4 g5 g6 g7 g8 g9;refine aD (v:=dY d i u1 (.slice a1 n1 c)) ?_ rfl ⟨_,rfl,D.o.1,ad D.o.2⟩;exact ba (b:=w.heap.size) rfl rfl M.o
    |aq x t=>
     have a8:Lib.hasPrefix (rs s t) (lu b)=true:=by rw[show rs s t=r from al.o];exact b5.o
     rw[show UX s (lu b) (.aq x t)=true from a8];obtain⟨a,ha,hn,bd,a7⟩:Cw n p s op (.aq x (pa s t+(lu b).length)):=by
      have:Wf s (lu b) (.aq x t)=.aq x (pa s t+(lu b).length):=by show(bif Lib.hasPrefix (rs s t) (lu b) then cG.aq x (pa s t+(lu b).length) else cG.aq x t)=_;rw[a8];rfl
      rw[this] at aa;exact aa
     have cb:=ad (show PB n.drew p s a op 0 from a7);have am:=ad (show ak p n n.drew from⟨rfl,rfl,rfl,ag _,fun _ _ _=>rfl⟩);have HG:=ad (show rN s k (.aq x t)=(nT s k a).map (oA (4+b) x) from P0 (show gJ (rs s t) 6=some b by rw[show rs s t=r from al.o];exact B.o) bd);have ce:=ad (ca.o x t rfl);have ci:=ad (show PZ b3 d i u1 (.slice a1 n1 c) n.drew from J9 ao.o);have ch:=ad (show gP n.drew p s op (du W0.heap.size) (.aq x (pa s t+(lu b).length)) (dY d i u1 (.slice a1 n1 c)) from⟨⟨a,ha,hn,bd,a7⟩,kG (W:=n) (W':=n.drew) (ag _) (fun _ _ _=>rfl) _ _ (L.o.2.aN ac.o af.o)⟩);have bx:=ad ha;have b9:=ad (show GP p n.drew from(cx.aN (ak.ai N.o)).aN (A.o.t am.o));have cd:=ad (show W0.heap.size≤n.drew.heap.size from A.o.size);have b6:=ad (show some b3≠some p by have:=a5.o;intro e;cases e;omega);have b7:=ad (show some b3≠some w.heap.size by have:=bm.o;have:=I.o;intro e;cases e;omega);have i9:IntKind.i64.wrap (4+(b:Int))=4+(b:Int):=IntWalk.i64_in _ (by omega);clear hc bg aa a8 bd hn a7 ha;go_wp2_with fail
     go_region_held3 (PZ b3 d i u1 (.slice a1 n1 c)) (first|with_reducible exact ci.o|with_reducible exact ck.o|with_reducible exact cl.o|with_reducible exact cn.o)
      (first
       |(go_at_call 243;refine(ce.o n.drew a bx.o b9.o cb.o).m ?_;rintro e F⟨v6,rfl,aU,bb⟩;obtain⟨k6,t6,u6,O,n6,Q,rfl⟩:=bb.F4;have cs:=ad (A.o.t (am.o.t aU));have ap:=ad (show F.heap[b3]? =some (.cells (dC d i u1 (.slice a1 n1 c)).toArray 171) from((am.o.t aU).block b3 (aB.1 ao.o).1 b6.o).t ao.o);have ck:=ad (J9 ap.o);have cl:=ad (show PZ b3 d i u1 (.slice a1 n1 c) (F.alloc (.cells #[.int .i64 d,.string ⟨i.toArray⟩,.int .i64 u1.src,.int .i64 u1.bJ,.string ⟨u1.name.toArray⟩,.string ⟨u1.key.toArray⟩,.string ⟨u1.cK.toArray⟩,.bool u1.hk,.bool u1.hd,.slice a1 n1 c,.int .i64 k6,.string ⟨t6.toArray⟩,.int .i64 u6.src,.int .i64 u6.bJ,.string ⟨u6.name.toArray⟩,.string ⟨u6.key.toArray⟩,.string ⟨u6.cK.toArray⟩,.bool u6.hk,.bool u6.hd,.slice O n6 Q] 171)) from J9 (aG ap.o _));have a4:=ad (aG (bu a0.o cs.o H.o) (.cells #[.int .i64 d,.string ⟨i.toArray⟩,.int .i64 u1.src,.int .i64 u1.bJ,.string ⟨u1.name.toArray⟩,.string ⟨u1.key.toArray⟩,.string ⟨u1.cK.toArray⟩,.bool u1.hk,.bool u1.hd,.slice a1 n1 c,.int .i64 k6,.string ⟨t6.toArray⟩,.int .i64 u6.src,.int .i64 u6.bJ,.string ⟨u6.name.toArray⟩,.string ⟨u6.key.toArray⟩,.string ⟨u6.cK.toArray⟩,.bool u6.hk,.bool u6.hd,.slice O n6 Q] 171));have D:=ad (SO ch.o bb aU af.o N.o (A.o.t am.o) I.o H.o cd.o (k:=4+b));have M:=ad (aK (k:=4+(b:Int)) (t:=[]) (u:=aC) (kv:=.slice (some ⟨F.heap.size,0,none⟩) 2 2) a4.o);have cn:=ad (show PZ b3 d i u1 (.slice a1 n1 c) (((((((((((F.alloc (.cells #[.int .i64 d,.string ⟨i.toArray⟩,.int .i64 u1.src,.int .i64 u1.bJ,.string ⟨u1.name.toArray⟩,.string ⟨u1.key.toArray⟩,.string ⟨u1.cK.toArray⟩,.bool u1.hk,.bool u1.hd,.slice a1 n1 c,.int .i64 k6,.string ⟨t6.toArray⟩,.int .i64 u6.src,.int .i64 u6.bJ,.string ⟨u6.name.toArray⟩,.string ⟨u6.key.toArray⟩,.string ⟨u6.cK.toArray⟩,.bool u6.hk,.bool u6.hd,.slice O n6 Q] 171)).setCell ⟨w.heap.size,0,none⟩ (.int .i64 (4+(b:Int)))).setCell ⟨w.heap.size,1,none⟩ (.string ⟨#[]⟩)).setCell ⟨w.heap.size,2,none⟩ (.int .i64 0)).setCell ⟨w.heap.size,3,none⟩ (.int .i64 0)).setCell ⟨w.heap.size,4,none⟩ (.string ⟨#[]⟩)).setCell ⟨w.heap.size,5,none⟩ (.string ⟨#[]⟩)).setCell ⟨w.heap.size,6,none⟩ (.string ⟨#[]⟩)).setCell ⟨w.heap.size,7,none⟩ (.bool false)).setCell ⟨w.heap.size,8,none⟩ (.bool false)).setCell ⟨w.heap.size,9,none⟩ (.slice (some ⟨F.heap.size,0,none⟩) 2 2)) from J9 (b:=b3) (k:=d) (t:=i) (u:=u1) (kv:=.slice a1 n1 c) (T:=171) ((dx (F.alloc (.cells #[.int .i64 d,.string ⟨i.toArray⟩,.int .i64 u1.src,.int .i64 u1.bJ,.string ⟨u1.name.toArray⟩,.string ⟨u1.key.toArray⟩,.string ⟨u1.cK.toArray⟩,.bool u1.hk,.bool u1.hd,.slice a1 n1 c,.int .i64 k6,.string ⟨t6.toArray⟩,.int .i64 u6.src,.int .i64 u6.bJ,.string ⟨u6.name.toArray⟩,.string ⟨u6.key.toArray⟩,.string ⟨u6.cK.toArray⟩,.bool u6.hk,.bool u6.hd,.slice O n6 Q] 171)) w.heap.size (4+b) [] aC (.slice (some ⟨F.heap.size,0,none⟩) 2 2)).block b3 (aB.1 (aG ap.o (.cells #[.int .i64 d,.string ⟨i.toArray⟩,.int .i64 u1.src,.int .i64 u1.bJ,.string ⟨u1.name.toArray⟩,.string ⟨u1.key.toArray⟩,.string ⟨u1.cK.toArray⟩,.bool u1.hk,.bool u1.hd,.slice a1 n1 c,.int .i64 k6,.string ⟨t6.toArray⟩,.int .i64 u6.src,.int .i64 u6.bJ,.string ⟨u6.name.toArray⟩,.string ⟨u6.key.toArray⟩,.string ⟨u6.cK.toArray⟩,.bool u6.hk,.bool u6.hd,.slice O n6 Q] 171))).1 b7.o|>.trans (aG ap.o _)));clear aU bb;obtain⟨R,S,V,X,Y,Z,f6,f7,f8,f9⟩:=aJ a4.o;obtain⟨g0,g1,g2,g3,g4,g5,g6,g7,g8,g9⟩:=aR a4.o))
     clear R S V X Y Z f6 f7 f8 f9 g0 g1 g2 g3 g4 g5 g6 g7 g8 g9;go_wp2_with fail;refine aD (v:=dY (4+(b:Int)) [] aC (.slice (some ⟨F.heap.size,0,none⟩) 2 2)) ?_ rfl ⟨_,rfl,D.o.1,ad (by rw[HG.o];exact D.o.2)⟩;exact ba (b:=w.heap.size) rfl rfl M.o
