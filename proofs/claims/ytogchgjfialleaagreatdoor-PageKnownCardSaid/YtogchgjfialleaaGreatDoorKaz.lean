/- The walk of a not. The walk of a comparison: its parts. -/
import Derived.Test.YtogchgjfialleaaGreatDoorKay
set_option linter.unusedVariables false
set_option maxRecDepth 100000
set_option maxHeartbeats 4000000
namespace Go.Proofs.YtogchgjfialleaaGreatDoor
open Go.RowKit
def cG.map(f:Ex→Ex):cG→cG
 |.aq x t=>.aq (f x) t
 |.ay p e=>.ay p e
theorem gP.op{W:World}{p:Nat}{s:Bs}{op:Nat}{A:Nat→Prop}{g:cG}{v:Value}(h:gP W p s op A g v)(k:¬A p)(n:Nat):gP (W.setCell ⟨p,2,none⟩ (.int .i64 (n:Int))) p s n A g v:=by
 have j:ak p W (W.setCell ⟨p,2,none⟩ (.int .i64 (n:Int))):=(ak.refl p W).set;cases g with
 |aq x t=>obtain⟨⟨q,a,b,c,d⟩,i⟩:=h;exact⟨⟨q,a,b,c,d.Dz n⟩,i.aN j k⟩
 |ay q e=>exact⟨h.1,h.2.1,h.2.2.1.Dz n,h.2.2.2⟩
theorem gP.next{W W':World}{p:Nat}{s:Bs}{op:Nat}{A:Nat→Prop}{g:cG}{v:Value}(h:gP W p s op A g v)(a:Below W.heap.size W W'):gP W' p s op A g v:=by
 cases g with
 |aq x t=>obtain⟨⟨q,b,c,d,i⟩,j⟩:=h;exact⟨⟨q,b,c,d,i.next a⟩,j.next a⟩
 |ay q e=>exact⟨h.1,h.2.1,h.2.2.1.next a,h.2.2.2⟩
theorem gP.one{W:World}{p:Nat}{s:Bs}{op:Nat}{A:Nat→Prop}{g:cG}{b:Int}{d:Bs}{u1:bc}{a:Option Addr}{n c:Nat}(k:Int)(h:gP W p s op A g (dY b d u1 (.slice a n c)))(u:A W.heap.size):
 gP (W.alloc (.cells (dC b d u1 (.slice a n c)).toArray 136)) p s op A (g.map (ry k)) (dY k [] aC (.slice (some ⟨W.heap.size,0,none⟩) 1 1)):=by
 have i:=(ar W.heap.size W).alloc (ag _) (.cells (dC b d u1 (.slice a n c)).toArray 136);cases g with
 |aq x t=>obtain⟨⟨q,j,l,m,o⟩,r⟩:=h;exact⟨⟨q,j,l,m,o.next i⟩,PI k r u⟩
 |ay q e=>exact⟨h.1,h.2.1,h.2.2.1.next i,⟨k,[],aC,_,_,_,rfl⟩⟩
theorem gP.cell{W:World}{p:Nat}{s:Bs}{op:Nat}{A:Nat→Prop}{g:cG}{v:Value}(h:gP W p s op A g v):∃i bad,PB W p s i op bad:=by
 cases g with
 |aq x t=>obtain⟨⟨q,b,c,d,a⟩,j⟩:=h;exact⟨_,_,a⟩
 |ay q e=>exact⟨_,_,h.2.2.1⟩
theorem J5{s:Bs}{k i:Nat}(h:Lib.hasPrefix (rs s i) [33]=false):je s k i=Cu s k i:=by rw[wC];unfold uf;rw[h];rfl
theorem L3{s:Bs}{i:Nat}(h:Lib.hasPrefix (rs s i) [33]=true):je s 0 i=.ay (pa s i) 3:=by rw[wC];unfold uf;rw[h];rfl
theorem PU{s:Bs}{k i:Nat}(h:Lib.hasPrefix (rs s i) [33]=true):je s (k+1) i=(je s k (pa s i+1)).map (ry 3):=by rw[wC];unfold uf;rw[h];show(match je s k (pa s i+1) with|.ay p e=>cG.ay p e|.aq x t=>cG.aq (ry 3 x) t)=_;cases je s k (pa s i+1)<;>rfl
theorem J6{s:Bs}{k i:Nat}(h:i≤s.length):Cu s k (pa s i)=Cu s k i:=by unfold Cu zA qL;rw[pJ s h,fL s h]
theorem ba{fn:Func}{W:World}{tmps:Array Value}{b a:Nat}{v0 v1 v2 c d e i j k l:Value}(h:fn.results=#[.cell a 136])(n:tmps.getD a undef=.pointer (some ⟨b,0,none⟩))(m:W.heap[b]? =some (.cells #[v0,v1,v2,c,d,e,i,j,k,l] 136)):
 (results fn tmps).run Tryz.prog W=.ok (.agg #[v0,v1,v2,c,d,e,i,j,k,l]) W:=by
 obtain⟨p,q,r,s,t,u,w,x,y,z⟩:=aR m;have o:tmps[a]?.getD undef=.pointer (some ⟨b,0,none⟩):=by rw[←n];simp
 simp[results,h,go_sem,o,p,q,r,s,t,u,w,x,y,z]
theorem Fj{a:Array Value}(h:a.size=10):∃v0 v1 v2 b c d e i j k,a=#[v0,v1,v2,b,c,d,e,i,j,k]:=by
 obtain⟨l⟩:=a
 match l,h with
 |[v0,v1,v2,b,c,d,e,i,j,k],_=>exact⟨v0,v1,v2,b,c,d,e,i,j,k,rfl⟩
theorem J7{w W0 m a:World}{p op:Nat}{s:Bs}{g:cG}{d:Int}{k:Bs}{u9:bc}{b:Option Addr}{j c:Nat}(C:Below w.heap.size w W0)(F:∃l,W0.heap[w.heap.size]? =some (.cells l 136)∧l.size=10)(u:ak p W0 a)(y:p<w.heap.size)(D:w.heap.size<m.heap.size)(E:m.heap.size≤a.heap.size)
 (J:gP a p s (op+1) (du m.heap.size) g (dY d k u9 (.slice b j c))):
 ∃o,o=(a.alloc (.cells (dC d k u9 (.slice b j c)).toArray 136)).alloc (.cells (dC 3 [] aC (.slice (some ⟨a.heap.size,0,none⟩) 1 1)).toArray 136)∧(∃i bad,PB o p s i (op+1) bad)∧o.heap[a.heap.size+1]? =some (.cells (dC 3 [] aC (.slice (some ⟨a.heap.size,0,none⟩) 1 1)).toArray 136)∧
  ∃n,n=o.setCell ⟨p,2,none⟩ (.int .i64 (op:Int))∧n.heap[a.heap.size+1]? =some (.cells (dC 3 [] aC (.slice (some ⟨a.heap.size,0,none⟩) 1 1)).toArray 136)∧(∃l,n.heap[w.heap.size]? =some (.cells l 136)∧l.size=10)∧
   ak p w (dO n w.heap.size 3 [] aC (.slice (some ⟨a.heap.size,0,none⟩) 1 1))∧gP (dO n w.heap.size 3 [] aC (.slice (some ⟨a.heap.size,0,none⟩) 1 1)) p s op (du w.heap.size) (g.map (ry 3)) (dY 3 [] aC (.slice (some ⟨a.heap.size,0,none⟩) 1 1)):=by
 have r:Below a.heap.size a (a.alloc (.cells (dC d k u9 (.slice b j c)).toArray 136)):=(ar _ _).alloc (ag _) _;have t:Below a.heap.size a ((a.alloc (.cells (dC d k u9 (.slice b j c)).toArray 136)).alloc (.cells (dC 3 [] aC (.slice (some ⟨a.heap.size,0,none⟩) 1 1)).toArray 136)):=r.alloc r.size _;have z:=(gP.one 3 J (show du m.heap.size a.heap.size from E)).next (W':=(a.alloc (.cells (dC d k u9 (.slice b j c)).toArray 136)).alloc (.cells (dC 3 [] aC (.slice (some ⟨a.heap.size,0,none⟩) 1 1)).toArray 136)) ((ar _ _).alloc (ag _) _)
 have q:=au (a.alloc (.cells (dC d k u9 (.slice b j c)).toArray 136)) (.cells (dC 3 [] aC (.slice (some ⟨a.heap.size,0,none⟩) 1 1)).toArray 136);rw[aO] at q;have I:¬du m.heap.size p:=fun h=>by have:m.heap.size≤p:=h;omega
 have K:=z.op I op;obtain⟨l,H,L⟩:=F;have A:=bu H (u.trans (ak.ai t)) y;have G:ak p w (((a.alloc (.cells (dC d k u9 (.slice b j c)).toArray 136)).alloc (.cells (dC 3 [] aC (.slice (some ⟨a.heap.size,0,none⟩) 1 1)).toArray 136)).setCell ⟨p,2,none⟩ (.int .i64 (op:Int))):=((ak.ai C).trans (u.trans (ak.ai t))).set;have B:ak p ((a.alloc (.cells (dC d k u9 (.slice b j c)).toArray 136)).alloc (.cells (dC 3 [] aC (.slice (some ⟨a.heap.size,0,none⟩) 1 1)).toArray 136)) (((a.alloc (.cells (dC d k u9 (.slice b j c)).toArray 136)).alloc (.cells (dC 3 [] aC (.slice (some ⟨a.heap.size,0,none⟩) 1 1)).toArray 136)).setCell ⟨p,2,none⟩ (.int .i64 (op:Int))):=(ak.refl _ _).set;have x:=gq G y D K;exact⟨_,rfl,z.cell,q,_,rfl,(B.block _ (aB.1 q).1 (by intro e;cases e;omega)).trans q,⟨l,(B.block _ (aB.1 A).1 (by intro e;cases e;omega)).trans A,L⟩,x.1,x.2⟩
theorem UU(w:World)(p:Nat)(s:Bs)(i op k:Nat)(d:i≤s.length)(hs:s.length≤100000)(br:op+(k+1)=16)(hC:nf 201 #[.pointer (some ⟨p,0,none⟩)] p s op (Cu s (k+1)) (GP p))
 (hN:nf 157 #[.pointer (some ⟨p,0,none⟩)] p s (op+1) (je s k) (GP p))(a0:GP p w)(h:PB w p s i op 0):
 Calls Tryz.prog 157 #[.pointer (some ⟨p,0,none⟩)] w fun e w'=>∃v,e=.returned v∧ak p w w'∧Hid (gP w' p s op (du w.heap.size) (je s (k+1) i) v):=by
 have H:=ad h.lt;have HB:=ad (show PB (w.alloc (.cells #[.int .i64 0,.string ⟨#[]⟩,.int .i64 0,.int .i64 0,.string ⟨#[]⟩,.string ⟨#[]⟩,.string ⟨#[]⟩,.bool false,.bool false,.slice none 0 0] 136)) p s i op 0 from h.next ((ar _ _).alloc (ag _) _));have q:=ad (show Below w.heap.size w (w.alloc (.cells #[.int .i64 0,.string ⟨#[]⟩,.int .i64 0,.int .i64 0,.string ⟨#[]⟩,.string ⟨#[]⟩,.string ⟨#[]⟩,.bool false,.bool false,.slice none 0 0] 136)) from(ar _ _).alloc (ag _) _);have ao:=ad (au w (.cells #[.int .i64 0,.string ⟨#[]⟩,.int .i64 0,.int .i64 0,.string ⟨#[]⟩,.string ⟨#[]⟩,.string ⟨#[]⟩,.bool false,.bool false,.slice none 0 0] 136));have ap:=ad (show(w.alloc (.cells #[.int .i64 0,.string ⟨#[]⟩,.int .i64 0,.int .i64 0,.string ⟨#[]⟩,.string ⟨#[]⟩,.string ⟨#[]⟩,.bool false,.bool false,.slice none 0 0] 136)).heap.size=w.heap.size+1 by rw[aO]);have bd:=ad hN;have bb:=ad hC;clear h hN hC;go_enter Tryz.func157,Tryz.ntmps157;go_wp2_with fail;generalize w.alloc (.cells #[.int .i64 0,.string ⟨#[]⟩,.int .i64 0,.int .i64 0,.string ⟨#[]⟩,.string ⟨#[]⟩,.string ⟨#[]⟩,.bool false,.bool false,.slice none 0 0] 136)=W0 at*;refine(dF W0 p s i op d hs HB.out).mono ?_;rintro e D⟨rfl,aq,a4⟩;have al:=ad aq;have r:=ad a4;clear aq a4;go_wp2_with fail;refine(cj ⟨(rs s i).toArray⟩ ⟨#[33]⟩ D).mono ?_;rintro e w2⟨rfl,rfl⟩;rw[show Lib.hasPrefix (⟨(rs s i).toArray⟩:ByteArray).data.toList (⟨#[33]⟩:ByteArray).data.toList=Lib.hasPrefix (rs s i) [33] from rfl];cases l:Lib.hasPrefix (rs s i) [33]
 ·have F:=ad (J5 (k:=k+1) l);clear l;go_wp2_with fail;refine(bb.out D (pa s i) (cY s i) ((a0.aN (ak.ai q.out)).aN r.out) al.out).mono ?_;rintro e o⟨v,rfl,n,ab⟩;obtain⟨A,C,u9,x,B,y,rfl⟩:=ab.F4;have c:=ad (r.out.trans n);have G:=ad (bu ao.out c.out H.out);have HE:=ad (gq ((ak.ai q.out).trans c.out) H.out (by have h1:=ap.out;have h2:=r.out.size;omega:w.heap.size<D.heap.size) ab);have I:=ad (aK (k:=A) (t:=C) (u:=u9) (kv:=.slice x B y) G.out);obtain⟨K,L,m,M,N,O,Q,R,S,T⟩:=aJ G.out;obtain⟨V,X,Y,Z,g4,g5,g6,g7,g8,g9⟩:=aR G.out;clear n ab;go_wp2_with fail;clear K L m M N O Q R S T V X Y Z g4 g5 g6 g7 g8 g9;obtain⟨y0,y1,y2,y3,y4,y5,y6,y7,y8,y9⟩:=aM I.out;refine aD (v:=dY A C u9 (.slice x B y)) ?_ rfl ⟨_,rfl,HE.out.1,ad (by rw[F.out,←J6 d];exact HE.out.2)⟩;simp[results,Tryz.f157,go_sem,y0,y1,y2,y3,y4,y5,y6,y7,y8,y9]
 ·have F:=ad (PU (k:=k) l);have a2:=nR d l;simp only[mF] at a2;have HP:=ad l;clear l;go_wp2_with fail;refine(fM D p s (pa s i) op [33] (cY s i) hs (by decide) al.out).mono ?_;rintro e w2⟨rfl,aa,a5⟩;rw[fL s d,HP.out,pJ s d] at aa;rw[fL s d,HP.out];have a8:=ad (show PB w2 p s (pa s i+1) op 0 from aa);have bk:=ad (r.out.trans a5);clear aa a5;go_wp2_with fail;refine(tf w2 p s (pa s i+1) op 0 (by omega) a8.out).mono ?_;rintro e o⟨rfl,av,n⟩;have am:=ad av;have c:=ad (bk.out.trans n);clear av n;go_wp2_with fail;refine(bd.out o (pa s i+1) a2 ((a0.aN (ak.ai q.out)).aN c.out) am.out).mono ?_;rintro e a⟨v,rfl,af,ac⟩;obtain⟨A,C,u9,x,B,y,rfl⟩:=ac.F4;have bl:=ad (c.out.trans af);have be:=ad ac;have bf:=ad (show w.heap.size<o.heap.size by have h1:=ap.out;have h2:=c.out.size;omega);have bg:=ad (show o.heap.size≤a.heap.size from af.size);have bp:=ad (show p<o.heap.size from am.out.lt);clear af ac;have bo:=J7 q.out ⟨_,ao.out,rfl⟩ bl.out H.out bf.out bg.out be.out;obtain⟨W5,a6,⟨j,bad,a1⟩,bn,W6,a7,ay,⟨cs,z,a3⟩,aU⟩:=bo;go_upto_region 4 with fail;generalize hq:(a.alloc (.cells #[.int .i64 A,.string ⟨C.toArray⟩,.int .i64 u9.src,.int .i64 u9.bJ,.string ⟨u9.name.toArray⟩,.string ⟨u9.key.toArray⟩,.string ⟨u9.cK.toArray⟩,.bool u9.hk,.bool u9.hd,.slice x B y] 136)).alloc (.cells #[.int .i64 3,.string ⟨#[]⟩,.int .i64 0,.int .i64 0,.string ⟨#[]⟩,.string ⟨#[]⟩,.string ⟨#[]⟩,.bool false,.bool false,.slice (some ⟨a.heap.size,0,none⟩) 1 1] 136)=W;obtain rfl:W5=W:=a6.trans hq;clear hq a6;obtain⟨-,-,J,-,-,-,m,-⟩:=a1.pc;have an:=ad aU;have a9:=ad (show W6.heap[a.heap.size+1]? =some (.cells #[.int .i64 3,.string ⟨#[]⟩,.int .i64 0,.int .i64 0,.string ⟨#[]⟩,.string ⟨#[]⟩,.string ⟨#[]⟩,.bool false,.bool false,.slice (some ⟨a.heap.size,0,none⟩) 1 1] 136) from ay);have E:=ad z;have bi:=ad a3;clear a1 bn ay z a3 aU;go_upto_region 5 with fail;rw[←a7];clear a7 J m;obtain⟨v0,v1,v2,v3,v4,v5,v6,v7,v8,v9,z⟩:∃v0 v1 v2 v3 v4 v5 v6 v7 v8 v9,cs=#[v0,v1,v2,v3,v4,v5,v6,v7,v8,v9]:=Fj bi.out;subst z;obtain⟨c0,c1,J,c3,c4,c5,c6,c7,c8,bm⟩:=aR a9.out;obtain⟨K,L,m,M,N,O,Q,R,S,T⟩:=aJ E.out;obtain⟨V,X,Y,Z,g4,g5,g6,g7,g8,g9⟩:=aR E.out;have I:=ad (show(dO W6 w.heap.size 3 [] aC (.slice (some ⟨a.heap.size,0,none⟩) 1 1)).heap[w.heap.size]? =some (.cells #[.int .i64 3,.string ⟨#[]⟩,.int .i64 0,.int .i64 0,.string ⟨#[]⟩,.string ⟨#[]⟩,.string ⟨#[]⟩,.bool false,.bool false,.slice (some ⟨a.heap.size,0,none⟩) 1 1] 136) from aK (k:=3) (t:=[]) (u:=aC) (kv:=.slice (some ⟨a.heap.size,0,none⟩) 1 1) E.out);go_wp2_with fail;clear c0 c1 J c3 c4 c5 c6 c7 c8 bm K L m M N O Q R S T V X Y Z g4 g5 g6 g7 g8 g9;refine aD (v:=dY 3 [] aC (.slice (some ⟨a.heap.size,0,none⟩) 1 1)) ?_ rfl ⟨_,rfl,an.out.1,ad (by rw[F.out];exact an.out.2)⟩;exact ba (b:=w.heap.size) rfl rfl I.out
theorem SM(w:World)(p:Nat)(s:Bs)(i op:Nat)(l:i≤s.length)(hs:s.length≤100000)(a1:op=16)(hC:nf 201 #[.pointer (some ⟨p,0,none⟩)] p s op (Cu s 0) (GP p))
 (hN:iC 157 #[.pointer (some ⟨p,0,none⟩)] p s (GP p))(a0:GP p w)(h:PB w p s i op 0):
 Calls Tryz.prog 157 #[.pointer (some ⟨p,0,none⟩)] w fun e w'=>∃v,e=.returned v∧ak p w w'∧Hid (gP w' p s op (du w.heap.size) (je s 0 i) v):=by
 have H:=ad h.lt;have HB:=ad (show PB (w.alloc (.cells #[.int .i64 0,.string ⟨#[]⟩,.int .i64 0,.int .i64 0,.string ⟨#[]⟩,.string ⟨#[]⟩,.string ⟨#[]⟩,.bool false,.bool false,.slice none 0 0] 136)) p s i op 0 from h.next ((ar _ _).alloc (ag _) _));have A:=ad (show Below w.heap.size w (w.alloc (.cells #[.int .i64 0,.string ⟨#[]⟩,.int .i64 0,.int .i64 0,.string ⟨#[]⟩,.string ⟨#[]⟩,.string ⟨#[]⟩,.bool false,.bool false,.slice none 0 0] 136)) from(ar _ _).alloc (ag _) _);have an:=ad (au w (.cells #[.int .i64 0,.string ⟨#[]⟩,.int .i64 0,.int .i64 0,.string ⟨#[]⟩,.string ⟨#[]⟩,.string ⟨#[]⟩,.bool false,.bool false,.slice none 0 0] 136));have ao:=ad (show(w.alloc (.cells #[.int .i64 0,.string ⟨#[]⟩,.int .i64 0,.int .i64 0,.string ⟨#[]⟩,.string ⟨#[]⟩,.string ⟨#[]⟩,.bool false,.bool false,.slice none 0 0] 136)).heap.size=w.heap.size+1 by rw[aO]);have be:=ad hN;have bd:=ad hC;have bf:=ad a1;have o1:op≤16:=by omega
 clear h hN hC a1;go_enter Tryz.func157,Tryz.ntmps157;go_wp2_with fail;generalize w.alloc (.cells #[.int .i64 0,.string ⟨#[]⟩,.int .i64 0,.int .i64 0,.string ⟨#[]⟩,.string ⟨#[]⟩,.string ⟨#[]⟩,.bool false,.bool false,.slice none 0 0] 136)=W0 at*;refine(dF W0 p s i op l hs HB.out).mono ?_;rintro e D⟨rfl,ap,a5⟩;have af:=ad ap;have B:=ad a5;clear ap a5;go_wp2_with fail;refine(cj ⟨(rs s i).toArray⟩ ⟨#[33]⟩ D).mono ?_;rintro e w2⟨rfl,rfl⟩;rw[show Lib.hasPrefix (⟨(rs s i).toArray⟩:ByteArray).data.toList (⟨#[33]⟩:ByteArray).data.toList=Lib.hasPrefix (rs s i) [33] from rfl];cases m:Lib.hasPrefix (rs s i) [33]
 ·have F:=ad (J5 (k:=0) m);clear m;go_wp2_with fail;refine(bd.out D (pa s i) (cY s i) ((a0.aN (ak.ai A.out)).aN B.out) af.out).mono ?_;rintro e c⟨v,rfl,r,ab⟩;obtain⟨x,z,u9,n,y,o,rfl⟩:=ab.F4;have d:=ad (B.out.trans r);have G:=ad (bu an.out d.out H.out);have HE:=ad (gq ((ak.ai A.out).trans d.out) H.out (by have h1:=ao.out;have h2:=B.out.size;omega:w.heap.size<D.heap.size) ab);have I:=ad (aK (k:=x) (t:=z) (u:=u9) (kv:=.slice n y o) G.out);obtain⟨K,L,q,M,N,O,Q,R,S,T⟩:=aJ G.out;obtain⟨V,X,Y,Z,g4,g5,g6,g7,g8,g9⟩:=aR G.out;clear r ab;go_wp2_with fail;clear K L q M N O Q R S T V X Y Z g4 g5 g6 g7 g8 g9;obtain⟨y0,y1,y2,y3,y4,y5,y6,y7,y8,y9⟩:=aM I.out;refine aD (v:=dY x z u9 (.slice n y o)) ?_ rfl ⟨_,rfl,HE.out.1,ad (by rw[F.out,←J6 l];exact HE.out.2)⟩;simp[results,Tryz.f157,go_sem,y0,y1,y2,y3,y4,y5,y6,y7,y8,y9]
 ·have F:=ad (L3 m);have bs:=nR l m;simp only[mF] at bs;have HP:=ad m;clear m;go_wp2_with fail;refine(fM D p s (pa s i) op [33] (cY s i) hs (by decide) af.out).mono ?_;rintro e w2⟨rfl,aa,a6⟩;rw[fL s l,HP.out,pJ s l] at aa;rw[fL s l,HP.out];have a9:=ad (show PB w2 p s (pa s i+1) op 0 from aa);have bm:=ad (B.out.trans a6);clear aa a6;go_wp2_with fail;refine(pL w2 p s (pa s i+1) op (by omega) (by omega) bf.out a9.out).mono ?_;rintro e c⟨rfl,aq,r⟩;have al:=ad (show PB c p s (pa s i) (op+1) 3 from aq);have d:=ad (bm.out.trans r);clear aq r;go_wp2_with fail;refine(be.out c (pa s i) (op+1) 3 (cY s i) (by decide) ((a0.aN (ak.ai A.out)).aN d.out) al.out).mono ?_;rintro e a⟨v,rfl,ac,a2,bv⟩;obtain⟨x,z,u9,n,y,o,rfl⟩:=bv;have bn:=ad (d.out.trans ac);have bg:=ad (show gP a p s (op+1) (du c.heap.size) (.ay (pa s i) 3) _ from⟨by decide,cY s i,a2,⟨x,z,u9,n,y,o,rfl⟩⟩);have bi:=ad (show w.heap.size<c.heap.size by have h1:=ao.out;have h2:=d.out.size;omega);have bk:=ad (show c.heap.size≤a.heap.size from ac.size);have bx:=ad (show p<c.heap.size from al.out.lt);clear ac a2;have br:=J7 A.out ⟨_,an.out,rfl⟩ bn.out H.out bi.out bk.out bg.out;obtain⟨W5,a7,⟨j,bad,a3⟩,bp,W6,a8,av,⟨cs,C,a4⟩,aU⟩:=br;go_upto_region 4 with fail;generalize hq:(a.alloc (.cells #[.int .i64 x,.string ⟨z.toArray⟩,.int .i64 u9.src,.int .i64 u9.bJ,.string ⟨u9.name.toArray⟩,.string ⟨u9.key.toArray⟩,.string ⟨u9.cK.toArray⟩,.bool u9.hk,.bool u9.hd,.slice n y o] 136)).alloc (.cells #[.int .i64 3,.string ⟨#[]⟩,.int .i64 0,.int .i64 0,.string ⟨#[]⟩,.string ⟨#[]⟩,.string ⟨#[]⟩,.bool false,.bool false,.slice (some ⟨a.heap.size,0,none⟩) 1 1] 136)=W;obtain rfl:W5=W:=a7.trans hq;clear hq a7;obtain⟨-,-,J,-,-,-,q,-⟩:=a3.pc;have am:=ad aU;have bb:=ad (show W6.heap[a.heap.size+1]? =some (.cells #[.int .i64 3,.string ⟨#[]⟩,.int .i64 0,.int .i64 0,.string ⟨#[]⟩,.string ⟨#[]⟩,.string ⟨#[]⟩,.bool false,.bool false,.slice (some ⟨a.heap.size,0,none⟩) 1 1] 136) from av);have E:=ad C;have bl:=ad a4;clear a3 bp av C a4 aU;go_upto_region 5 with fail;rw[←a8];clear a8 J q;obtain⟨v0,v1,v2,v3,v4,v5,v6,v7,v8,v9,C⟩:∃v0 v1 v2 v3 v4 v5 v6 v7 v8 v9,cs=#[v0,v1,v2,v3,v4,v5,v6,v7,v8,v9]:=Fj bl.out;subst C;obtain⟨c0,c1,J,c3,c4,c5,c6,c7,c8,bo⟩:=aR bb.out;obtain⟨K,L,q,M,N,O,Q,R,S,T⟩:=aJ E.out;obtain⟨V,X,Y,Z,g4,g5,g6,g7,g8,g9⟩:=aR E.out;have I:=ad (show(dO W6 w.heap.size 3 [] aC (.slice (some ⟨a.heap.size,0,none⟩) 1 1)).heap[w.heap.size]? =some (.cells #[.int .i64 3,.string ⟨#[]⟩,.int .i64 0,.int .i64 0,.string ⟨#[]⟩,.string ⟨#[]⟩,.string ⟨#[]⟩,.bool false,.bool false,.slice (some ⟨a.heap.size,0,none⟩) 1 1] 136) from aK (k:=3) (t:=[]) (u:=aC) (kv:=.slice (some ⟨a.heap.size,0,none⟩) 1 1) E.out);go_wp2_with fail;clear c0 c1 J c3 c4 c5 c6 c7 c8 bo K L q M N O Q R S T V X Y Z g4 g5 g6 g7 g8 g9;refine aD (v:=dY 3 [] aC (.slice (some ⟨a.heap.size,0,none⟩) 1 1)) ?_ rfl ⟨_,rfl,am.out.1,ad (by rw[F.out];exact am.out.2)⟩;exact ba (b:=w.heap.size) rfl rfl I.out
theorem IJ(w:World)(p:Nat)(s:Bs)(i op:Nat)(bad:Int)(hi:i≤s.length)(hs:s.length≤100000)(ao:bad≠0)(hC:iC 201 #[.pointer (some ⟨p,0,none⟩)] p s (GP p))(ap:GP p w)(h:PB w p s i op bad):
 Calls Tryz.prog 157 #[.pointer (some ⟨p,0,none⟩)] w fun e w'=>∃v,e=.returned v∧ak p w w'∧Hid (PB w' p s i op bad∧Cs v):=by
 have B:=ad h.lt;have HB:=ad (show PB (w.alloc (.cells #[.int .i64 0,.string ⟨#[]⟩,.int .i64 0,.int .i64 0,.string ⟨#[]⟩,.string ⟨#[]⟩,.string ⟨#[]⟩,.bool false,.bool false,.slice none 0 0] 136)) p s i op bad from h.next ((ar _ _).alloc (ag _) _));have C:=ad (show Below w.heap.size w (w.alloc (.cells #[.int .i64 0,.string ⟨#[]⟩,.int .i64 0,.int .i64 0,.string ⟨#[]⟩,.string ⟨#[]⟩,.string ⟨#[]⟩,.bool false,.bool false,.slice none 0 0] 136)) from(ar _ _).alloc (ag _) _);have af:=ad (au w (.cells #[.int .i64 0,.string ⟨#[]⟩,.int .i64 0,.int .i64 0,.string ⟨#[]⟩,.string ⟨#[]⟩,.string ⟨#[]⟩,.bool false,.bool false,.slice none 0 0] 136));have aU:=ad (show(w.alloc (.cells #[.int .i64 0,.string ⟨#[]⟩,.int .i64 0,.int .i64 0,.string ⟨#[]⟩,.string ⟨#[]⟩,.string ⟨#[]⟩,.bool false,.bool false,.slice none 0 0] 136)).heap.size=w.heap.size+1 by rw[aO]);have A:=ad ao;have ac:=ad hC;clear h hC ao;go_enter Tryz.func157,Tryz.ntmps157;go_wp2_with fail;generalize w.alloc (.cells #[.int .i64 0,.string ⟨#[]⟩,.int .i64 0,.int .i64 0,.string ⟨#[]⟩,.string ⟨#[]⟩,.string ⟨#[]⟩,.bool false,.bool false,.slice none 0 0] 136)=W0 at*;refine(iQ W0 p s i op bad hi hs A.out HB.out).mono ?_;rintro e w1⟨rfl,am,aq⟩;have ab:=ad am;have E:=ad aq;clear am aq;go_wp2_with fail;refine(cj ⟨(s.drop i).toArray⟩ ⟨#[33]⟩ w1).mono ?_;rintro e w2⟨rfl,rfl⟩;rw[show Lib.hasPrefix (⟨(s.drop i).toArray⟩:ByteArray).data.toList (⟨#[33]⟩:ByteArray).data.toList=Lib.hasPrefix (s.drop i) [33] from rfl];cases hp:Lib.hasPrefix (s.drop i) [33]
 ·clear hp;go_wp2_with fail;refine(ac.out w1 i op bad hi A.out ((ap.aN (ak.ai C.out)).aN E.out) ab.out).mono ?_;rintro e w3⟨v,rfl,z,y,aa⟩;obtain⟨m,q,u9,j,o,l,rfl⟩:=aa;have x:=ad (E.out.trans z);have d:=ad (bu af.out x.out B.out);have r:=ad (kD (k:=m) (t:=q) (u:=u9) (a:=j) (n:=o) (c:=l) ((ak.ai C.out).trans x.out) B.out y);have D:=ad (aK (k:=m) (t:=q) (u:=u9) (kv:=.slice j o l) d.out);obtain⟨F,G,H,I,J,K,L,M,N,O⟩:=aJ d.out;obtain⟨Q,R,S,T,V,W,X,Y,Z,g9⟩:=aR d.out;clear z y;go_wp2_with fail;clear F G H I J K L M N O Q R S T V W X Y Z g9;refine aD (v:=dY m q u9 (.slice j o l)) ?_ rfl ⟨_,rfl,r.out.1,ad r.out.2⟩;exact ba (b:=w.heap.size) rfl rfl D.out
 ·clear hp;go_wp2_with fail;refine(qo w1 p s i op bad ⟨#[33]⟩ A.out ab.out).mono ?_;rintro e w2⟨rfl,an,av⟩;have ay:=ad an;have al:=ad (E.out.trans av);clear an av;go_wp2_with fail;refine(ac.out w2 i op bad hi A.out ((ap.aN (ak.ai C.out)).aN al.out) ay.out).mono ?_;rintro e w3⟨v,rfl,z,y,aa⟩;obtain⟨m,q,u9,j,o,l,rfl⟩:=aa;have x:=ad (al.out.trans z);have d:=ad (bu af.out x.out B.out);have r:=ad (kD (k:=m) (t:=q) (u:=u9) (a:=j) (n:=o) (c:=l) ((ak.ai C.out).trans x.out) B.out y);have D:=ad (aK (k:=m) (t:=q) (u:=u9) (kv:=.slice j o l) d.out);obtain⟨F,G,H,I,J,K,L,M,N,O⟩:=aJ d.out;obtain⟨Q,R,S,T,V,W,X,Y,Z,g9⟩:=aR d.out;clear z y;go_wp2_with fail;clear F G H I J K L M N O Q R S T V W X Y Z g9;refine aD (v:=dY m q u9 (.slice j o l)) ?_ rfl ⟨_,rfl,r.out.1,ad r.out.2⟩;exact ba (b:=w.heap.size) rfl rfl D.out
end Go.Proofs.YtogchgjfialleaaGreatDoor
namespace Go.Proofs.YtogchgjfialleaaGreatDoor
open Go.RowKit
def Cw(W:World)(p:Nat)(s:Bs)(op:Nat):cG→Prop
 |.aq _ t=>∃a:Nat,a≤s.length∧t≤s.length∧rs s a=rs s t∧PB W p s a op 0
 |.ay q e=>e≠0∧q≤s.length∧PB W p s q op e
def UW(s:Bs):cG→Bs
 |.aq _ t=>rs s t
 |.ay q _=>s.drop q
theorem gP.box{W:World}{p:Nat}{s:Bs}{op:Nat}{A:Nat→Prop}{g:cG}{v:Value}(h:gP W p s op A g v):Cw W p s op g:=by
 cases g with
 |aq x t=>exact h.1
 |ay q e=>exact⟨h.1,h.2.1,h.2.2.1⟩
theorem Cw.next{W W':World}{p:Nat}{s:Bs}{op:Nat}{g:cG}(h:Cw W p s op g)(b:Below W.heap.size W W'):Cw W' p s op g:=by
 cases g with
 |aq x t=>obtain⟨a,c,d,i,j⟩:=h;exact⟨a,c,d,i,j.next b⟩
 |ay q e=>exact⟨h.1,h.2.1,h.2.2.next b⟩
theorem Cw.lt{W:World}{p:Nat}{s:Bs}{op:Nat}{g:cG}(h:Cw W p s op g):p<W.heap.size:=by
 cases g with
 |aq x t=>obtain⟨a,c,d,i,b⟩:=h;exact b.lt
 |ay q e=>exact h.2.2.lt
theorem Fk(w:World)(p:Nat)(s:Bs)(op:Nat)(g:cG)(j:s.length≤100000)(h:Cw w p s op g):
 Calls Tryz.prog 112 #[.pointer (some ⟨p,0,none⟩)] w fun e w'=>e=.returned (.string ⟨(UW s g).toArray⟩)∧Cw w' p s op g∧ak p w w':=by
 cases g with
 |aq x t=>obtain⟨a,d,k,i,l⟩:=h;refine(dF w p s a op d j l).mono ?_;rintro e w'⟨rfl,b,c⟩;exact⟨by rw[i];rfl,⟨pa s a,cY s a,k,(fL s d).trans i,b⟩,c⟩
 |ay q e=>refine(iQ w p s q op e h.2.1 j h.1 h.2.2).mono ?_;rintro m w'⟨rfl,b,c⟩;exact⟨rfl,⟨h.1,h.2.1,b⟩,c⟩
def UX(s:Bs)(t:Bs):cG→Bool
 |.aq _ a=>Lib.hasPrefix (rs s a) t
 |.ay _ _=>false
def Wf(s:Bs)(t:Bs):cG→cG
 |.aq x a=>bif Lib.hasPrefix (rs s a) t then .aq x (pa s a+t.length) else .aq x a
 |.ay q e=>.ay q e
theorem ux(w:World)(p:Nat)(s:Bs)(op:Nat)(g:cG)(t:Bs)(u:t.length≤100)(r:s.length≤100000)(h:Cw w p s op g):
 Calls Tryz.prog 199 #[.pointer (some ⟨p,0,none⟩),.string ⟨t.toArray⟩] w fun e w'=>e=.returned (.bool (UX s t g))∧Cw w' p s op (Wf s t g)∧ak p w w':=by
 cases g with
 |aq x b=>
  obtain⟨a,m,d,i,n⟩:=h;refine(fM w p s a op t m r u n).mono ?_;rintro e w'⟨rfl,c,k⟩;have o:pa s a=pa s b:=by unfold pa;rw[i]
  refine⟨by rw[i];rfl, ?_,k⟩;rw[i,o] at c;show Cw w' p s op (bif Lib.hasPrefix (rs s b) t then .aq x (pa s b+t.length) else .aq x b);cases j:Lib.hasPrefix (rs s b) t
  ·rw[j] at c;exact⟨pa s b,cY s b,d,fL s d,c⟩
  ·rw[j] at c;have l:=nR d j;exact⟨pa s b+t.length,l,l,rfl,c⟩
 |ay q e=>refine(qo w p s q op e ⟨t.toArray⟩ h.1 h.2.2).mono ?_;rintro y w'⟨rfl,c,k⟩;exact⟨rfl,⟨h.1,h.2.1,c⟩,k⟩
def lu:Nat→Bs
 |0=>[61,61]
 |1=>[33,61]
 |2=>[60]
 |3=>[60,61]
 |4=>[62]
 |_=>[62,61]
def gJ(r:Bs):Nat→Option Nat
 |0=>none
 |k+1=>match gJ r k with
  |none=>bif Lib.hasPrefix r (lu k) then some k else none
  |some b=>bif Lib.hasPrefix r (lu k)&&decide ((lu b).length<(lu k).length) then some k else some b
theorem yM(r:Bs):∀k b,gJ r k=some b→b<k∧Lib.hasPrefix r (lu b)=true
 |0,b,h=>by cases h
 |k+1,b,h=>by
  unfold gJ at h;cases c:gJ r k with
  |none=>
   rw[c] at h;cases a:Lib.hasPrefix r (lu k)
   ·rw[a] at h;cases h
   ·rw[a] at h;cases h;exact⟨Nat.lt_succ_self _,a⟩
  |some b2=>
   rw[c] at h;have d:=yM r k b2 c;cases a:Lib.hasPrefix r (lu k)&&decide ((lu b2).length<(lu k).length)
   ·simp only[a,cI] at h;cases h;exact⟨by omega,d.2⟩
   ·simp only[a,aS] at h;cases h;rw[cW] at a;exact⟨Nat.lt_succ_self _,a.1⟩
theorem SN(k:Nat):(lu k).length≤2∧1≤(lu k).length:=by unfold lu;split<;>decide
theorem Bg(r:Bs):oV r=(gJ r 6).map fun b=>(b,(lu b).length):=by
 unfold oV;simp only[gJ,lu];cases r with
 |nil=>rfl
 |cons c r=>
  have j:∀a:UInt8,Lib.hasPrefix (c::r) [a]=(a==c):=fun a=>by simp[Lib.hasPrefix,List.isPrefixOf]
  have k:∀a:UInt8,Lib.hasPrefix (c::r) [a,61]=(a==c&&Lib.hasPrefix r [61]):=fun a=>by simp[Lib.hasPrefix,List.isPrefixOf]
  simp only[j,k];cases Lib.hasPrefix r [61]
  ·simp only[CU,cI];cases d:(60:UInt8)==c
   ·cases h:(62:UInt8)==c<;>rfl
   ·have:c=60:=(bZ.1 d).symm;subst this;rfl
  ·simp only[Bool.and_true];cases e:(61:UInt8)==c
   ·cases i:(33:UInt8)==c
    ·cases d:(60:UInt8)==c
     ·cases h:(62:UInt8)==c<;>rfl
     ·have:c=60:=(bZ.1 d).symm;subst this;rfl
    ·have:c=33:=(bZ.1 i).symm;subst this;rfl
   ·have:c=61:=(bZ.1 e).symm;subst this;rfl
theorem yN(w:World):Calls Tryz.prog 238 #[] w fun e w'=>e=.returned (.slice (some ⟨w.heap.size,0,none⟩) 6 6)∧w'=w.alloc (.cells #[.string ⟨#[61,61]⟩,.string ⟨#[33,61]⟩,.string ⟨#[60]⟩,.string ⟨#[60,61]⟩,.string ⟨#[62]⟩,.string ⟨#[62,61]⟩] 9):=by go_enter Tryz.func238,Tryz.ntmps238;go_wp2_with fail;go_ret;exact⟨rfl,rfl⟩
theorem rM{W:World}{b k:Nat}(a:k<6)(h:W.heap[b]? =some (.cells #[.string ⟨#[61,61]⟩,.string ⟨#[33,61]⟩,.string ⟨#[60]⟩,.string ⟨#[60,61]⟩,.string ⟨#[62]⟩,.string ⟨#[62,61]⟩] 9)):W.cell? ⟨b,k,none⟩=some (.string ⟨(lu k).toArray⟩):=by
 match k,a with
 |0,_=>exact aj 0 h
 |1,_=>exact aj 1 h
 |2,_=>exact aj 2 h
 |3,_=>exact aj 3 h
 |4,_=>exact aj 4 h
 |5,_=>exact aj 5 h
end Go.Proofs.YtogchgjfialleaaGreatDoor
