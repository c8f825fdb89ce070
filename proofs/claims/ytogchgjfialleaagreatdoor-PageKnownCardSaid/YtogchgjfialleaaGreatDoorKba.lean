/- The walk of a comparison. -/
import Derived.Test.YtogchgjfialleaaGreatDoorKaz
set_option linter.unusedVariables false
set_option maxRecDepth 100000
set_option maxHeartbeats 4000000
namespace Go.Proofs.YtogchgjfialleaaGreatDoor
open Go.RowKit
def rN(s:Bs)(k:Nat):cG→cG
 |.ay q e=>.ay q e
 |.aq x t=>ou (zI s k) s x t
def Fl(o:Option Nat):Value:=match o with|none=>.int .i64 (-1)|some b=>.int .i64 (b:Int)
structure CI (W1 W:World) (p:Nat) (s:Bs) (op:Nat) (g:cG):Prop where
 aN:ak p W1 W
 box:Cw W p s op g
theorem CI.step{a W W':World}{p:Nat}{s:Bs}{op:Nat}{g:cG}(h:CI a W p s op g)(c:ak p W W')(b:Cw W' p s op g):CI a W' p s op g:=⟨h.aN.trans c,b⟩
theorem PX{r:Bs}{j:Nat}(h:Lib.hasPrefix r (lu j)=false):gJ r (j+1)=gJ r j:=by
 conv=>lhs;unfold gJ
 rw[h];cases gJ r j<;>rfl
theorem L4{r:Bs}{j:Nat}(h:Lib.hasPrefix r (lu j)=true)(a:gJ r j=none):gJ r (j+1)=some j:=by
 conv=>lhs;unfold gJ
 rw[h,a];rfl
theorem L5{r:Bs}{j b:Nat}(h:Lib.hasPrefix r (lu j)=true)(c:gJ r j=some b):gJ r (j+1)=if(lu b).length<(lu j).length then some j else some b:=by
 conv=>lhs;unfold gJ
 rw[h,c];show(bif true&&decide ((lu b).length<(lu j).length) then some j else some b)=_;by_cases a:(lu b).length<(lu j).length
 ·rw[bN a,ah a];rfl
 ·rw[cL a,ae a];rfl
theorem PY{s:Bs}{k:Nat}{g:cG}(h:gJ (UW s g) 6=none):rN s k g=g:=by
 cases g with
 |ay q e=>rfl
 |aq x t=>show ou (zI s k) s x t=_;unfold ou;rw[Bg,show gJ (rs s t) 6=none from h];rfl
theorem J8{W W':World}{p:Nat}{s:Bs}{op:Nat}{A:Nat→Prop}{g:cG}{v:Value}(h:gP W p s op A g v)(c:ak p W W')(b:¬A p)(a:Cw W' p s op g):gP W' p s op A g v:=by
 cases g with
 |aq x t=>exact⟨a,h.2.aN c b⟩
 |ay q e=>exact⟨a.1,a.2.1,a.2.2,h.2.2.2⟩
abbrev PZ(b:Nat)(k:Int)(t:Bs)(u:bc)(kv:Value)(w':World):Prop:=w'.cell? ⟨b,0,none⟩=some (.int .i64 k)∧w'.cell? ⟨b,1,none⟩=some (.string ⟨t.toArray⟩)∧w'.cell? ⟨b,2,none⟩=some (.int .i64 u.src)∧w'.cell? ⟨b,3,none⟩=some (.int .i64 u.bJ)∧w'.cell? ⟨b,4,none⟩=some (.string ⟨u.name.toArray⟩)∧w'.cell? ⟨b,5,none⟩=some (.string ⟨u.key.toArray⟩)∧w'.cell? ⟨b,6,none⟩=some (.string ⟨u.cK.toArray⟩)∧w'.cell? ⟨b,7,none⟩=some (.bool u.hk)∧w'.cell? ⟨b,8,none⟩=some (.bool u.hd)∧w'.cell? ⟨b,9,none⟩=some (kv)
theorem J9{W:World}{b:Nat}{k:Int}{t:Bs}{u:bc}{kv:Value}{T:TypeId}(h:W.heap[b]? =some (.cells (dC k t u kv).toArray T)):PZ b k t u kv W:=
 ⟨aj 0 h,aj 1 h,aj 2 h,aj 3 h,aj 4 h,aj 5 h,aj 6 h,aj 7 h,aj 8 h,aj 9 h⟩
theorem UY{s:Bs}{k a b:Nat}(h:rs s a=rs s b):nT s k a=nT s k b:=by unfold nT qL;rw[show pa s a=pa s b by unfold pa;rw[h],h]
theorem P0{s:Bs}{k b a t:Nat}{x:Ex}(h:gJ (rs s t) 6=some b)(c:rs s a=rs s (pa s t+(lu b).length)):rN s k (.aq x t)=(nT s k a).map (oA (4+b) x):=by show ou (zI s k) s x t=_;rw[UY c];unfold ou;rw[Bg,h];show(match qL (zI s k) s (pa s t+(lu b).length) with|.ay p e=>cG.ay p e|.aq y d=>cG.aq (oA (4+b) x y) d)=_;unfold nT;cases qL (zI s k) s (pa s t+(lu b).length)<;>rfl
theorem SO{w W0 b a:World}{p op:Nat}{s:Bs}{x:Ex}{M:Nat}{g:cG}{k:Int}{l m:Int}{o r:Bs}{u1 u6:bc}{a1 c:Option Addr}{n1 d n i:Nat}(J:gP b p s op (du W0.heap.size) (.aq x M) (dY l o u1 (.slice a1 n1 d)))(j:gP a p s op (du b.heap.size) g (dY m r u6 (.slice c n i)))(u:ak p b a)(I:¬du W0.heap.size p)
 (A:Below w.heap.size w W0)(G:ak p W0 b)(R:W0.heap.size=w.heap.size+1)(H:p<w.heap.size)(O:W0.heap.size≤b.heap.size):
 ak p w (dO (a.alloc (.cells (dC l o u1 (.slice a1 n1 d)++dC m r u6 (.slice c n i)).toArray 136)) w.heap.size k [] aC (.slice (some ⟨a.heap.size,0,none⟩) 2 2))∧
 gP (dO (a.alloc (.cells (dC l o u1 (.slice a1 n1 d)++dC m r u6 (.slice c n i)).toArray 136)) w.heap.size k [] aC (.slice (some ⟨a.heap.size,0,none⟩) 2 2)) p s op (du w.heap.size) (g.map (oA k x)) (dY k [] aC (.slice (some ⟨a.heap.size,0,none⟩) 2 2)):=by
 have t:Below a.heap.size a (a.alloc (.cells (dC l o u1 (.slice a1 n1 d)++dC m r u6 (.slice c n i)).toArray 136)):=(ar _ _).alloc (ag _) _;have Q:=u.size;have K:dR (du W0.heap.size) a x _:=J.2.aN u I;refine gq (N:=W0.heap.size) (((ak.ai A).trans (G.trans u)).trans (ak.ai t)) H (by omega) ?_;cases g with
 |ay q e=>exact⟨j.1,j.2.1,j.2.2.1.next t,⟨k,[],aC,_,_,_,rfl⟩⟩
 |aq y S=>obtain⟨⟨q,B,C,D,E⟩,F⟩:=j;have L:dR (du W0.heap.size) a y _:=jJ (fun z _ h=>by have:b.heap.size≤z:=h;show W0.heap.size≤z;omega) _ _ F;exact⟨⟨q,B,C,D,E.next t⟩,Fc k K L (show W0.heap.size≤a.heap.size by omega)⟩
theorem P3(w:World)(p:Nat)(s:Bs)(op k:Nat)(g:cG)(hs:s.length≤100000)(C:p<w.heap.size)(cx:GP p w)
 (hO:∀W,Below w.heap.size w W→Calls Tryz.prog 237 #[.pointer (some ⟨p,0,none⟩)] W fun e w'=>∃v,e=.returned v∧ak p W w'∧gP w' p s op (du W.heap.size) g v)
 (bo:∀x t,g=.aq x t→nf 237 #[.pointer (some ⟨p,0,none⟩)] p s op (nT s k) (GP p)):
 Calls Tryz.prog 201 #[.pointer (some ⟨p,0,none⟩)] w fun e w'=>∃v,e=.returned v∧ak p w w'∧Hid (gP w' p s op (du w.heap.size) (rN s k g) v):=by
 have F:=ad C;have L:=ad (show Below w.heap.size w (w.alloc (.cells #[.int .i64 0,.string ⟨#[]⟩,.int .i64 0,.int .i64 0,.string ⟨#[]⟩,.string ⟨#[]⟩,.string ⟨#[]⟩,.bool false,.bool false,.slice none 0 0] 136)) from(ar _ _).alloc (ag _) _);have a0:=ad (au w (.cells #[.int .i64 0,.string ⟨#[]⟩,.int .i64 0,.int .i64 0,.string ⟨#[]⟩,.string ⟨#[]⟩,.string ⟨#[]⟩,.bool false,.bool false,.slice none 0 0] 136));have G:=ad (show(w.alloc (.cells #[.int .i64 0,.string ⟨#[]⟩,.int .i64 0,.int .i64 0,.string ⟨#[]⟩,.string ⟨#[]⟩,.string ⟨#[]⟩,.bool false,.bool false,.slice none 0 0] 136)).heap.size=w.heap.size+1 by rw[aO]);have HO:=ad hO;have ca:=ad bo;clear hO bo;go_enter Tryz.func201,Tryz.ntmps201;go_wp2_with fail;generalize w.alloc (.cells #[.int .i64 0,.string ⟨#[]⟩,.int .i64 0,.int .i64 0,.string ⟨#[]⟩,.string ⟨#[]⟩,.string ⟨#[]⟩,.bool false,.bool false,.slice none 0 0] 136)=W0 at*;refine(HO.out W0 L.out).mono ?_;rintro e H⟨v,rfl,be,a9⟩;obtain⟨d,i,u1,a1,n1,c,rfl⟩:=a9.F4;have l:Below H.heap.size H (H.alloc (.cells (dC d i u1 (.slice a1 n1 c)).toArray 136)):=(ar _ _).alloc (ag _) _;have an:=ad (au H (.cells (dC d i u1 (.slice a1 n1 c)).toArray 136));have J:=ad (a9.next l);have bk:=ad (be.trans (ak.ai l));have bm:=ad be.size;clear be a9 l;go_wp2_with fail;generalize H.alloc (.cells (dC d i u1 (.slice a1 n1 c)).toArray 136)=n at*;generalize c0:H.heap.size=b3 at*;refine(yN n).mono ?_;rintro e w2⟨rfl,rfl⟩;have bi:=ad (au n (.cells #[.string ⟨#[61,61]⟩,.string ⟨#[33,61]⟩,.string ⟨#[60]⟩,.string ⟨#[60,61]⟩,.string ⟨#[62]⟩,.string ⟨#[62,61]⟩] 9));have l:Below n.heap.size n (n.alloc (.cells #[.string ⟨#[61,61]⟩,.string ⟨#[33,61]⟩,.string ⟨#[60]⟩,.string ⟨#[60,61]⟩,.string ⟨#[62]⟩,.string ⟨#[62,61]⟩] 9)):=(ar _ _).alloc (ag _) _;have HC:=ad (show CI n (n.alloc (.cells #[.string ⟨#[61,61]⟩,.string ⟨#[33,61]⟩,.string ⟨#[60]⟩,.string ⟨#[60,61]⟩,.string ⟨#[62]⟩,.string ⟨#[62,61]⟩] 9)) p s op g from⟨ak.ai l,J.out.box.next l⟩);have cc:=ad (show p<n.heap.size from J.out.box.lt);have af:=ad (show¬du W0.heap.size p from fun h=>by have:W0.heap.size≤p:=h;have:=G.out;omega);have a5:=ad (show p<b3 by have:=bm.out;have:=G.out;omega);clear l;go_wp2_with fail;generalize n.alloc (.cells #[.string ⟨#[61,61]⟩,.string ⟨#[33,61]⟩,.string ⟨#[60]⟩,.string ⟨#[60,61]⟩,.string ⟨#[62]⟩,.string ⟨#[62,61]⟩] 9)=W2 at*;generalize c1:n.heap.size=bs at*;generalize hr:UW s g=r at*;have al:=ad hr;have b8:=ad (show ak p W2 W2 from ak.refl p W2);clear hr
 go_loopw [4,11] (fun bv iv wr=>∃(j:Nat),j≤6∧iv=.int .i64 (j:Int)∧bv=Fl (gJ r j)∧Hid (CI n wr p s op g)∧Hid (ak p W2 wr)) (fun _ iv _=>6-(intOf iv).toNat)
 case atStart=>exact⟨0,by omega,rfl,rfl,HC,b8⟩
 case round=>
  obtain⟨j,hj,rfl,rfl,A,bn⟩:=hrel;have co:=ad (show wr.heap[bs]? =_ from(bn.out.block bs (aB.1 bi.out).1 (by have:=cc.out;intro e;cases e;omega)).trans bi.out);by_cases br:j<6
  ·have hc:=rM br co.out;have j0:(0:Int)≤(j:Int):=by omega
   have j1:(j:Int)<6:=by omega
   go_wp2_with fail;refine(Fk wr p s op g hs A.out.box).mono ?_;rintro e E⟨rfl,bp,bf⟩;have ab:=ad (A.out.step bf bp);have a6:=ad (bn.out.trans bf);rw[al.out];clear bp bf hc;go_wp2_with fail;refine(cj ⟨r.toArray⟩ ⟨(lu j).toArray⟩ E).mono ?_;rintro e w4⟨rfl,rfl⟩;rw[show Lib.hasPrefix (⟨r.toArray⟩:ByteArray).data.toList (⟨(lu j).toArray⟩:ByteArray).data.toList=Lib.hasPrefix r (lu j) from rfl];cases C:Lib.hasPrefix r (lu j)
   ·have z:=ad (PX C);clear C;go_wp2_with fail
    go_roundw
    case rel=>exact⟨j+1,by omega,by go_num,by rw[z.out],ab,a6⟩
    case measure=>(simp[intOf]<;>omega)
   ·cases o:gJ r j with
    |none=>
     have z:=ad (L4 C o);clear C o;rw[show Fl none=Value.int .i64 (-1) from rfl];go_wp2_with fail
     go_roundw
     case rel=>exact⟨j+1,by omega,by go_num,by rw[z.out];rfl,ab,a6⟩
     case measure=>(simp[intOf]<;>omega)
    |some b=>
     have z:=ad (L5 C o);have av:=(yM r j b o).1;clear C o;rw[show Fl (some b)=Value.int .i64 (b:Int) from rfl];have b0:¬(b:Int)<0:=by omega
     have b1:(0:Int)≤(b:Int):=by omega
     have b2:(b:Int)<6:=by omega
     go_wp2_with fail;refine(yN E).mono ?_;rintro e w4⟨rfl,rfl⟩;have l:Below E.heap.size E (E.alloc (.cells #[.string ⟨#[61,61]⟩,.string ⟨#[33,61]⟩,.string ⟨#[60]⟩,.string ⟨#[60,61]⟩,.string ⟨#[62]⟩,.string ⟨#[62,61]⟩] 9)):=(ar _ _).alloc (ag _) _;have I:=ad (ab.out.step (ak.ai l) (ab.out.box.next l));have bl:=ad (a6.out.trans (ak.ai l));have hc:=rM (show b<6 by omega) (au E (.cells #[.string ⟨#[61,61]⟩,.string ⟨#[33,61]⟩,.string ⟨#[60]⟩,.string ⟨#[60,61]⟩,.string ⟨#[62]⟩,.string ⟨#[62,61]⟩] 9));clear l;generalize E.alloc (.cells #[.string ⟨#[61,61]⟩,.string ⟨#[33,61]⟩,.string ⟨#[60]⟩,.string ⟨#[60,61]⟩,.string ⟨#[62]⟩,.string ⟨#[62,61]⟩] 9)=W4 at*;by_cases hl:(lu b).length<(lu j).length
     ·have HL:=ad hl;have cO:((lu b).length:Int)<((lu j).length:Int):=by omega
      clear hl;go_wp2_with fail
      go_roundw
      case rel=>exact⟨j+1,by omega,by go_num,by rw[z.out,ah HL.out];rfl,I,bl⟩
      case measure=>(simp[intOf]<;>omega)
     ·have HL:=ad hl;have cO:¬((lu b).length:Int)<((lu j).length:Int):=by omega
      clear hl;go_wp2_with fail
      go_roundw
      case rel=>exact⟨j+1,by omega,by go_num,by rw[z.out,ae HL.out];rfl,I,bl⟩
      case measure=>(simp[intOf]<;>omega)
  ·obtain rfl:j=6:=by omega
   clear br hj;have ct:=ad (show wr.heap[b3]? =_ from(A.out.aN.block b3 (aB.1 an.out).1 (by have:=a5.out;intro e;cases e;omega)).trans an.out);cases o:gJ r 6 with
   |none=>have hg:rN s k g=g:=PY (by rw[al.out];exact o);have y:=ad (bk.out.trans A.out.aN);have a2:=ad (bu a0.out y.out F.out);have B:=ad (gq ((ak.ai L.out).trans y.out) F.out (by have:=G.out;omega) (J8 J.out A.out.aN af.out A.out.box));have HG:=ad hg;have K:=ad (aK (k:=d) (t:=i) (u:=u1) (kv:=.slice a1 n1 c) a2.out);clear o hg;rw[show Fl none=Value.int .i64 (-1) from rfl];obtain⟨x0,x1,x2,x3,x4,x5,x6,x7,x8,x9⟩:=aM ct.out;obtain⟨O,Q,R,S,V,X,Y,Z,f8,f9⟩:=aJ a2.out;obtain⟨g0,g1,g2,g3,g4,g5,g6,g7,g8,g9⟩:=aR a2.out;go_wp2_with fail;clear x0 x1 x2 x3 x4 x5 x6 x7 x8 x9 O Q R S V X Y Z f8 f9 g0 g1 g2 g3 g4 g5 g6 g7 g8 g9;refine aD (v:=dY d i u1 (.slice a1 n1 c)) ?_ rfl ⟨_,rfl,B.out.1,ad (by rw[HG.out];exact B.out.2)⟩;exact ba (b:=w.heap.size) rfl rfl K.out
   |some b=>
    have av:=yM r 6 b o;have z:=ad o;have b0:¬(b:Int)<0:=by omega
    have b1:(0:Int)≤(b:Int):=by omega
    have b2:(b:Int)<6:=by omega
    have b5:=ad av.2;have b4:=ad av.1;clear o av;rw[show Fl (some b)=Value.int .i64 (b:Int) from rfl];go_wp2_with fail;refine(yN wr).mono ?_;rintro e w4⟨rfl,rfl⟩;have l:Below wr.heap.size wr (wr.alloc (.cells #[.string ⟨#[61,61]⟩,.string ⟨#[33,61]⟩,.string ⟨#[60]⟩,.string ⟨#[60,61]⟩,.string ⟨#[62]⟩,.string ⟨#[62,61]⟩] 9)):=(ar _ _).alloc (ag _) _;have I:=ad (A.out.step (ak.ai l) (A.out.box.next l));have hc:=rM b4.out (au wr (.cells #[.string ⟨#[61,61]⟩,.string ⟨#[33,61]⟩,.string ⟨#[60]⟩,.string ⟨#[60,61]⟩,.string ⟨#[62]⟩,.string ⟨#[62,61]⟩] 9));clear l;generalize wr.alloc (.cells #[.string ⟨#[61,61]⟩,.string ⟨#[33,61]⟩,.string ⟨#[60]⟩,.string ⟨#[60,61]⟩,.string ⟨#[62]⟩,.string ⟨#[62,61]⟩] 9)=W4 at*;go_wp2_with fail;refine(ux W4 p s op g (lu b) (by have:=SN b;omega) hs I.out.box).mono ?_;rintro e m⟨rfl,aa,bg⟩;have ac:=ad (show ak p n m from I.out.aN.trans bg);have ao:=ad (show m.heap[b3]? =_ from(ac.out.block b3 (aB.1 an.out).1 (by have:=a5.out;intro e;cases e;omega)).trans an.out);have y:=ad (bk.out.trans ac.out);have a3:=ad (bu a0.out y.out F.out);cases g with
    |ay q e=>have B:=ad (gq ((ak.ai L.out).trans y.out) F.out (by have:=G.out;omega) (J8 J.out ac.out af.out aa));have K:=ad (aK (k:=d) (t:=i) (u:=u1) (kv:=.slice a1 n1 c) a3.out);rw[show UX s (lu b) (.ay q e)=false from rfl];obtain⟨x0,x1,x2,x3,x4,x5,x6,x7,x8,x9⟩:=aM ao.out;obtain⟨O,Q,R,S,V,X,Y,Z,f8,f9⟩:=aJ a3.out;obtain⟨g0,g1,g2,g3,g4,g5,g6,g7,g8,g9⟩:=aR a3.out;clear hc bg aa;go_wp2_with fail;clear x0 x1 x2 x3 x4 x5 x6 x7 x8 x9 O Q R S V X Y Z f8 f9 g0 g1 g2 g3 g4 g5 g6 g7 g8 g9;refine aD (v:=dY d i u1 (.slice a1 n1 c)) ?_ rfl ⟨_,rfl,B.out.1,ad B.out.2⟩;exact ba (b:=w.heap.size) rfl rfl K.out
    |aq x t=>
     have a8:Lib.hasPrefix (rs s t) (lu b)=true:=by rw[show rs s t=r from al.out];exact b5.out
     rw[show UX s (lu b) (.aq x t)=true from a8];obtain⟨a,ha,hn,bd,a7⟩:Cw m p s op (.aq x (pa s t+(lu b).length)):=by
      have:Wf s (lu b) (.aq x t)=.aq x (pa s t+(lu b).length):=by show(bif Lib.hasPrefix (rs s t) (lu b) then cG.aq x (pa s t+(lu b).length) else cG.aq x t)=_;rw[a8];rfl
      rw[this] at aa;exact aa
     have cb:=ad (show PB m.drew p s a op 0 from a7);have am:=ad (show ak p m m.drew from⟨rfl,rfl,rfl,ag _,fun _ _ _=>rfl⟩);have HG:=ad (show rN s k (.aq x t)=(nT s k a).map (oA (4+b) x) from P0 (show gJ (rs s t) 6=some b by rw[show rs s t=r from al.out];exact z.out) bd);have ce:=ad (ca.out x t rfl);have ci:=ad (show PZ b3 d i u1 (.slice a1 n1 c) m.drew from J9 ao.out);have ch:=ad (show gP m.drew p s op (du W0.heap.size) (.aq x (pa s t+(lu b).length)) (dY d i u1 (.slice a1 n1 c)) from⟨⟨a,ha,hn,bd,a7⟩,kG (W:=m) (W':=m.drew) (ag _) (fun _ _ _=>rfl) _ _ (J.out.2.aN ac.out af.out)⟩);have bx:=ad ha;have b9:=ad (show GP p m.drew from(cx.aN (ak.ai L.out)).aN (y.out.trans am.out));have cd:=ad (show W0.heap.size≤m.drew.heap.size from y.out.size);have b6:=ad (show some b3≠some p by have:=a5.out;intro e;cases e;omega);have b7:=ad (show some b3≠some w.heap.size by have:=bm.out;have:=G.out;intro e;cases e;omega);have i9:IntKind.i64.wrap (4+(b:Int))=4+(b:Int):=IntWalk.i64_in _ (by omega);clear hc bg aa a8 bd hn a7 ha;go_wp2_with fail
     go_region_held3 (PZ b3 d i u1 (.slice a1 n1 c)) (first|with_reducible exact ci.out|with_reducible exact ck.out|with_reducible exact cl.out|with_reducible exact cn.out)
      (first
       |(go_at_call 237;refine(ce.out m.drew a bx.out b9.out cb.out).mono ?_;rintro e D⟨v6,rfl,aU,bb⟩;obtain⟨k6,t6,u6,M,n6,N,rfl⟩:=bb.F4;have cs:=ad (y.out.trans (am.out.trans aU));have ap:=ad (show D.heap[b3]? =some (.cells (dC d i u1 (.slice a1 n1 c)).toArray 136) from((am.out.trans aU).block b3 (aB.1 ao.out).1 b6.out).trans ao.out);have ck:=ad (J9 ap.out);have cl:=ad (show PZ b3 d i u1 (.slice a1 n1 c) (D.alloc (.cells #[.int .i64 d,.string ⟨i.toArray⟩,.int .i64 u1.src,.int .i64 u1.bJ,.string ⟨u1.name.toArray⟩,.string ⟨u1.key.toArray⟩,.string ⟨u1.cK.toArray⟩,.bool u1.hk,.bool u1.hd,.slice a1 n1 c,.int .i64 k6,.string ⟨t6.toArray⟩,.int .i64 u6.src,.int .i64 u6.bJ,.string ⟨u6.name.toArray⟩,.string ⟨u6.key.toArray⟩,.string ⟨u6.cK.toArray⟩,.bool u6.hk,.bool u6.hd,.slice M n6 N] 136)) from J9 (aG ap.out _));have a4:=ad (aG (bu a0.out cs.out F.out) (.cells #[.int .i64 d,.string ⟨i.toArray⟩,.int .i64 u1.src,.int .i64 u1.bJ,.string ⟨u1.name.toArray⟩,.string ⟨u1.key.toArray⟩,.string ⟨u1.cK.toArray⟩,.bool u1.hk,.bool u1.hd,.slice a1 n1 c,.int .i64 k6,.string ⟨t6.toArray⟩,.int .i64 u6.src,.int .i64 u6.bJ,.string ⟨u6.name.toArray⟩,.string ⟨u6.key.toArray⟩,.string ⟨u6.cK.toArray⟩,.bool u6.hk,.bool u6.hd,.slice M n6 N] 136));have B:=ad (SO ch.out bb aU af.out L.out (y.out.trans am.out) G.out F.out cd.out (k:=4+b));have K:=ad (aK (k:=4+(b:Int)) (t:=[]) (u:=aC) (kv:=.slice (some ⟨D.heap.size,0,none⟩) 2 2) a4.out);have cn:=ad (show PZ b3 d i u1 (.slice a1 n1 c) (((((((((((D.alloc (.cells #[.int .i64 d,.string ⟨i.toArray⟩,.int .i64 u1.src,.int .i64 u1.bJ,.string ⟨u1.name.toArray⟩,.string ⟨u1.key.toArray⟩,.string ⟨u1.cK.toArray⟩,.bool u1.hk,.bool u1.hd,.slice a1 n1 c,.int .i64 k6,.string ⟨t6.toArray⟩,.int .i64 u6.src,.int .i64 u6.bJ,.string ⟨u6.name.toArray⟩,.string ⟨u6.key.toArray⟩,.string ⟨u6.cK.toArray⟩,.bool u6.hk,.bool u6.hd,.slice M n6 N] 136)).setCell ⟨w.heap.size,0,none⟩ (.int .i64 (4+(b:Int)))).setCell ⟨w.heap.size,1,none⟩ (.string ⟨#[]⟩)).setCell ⟨w.heap.size,2,none⟩ (.int .i64 0)).setCell ⟨w.heap.size,3,none⟩ (.int .i64 0)).setCell ⟨w.heap.size,4,none⟩ (.string ⟨#[]⟩)).setCell ⟨w.heap.size,5,none⟩ (.string ⟨#[]⟩)).setCell ⟨w.heap.size,6,none⟩ (.string ⟨#[]⟩)).setCell ⟨w.heap.size,7,none⟩ (.bool false)).setCell ⟨w.heap.size,8,none⟩ (.bool false)).setCell ⟨w.heap.size,9,none⟩ (.slice (some ⟨D.heap.size,0,none⟩) 2 2)) from J9 (b:=b3) (k:=d) (t:=i) (u:=u1) (kv:=.slice a1 n1 c) (T:=136) ((dx (D.alloc (.cells #[.int .i64 d,.string ⟨i.toArray⟩,.int .i64 u1.src,.int .i64 u1.bJ,.string ⟨u1.name.toArray⟩,.string ⟨u1.key.toArray⟩,.string ⟨u1.cK.toArray⟩,.bool u1.hk,.bool u1.hd,.slice a1 n1 c,.int .i64 k6,.string ⟨t6.toArray⟩,.int .i64 u6.src,.int .i64 u6.bJ,.string ⟨u6.name.toArray⟩,.string ⟨u6.key.toArray⟩,.string ⟨u6.cK.toArray⟩,.bool u6.hk,.bool u6.hd,.slice M n6 N] 136)) w.heap.size (4+b) [] aC (.slice (some ⟨D.heap.size,0,none⟩) 2 2)).block b3 (aB.1 (aG ap.out (.cells #[.int .i64 d,.string ⟨i.toArray⟩,.int .i64 u1.src,.int .i64 u1.bJ,.string ⟨u1.name.toArray⟩,.string ⟨u1.key.toArray⟩,.string ⟨u1.cK.toArray⟩,.bool u1.hk,.bool u1.hd,.slice a1 n1 c,.int .i64 k6,.string ⟨t6.toArray⟩,.int .i64 u6.src,.int .i64 u6.bJ,.string ⟨u6.name.toArray⟩,.string ⟨u6.key.toArray⟩,.string ⟨u6.cK.toArray⟩,.bool u6.hk,.bool u6.hd,.slice M n6 N] 136))).1 b7.out|>.trans (aG ap.out _)));clear aU bb;obtain⟨O,Q,R,S,V,X,Y,Z,f8,f9⟩:=aJ a4.out;obtain⟨g0,g1,g2,g3,g4,g5,g6,g7,g8,g9⟩:=aR a4.out))
     clear O Q R S V X Y Z f8 f9 g0 g1 g2 g3 g4 g5 g6 g7 g8 g9;go_wp2_with fail;refine aD (v:=dY (4+(b:Int)) [] aC (.slice (some ⟨D.heap.size,0,none⟩) 2 2)) ?_ rfl ⟨_,rfl,B.out.1,ad (by rw[HG.out];exact B.out.2)⟩;exact ba (b:=w.heap.size) rfl rfl K.out
