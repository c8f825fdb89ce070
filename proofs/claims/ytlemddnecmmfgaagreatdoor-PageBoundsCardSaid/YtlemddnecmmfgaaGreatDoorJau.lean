/- strings.SplitSeq's contract. -/
import Derived.Test.YtlemddnecmmfgaaGreatDoorJat
import Derived.RangeFuncNested
import Derived.RangeFuncBound
import Derived.Shelf.RegionOpen
import Derived.OwnWalkIn
import Derived.LoopNIn
import Derived.LoopIn
set_option linter.unusedVariables false
set_option maxRecDepth 100000
set_option maxHeartbeats 4000000
namespace Go.Proofs.YtlemddnecmmfgaaGreatDoor
open Go.RowKit
variable{K:Ex}{a:Nat}{d:aaK}
abbrev PV(p:Nat):Array aaL:=#[.pointer (some ⟨p,0,none⟩)]
section
variable{p op k:Nat}{s:Bs}
theorem Fm(k:s.length≤100000):iC 211 (PV p) p s (GP p):=fun w i op bad j d o h=>by
 refine(P3 w p s op 0 (.ay i bad) k h.lt o (fun W q=> ?_) (fun x t e=>by cases e)).m ?_
 ·refine(Zh W p s i op bad j k d (h.next q)).m ?_;rintro e w'⟨v,b,c,a⟩;exact⟨v,b,c,d,j,a.out.1,a.out.2⟩
 ·rintro e w'⟨v,b,c,a⟩;obtain⟨_,_,l,n⟩:gP w' p s op (du w.heap.size) (.ay i bad) v:=a.out;exact⟨v,b,c,l,n⟩
theorem vG(b:s.length≤100000):iC 175 (PV p) p s (GP p):=fun w i op bad l j k h=>(IJ w p s i op bad l b j (Fm b) k h).m (by rintro e w'⟨v,c,d,a⟩;exact⟨v,c,d,a.out.1,a.out.2⟩)
theorem IL(l:s.length≤100000):iC 139 (PV p) p s (GP p):=fun w i op bad k d j h=>(Zd w p s i op bad k d (vG l) j h).m (by rintro e w'⟨v,b,c,a⟩;exact⟨v,b,c,a.out.1,a.out.2⟩)
theorem Ka(j:s.length≤100000)(x:∀(w:aaK) (i:Nat) (r:Bs),i≤s.length→rs s i=40::r→GP p w→PB w p s i op 0→
 Calls Tryz.prog 243 (PV p) w fun e w'=>∃v,e=.returned v∧ak p w w'∧Hid (gP w' p s op (du w.heap.size) (nT s k i) v)):
 XE 243 (PV p) p s op (nT s k) (GP p):=by
 intro w i a d h;have key:Calls Tryz.prog 243 (PV p) w fun e w'=>∃v,e=.returned v∧ak p w w'∧Hid (gP w' p s op (du w.heap.size) (nT s k i) v):=by
  cases b:rs s i with
  |nil=>exact IK w p s i op k a j b h
  |cons c r=>
   cases n:c==40
   ·cases l:c==39
    ·cases o:kH c
     ·exact Ma w p s i op k c r a j b o n l d h
     ·exact Zk w p s i op k c r a j b o d h
    ·obtain rfl:c=39:=eq_of_beq l;exact P6 w p s i op k r a j b d h
   ·obtain rfl:c=40:=eq_of_beq n;exact x w i r a b d h
 exact key.m (by rintro e w'⟨v,q,t,u⟩;exact⟨v,q,t,u.out⟩)
theorem Fo(o:s.length≤100000)(a:XE 243 (PV p) p s op (nT s k) (GP p)):XE 211 (PV p) p s op (Cu s k) (GP p):=by
 intro w i n c h;have e:Cu s k i=rN s k (nT s k i):=by unfold Cu zA nT rN;cases qL (zI s k) s i<;>rfl
 rw[e];refine(P3 w p s op k (nT s k i) o h.lt c (fun W b=>a W i n (c.aN (ak.ai b)) (h.next b)) (fun x t _=>a)).m ?_;rintro e w'⟨v,d,j,l⟩;exact⟨v,d,j,l.out⟩
theorem Kb(n:s.length≤100000)(d:XE 175 (PV p) p s op (je s k) (GP p)):XE 139 (PV p) p s op (vh s k) (GP p):=by intro w i l j h;refine(VZ w p s i op k l n d j h).m ?_;rintro e w'⟨v,a,b,c⟩;exact⟨v,a,b,c.out⟩
end
theorem levels(p:Nat)(s:Bs)(a:s.length≤100000):∀(k op:Nat),op+k=16→XE 175 (PV p) p s op (je s k) (GP p)∧XE 139 (PV p) p s op (vh s k) (GP p)
 |0,op,h=>by
  obtain rfl:op=16:=by omega
  have o:=Ka (p:=p) (op:=16) (k:=0) a (fun w i r d u b h=>Zj w p s i 16 r d a rfl u (IL a) b h);have c:=Fo a o;have n:XE 175 (PV p) p s 16 (je s 0) (GP p):=by intro w i d b h;refine(SM w p s i 16 d a rfl c (vG a) b h).m ?_;rintro e w'⟨v,l,q,t⟩;exact⟨v,l,q,t.out⟩
  exact⟨n,Kb a n⟩
 |k+1,op,h=>by
  obtain⟨x,y⟩:=levels p s a k (op+1) (by omega);have o:=Ka (p:=p) (op:=op) (k:=k+1) a (fun w i r d u b j=>P5 w p s i op k r d a h u y b j);have c:=Fo a o;have n:XE 175 (PV p) p s op (je s (k+1)) (GP p):=by intro w i d b j;refine(UU w p s i op k d a h c x b j).m ?_;rintro e w'⟨v,l,q,t⟩;exact⟨v,l,q,t.out⟩
  exact⟨n,Kb a n⟩
end Go.Proofs.YtlemddnecmmfgaaGreatDoor
namespace Go.Proofs.YtlemddnecmmfgaaGreatDoor
open Go.RowKit
variable{K:Ex}{a:Nat}{d:aaK}
theorem yO{s:Bs}(e:a≤s.length):(rs s a=[]→pa s a=s.length)∧(rs s a≠[]→pa s a≠s.length):=by
 have b:=nP s e;have i:=cY s a;constructor
 ·intro h;rw[h] at b;simp only[lH] at b;omega
 ·intro h;cases d:rs s a with
  |nil=>exact absurd d h
  |cons c r=>rw[d,bF] at b;omega
theorem Fp{s:Bs}{e:Int}(h:vh s 16 0=.ay a e):ew s=(sF,a,e):=by unfold ew;rw[h]
theorem Mb{s:Bs}(h:vh s 16 0=.aq K a)(b:pa s a=s.length):ew s=(K,0,0):=by unfold ew;rw[h];show(bif decide (pa s a=s.length) then(K,0,0) else(sF,pa s a,15))=_;rw[bN b];rfl
theorem IM{s:Bs}(h:vh s 16 0=.aq K a)(b:pa s a≠s.length):ew s=(sF,pa s a,15):=by unfold ew;rw[h];show(bif decide (pa s a=s.length) then(K,0,0) else(sF,pa s a,15))=_;rw[cL b];rfl
theorem ng{o:Obj}(h:d.heap[a]? =some o):d.drew.heap[a]? =some o:=h
theorem cw{W:aaK}(h:Below a d W):Below a d W.drew:=⟨h.os,h.tape,h.output,h.size,h.block⟩
theorem iw{w W W':aaK}{p:Nat}(h:Below w.heap.size w W)(b:ak p W W')(a:w.heap.size≤p):Below w.heap.size w W':=h.t (b.below a h.size)
theorem kE{fn:Func}{tmps:Array aaL}{b e a c:Nat}{v0 v1 v2 i j k l m n o x y:aaL}(h:fn.results=#[.cell e 171,.tmp a,.tmp c])(q:tmps.getD e undef=.pointer (some ⟨b,0,none⟩))(s:tmps.getD a undef=x)(u:tmps.getD c undef=y)(p:d.heap[b]? =some (.cells #[v0,v1,v2,i,j,k,l,m,n,o] 171)):
 (results fn tmps).run Tryz.prog d=.ok (.tuple #[.agg #[v0,v1,v2,i,j,k,l,m,n,o],x,y]) d:=by
 obtain⟨z,A,B,C,D,E,F,G,H,I⟩:=aR p;have r:tmps[e]?.getD undef=.pointer (some ⟨b,0,none⟩):=by rw[←q];simp
 have t:tmps[a]?.getD undef=x:=by rw[←s];simp
 have w:tmps[c]?.getD undef=y:=by rw[←u];simp
 simp[results,h,go_sem,r,t,w,z,A,B,C,D,E,F,G,H,I]
theorem GH(w:aaK)(s:Bs)(hs:s.length≤100000)(hG:Good w):
 Calls Tryz.prog 100 #[.string ⟨s.toArray⟩] w fun e w'=>∃v,e=.returned (.tuple #[v,.int .i64 ((ew s).2.1:Int),.int .i64 (ew s).2.2])∧Below w.heap.size w w'∧Hid (dR (du w.heap.size) w' (ew s).1 v):=by
 have HT:=ad (jG w (.cells #[.int .i64 0,.string ⟨#[]⟩,.int .i64 0,.int .i64 0,.string ⟨#[]⟩,.string ⟨#[]⟩,.string ⟨#[]⟩,.bool false,.bool false,.slice none 0 0] 171) (.cells #[.string ⟨s.toArray⟩,.int .i64 0,.int .i64 0,.int .i64 0] 199));have a2:=ad (show((w.alloc (.cells #[.int .i64 0,.string ⟨#[]⟩,.int .i64 0,.int .i64 0,.string ⟨#[]⟩,.string ⟨#[]⟩,.string ⟨#[]⟩,.bool false,.bool false,.slice none 0 0] 171)).alloc (.cells #[.string ⟨s.toArray⟩,.int .i64 0,.int .i64 0,.int .i64 0] 199)).heap.size=w.heap.size+2 by rw[aO,aO]);go_enter Tryz.func100,Tryz.ntmps100;go_wp2_with fail;generalize(w.alloc (.cells #[.int .i64 0,.string ⟨#[]⟩,.int .i64 0,.int .i64 0,.string ⟨#[]⟩,.string ⟨#[]⟩,.string ⟨#[]⟩,.bool false,.bool false,.slice none 0 0] 171)).alloc (.cells #[.string ⟨s.toArray⟩,.int .i64 0,.int .i64 0,.int .i64 0] 199)=W0 at*;have bl:=ad HT.o.below;have bn:=ad HT.o.b1;have bo:=ad (show PB W0 (w.heap.size+1) s 0 0 0 from HT.o.b2);have bm:=ad (show GP (w.heap.size+1) W0 from⟨hG.next bl.o,by have:=hG.lt;omega⟩);clear HT;refine((levels (w.heap.size+1) s hs 16 0 rfl).2 W0 0 (aH _) bm.o bo.o).m ?_;rintro e w1⟨v,rfl,a8,a7⟩;obtain⟨k,t,u,a,n,c,rfl⟩:=a7.F4;obtain⟨p,hp⟩:∃p,w.heap.size+1=p:=⟨_,rfl⟩;rw[hp] at a8 a7;rw[hp];have j:=ad hp;have b4:=ad a8;have bv:=ad a7;have bd:=ad (show w1.heap[w.heap.size]? =_ from(a8.block w.heap.size (by have:=a2.o;omega) (by intro e;cases e;omega)).t bn.o);have i:=dx w1 w.heap.size k t u (.slice a n c);have a3:=ad (show Below w.heap.size w (dO w1 w.heap.size k t u (.slice a n c)) from iw (iw bl.o a8 (by omega)) i (ag _));have be:=ad (show gP (dO w1 w.heap.size k t u (.slice a n c)) p s 0 (du W0.heap.size) (vh s 16 0) (dY k t u (.slice a n c)) from a7.aN i (by omega) (fun h=>by have:W0.heap.size≤w.heap.size:=h;have:=a2.o;omega));have C:=ad (aK (k:=k) (t:=t) (u:=u) (kv:=.slice a n c) bd.o);obtain⟨E,F,G,H,I,J,K,L,M,N⟩:=aJ bd.o;obtain⟨O,Q,R,S,T,V,W,X,Y,Z⟩:=aR bd.o;clear hp a8 a7 i bo bm bn bd bv;go_upto_region 3 with fail;clear E F G H I J K L M N O Q R S T V W X Y Z;obtain⟨W2,bf⟩:∃W2,dO w1 w.heap.size k t u (.slice a n c)=W2:=⟨_,rfl⟩;rw[bf] at a3 be C;unfold dO at bf;rw[bf];clear bf;obtain⟨g,hg⟩:∃g,vh s 16 0=g:=⟨_,rfl⟩;rw[hg] at be;have bg:=ad hg;clear hg;cases g with
 |ay q e=>
  obtain⟨bp,hq,a4,-⟩:gP W2 p s 0 (du W0.heap.size) (.ay q e) _:=be.o;have ap:=ad bp;have bi:=ad a4;have A:=ad (Fp bg.o);clear bp a4;go_wp2_with fail;refine(iQ W2 p s q 0 e hq hs ap.o bi.o).m ?_;rintro D l⟨rfl,av,a9⟩;have a1:=ad av;have an:=ad a9;clear av a9;cases hd:s.drop q with
  |nil=>
   clear hd;have aU:=a1;have ab:=an;go_upto_region 5 with fail;have d:=ad (show l.heap[w.heap.size]? =_ from(ab.o.block w.heap.size (aB.1 C.o).1 (by have:=j.o;intro e;cases e;omega)).t C.o);have ai:=ad (show Below w.heap.size w l from iw a3.o ab.o (by have:=j.o;omega));obtain⟨-,c1,-,B,-,-,-,-⟩:=aU.o.pc;have af:((e:Int)==0)=false:=aL.2 ap.o;have a6:((e:Int)!=0)=true:=by rw[bne,af];rfl
   go_upto_region 6 with fail;clear af a6;have x1:l.drew.cell? ⟨p,1,none⟩=some (.int .i64 ((q:Nat):Int)):=c1;have x3:l.drew.cell? ⟨p,3,none⟩=some (.int .i64 e):=B;have aa:=ad (ng d.o);have i:=dx l w.heap.size 0 [] aC (.slice none 0 0);have am:=ad (ng (aK (k:=0) (t:=[]) (u:=aC) (kv:=.slice none 0 0) d.o));have ac:=iw ai.o i (ag _);have al:=ad (cw ac);obtain⟨E,F,G,H,I,J,K,L,M,N⟩:=aJ aa.o;obtain⟨O,Q,R,S,T,V,W,X,Y,Z⟩:=aR aa.o;obtain⟨e0,e1,D,e3,e4,e5,e6,e7,e8,e9⟩:=aJ d.o;obtain⟨d0,d1,d2,d3,d4,d5,d6,d7,d8,d9⟩:=aR d.o;have a5:=j.o;clear i ac;subst a5;go_region;clear E F G H I J K L M N O Q R S T V W X Y Z e0 e1 D e3 e4 e5 e6 e7 e8 e9 d0 d1 d2 d3 d4 d5 d6 d7 d8 d9 x1 x3 c1 B;go_wp2_with fail;refine aD (v:=.tuple #[dY 0 [] aC (.slice none 0 0),.int .i64 ((q:Nat):Int),.int .i64 e]) ?_ rfl ⟨dY 0 [] aC (.slice none 0 0),by rw[A.o],al.o,ad (by rw[A.o];exact Cr _ _)⟩;exact kE (b:=w.heap.size) rfl rfl rfl rfl am.o
  |cons c r=>
   clear hd;have q1:((c:UInt8)::r==[])=false:=rfl;go_upto_region 4 with fail;clear q1;go_wp2_with fail;refine(gp l p s q 0 e 15 a1.o).m ?_;rintro D y⟨rfl,ao,bb⟩;rw[ae ap.o] at ao;have aU:=ad ao;have ab:=ad (an.o.t bb);clear ao bb;go_upto_region 5 with fail;have d:=ad (show y.heap[w.heap.size]? =_ from(ab.o.block w.heap.size (aB.1 C.o).1 (by have:=j.o;intro e;cases e;omega)).t C.o);have ai:=ad (show Below w.heap.size w y from iw a3.o ab.o (by have:=j.o;omega));obtain⟨-,c1,-,B,-,-,-,-⟩:=aU.o.pc;have af:((e:Int)==0)=false:=aL.2 ap.o;have a6:((e:Int)!=0)=true:=by rw[bne,af];rfl
   go_upto_region 6 with fail;clear af a6;have x1:y.drew.cell? ⟨p,1,none⟩=some (.int .i64 ((q:Nat):Int)):=c1;have x3:y.drew.cell? ⟨p,3,none⟩=some (.int .i64 e):=B;have aa:=ad (ng d.o);have i:=dx y w.heap.size 0 [] aC (.slice none 0 0);have am:=ad (ng (aK (k:=0) (t:=[]) (u:=aC) (kv:=.slice none 0 0) d.o));have ac:=iw ai.o i (ag _);have al:=ad (cw ac);obtain⟨E,F,G,H,I,J,K,L,M,N⟩:=aJ aa.o;obtain⟨O,Q,R,S,T,V,W,X,Y,Z⟩:=aR aa.o;obtain⟨e0,e1,D,e3,e4,e5,e6,e7,e8,e9⟩:=aJ d.o;obtain⟨d0,d1,d2,d3,d4,d5,d6,d7,d8,d9⟩:=aR d.o;have a5:=j.o;clear i ac;subst a5;go_region;clear E F G H I J K L M N O Q R S T V W X Y Z e0 e1 D e3 e4 e5 e6 e7 e8 e9 d0 d1 d2 d3 d4 d5 d6 d7 d8 d9 x1 x3 c1 B;go_wp2_with fail;refine aD (v:=.tuple #[dY 0 [] aC (.slice none 0 0),.int .i64 ((q:Nat):Int),.int .i64 e]) ?_ rfl ⟨dY 0 [] aC (.slice none 0 0),by rw[A.o],al.o,ad (by rw[A.o];exact Cr _ _)⟩;exact kE (b:=w.heap.size) rfl rfl rfl rfl am.o
 |aq x tt=>
  obtain⟨⟨a0,b3,br,bk,a4⟩,hx⟩:gP W2 p s 0 (du W0.heap.size) (.aq x tt) _:=be.o;have bi:=ad a4;have HX:=ad hx;have bs:=ad (show pa s a0=pa s tt by unfold pa;rw[bk]);have bx:=ad bk;clear a4 hx bk;go_wp2_with fail;refine(dF W2 p s a0 0 b3 hs bi.o).m ?_;rintro D l⟨rfl,av,a9⟩;rw[bs.o] at av;rw[bx.o];have a1:=ad av;have an:=ad a9;clear av a9;cases hd:rs s tt with
  |nil=>have A:=ad (Mb bg.o ((yO br).1 hd));clear hd;go_upto_region 5 with fail;have d:=ad (show l.heap[w.heap.size]? =_ from(an.o.block w.heap.size (aB.1 C.o).1 (by have:=j.o;intro e;cases e;omega)).t C.o);have ai:=ad (show Below w.heap.size w l from iw a3.o an.o (by have:=j.o;omega));have bJ:=ad (HX.o.aN an.o (fun h=>by have:W0.heap.size≤p:=h;have:=a2.o;have:=j.o;omega));obtain⟨-,-,-,B,-,-,-,-⟩:=a1.o.pc;go_upto_region 7 with fail;clear B;have i:=dx l w.heap.size k t u (.slice a n c);have am:=ad (aK (k:=k) (t:=t) (u:=u) (kv:=.slice a n c) d.o);have al:=ad (iw ai.o i (ag _));have b0:=ad (jJ (A':=du w.heap.size) (fun z _ h=>by have:W0.heap.size≤z:=h;have:=a2.o;show w.heap.size≤z;omega) _ _ (bJ.o.aN i (fun h=>by have:W0.heap.size≤w.heap.size:=h;have:=a2.o;omega)));obtain⟨E,F,G,H,I,J,K,L,M,N⟩:=aJ d.o;obtain⟨O,Q,R,S,T,V,W,X,Y,Z⟩:=aM d.o;clear i;go_wp2_with fail;clear E F G H I J K L M N O Q R S T V W X Y Z;refine aD (v:=.tuple #[dY k t u (.slice a n c),.int .i64 0,.int .i64 0]) ?_ rfl ⟨dY k t u (.slice a n c),by rw[A.o];rfl,al.o,ad (by rw[A.o];exact b0.o)⟩;exact kE (b:=w.heap.size) rfl rfl rfl rfl am.o
  |cons c2 r2=>
   have A:=ad (IM bg.o ((yO br).2 (by rw[hd];exact fun h=>by cases h)));clear hd;have ap:=ad (show(15:Int)≠0 by decide);have q1:((c2:UInt8)::r2==[])=false:=rfl;go_upto_region 4 with fail;clear q1;go_wp2_with fail;refine(gp l p s (pa s tt) 0 0 15 a1.o).m ?_;rintro D y⟨rfl,ao,bb⟩;rw[ah rfl] at ao;have aU:=ad ao;have ab:=ad (an.o.t bb);clear ao bb;go_upto_region 5 with fail;have d:=ad (show y.heap[w.heap.size]? =_ from(ab.o.block w.heap.size (aB.1 C.o).1 (by have:=j.o;intro e;cases e;omega)).t C.o);have ai:=ad (show Below w.heap.size w y from iw a3.o ab.o (by have:=j.o;omega));obtain⟨-,c1,-,B,-,-,-,-⟩:=aU.o.pc;have af:((15:Int)==0)=false:=aL.2 ap.o;have a6:((15:Int)!=0)=true:=by rw[bne,af];rfl
   go_upto_region 6 with fail;clear af a6;have x1:y.drew.cell? ⟨p,1,none⟩=some (.int .i64 ((pa s tt:Nat):Int)):=c1;have x3:y.drew.cell? ⟨p,3,none⟩=some (.int .i64 15):=B;have aa:=ad (ng d.o);have i:=dx y w.heap.size 0 [] aC (.slice none 0 0);have am:=ad (ng (aK (k:=0) (t:=[]) (u:=aC) (kv:=.slice none 0 0) d.o));have ac:=iw ai.o i (ag _);have al:=ad (cw ac);obtain⟨E,F,G,H,I,J,K,L,M,N⟩:=aJ aa.o;obtain⟨O,Q,R,S,T,V,W,X,Y,Z⟩:=aR aa.o;obtain⟨e0,e1,D,e3,e4,e5,e6,e7,e8,e9⟩:=aJ d.o;obtain⟨d0,d1,d2,d3,d4,d5,d6,d7,d8,d9⟩:=aR d.o;have a5:=j.o;clear i ac;subst a5;go_region;clear E F G H I J K L M N O Q R S T V W X Y Z e0 e1 D e3 e4 e5 e6 e7 e8 e9 d0 d1 d2 d3 d4 d5 d6 d7 d8 d9 x1 x3 c1 B;go_wp2_with fail;refine aD (v:=.tuple #[dY 0 [] aC (.slice none 0 0),.int .i64 ((pa s tt:Nat):Int),.int .i64 15]) ?_ rfl ⟨dY 0 [] aC (.slice none 0 0),by rw[A.o],al.o,ad (by rw[A.o];exact Cr _ _)⟩;exact kE (b:=w.heap.size) rfl rfl rfl rfl am.o
end Go.Proofs.YtlemddnecmmfgaaGreatDoor
namespace Go.Proofs.YtlemddnecmmfgaaGreatDoor
open Go.RowKit Go.Shelf
variable{b:Array aaL}{a:Ending→aaK→Prop}{y:FuncId}{j k:Nat}{i:Program}{e:TypeId}{d s:aaK}
attribute[local go_sem] Oper.semAt_some
structure Iter (w:aaK) (bs bsep bsv:Nat) (r:Bs) (c:UInt8):Prop where
 rest:w.heap[bs]? =some (.cells #[.string ⟨r.toArray⟩] 9)
 sep:w.heap[bsep]? =some (.cells #[.string ⟨#[c]⟩] 9)
 save:w.heap[bsv]? =some (.cells #[.int .i64 0] 3)
theorem bR{v:aaL}(h:d.heap[j]? =some (.cells #[v] e)):d.cell? ⟨j,0,none⟩=some v∧d.frozen? ⟨j,0,none⟩=false:=by
 constructor
 ·unfold World.cell?;rw[show d.heap[(⟨j,0,none⟩:Addr).block]? =_ from h];rfl
 ·unfold World.frozen?;rw[show d.heap[(⟨j,0,none⟩:Addr).block]? =_ from h];simp
theorem mz{o:Obj}(h:d.heap[j]? =some o):j<d.heap.size:=(aB.1 h).1
theorem sG{v u:aaL}(h:d.heap[j]? =some (.cells #[v] e)):(d.setCell ⟨j,0,none⟩ u).heap[j]? =some (.cells #[u] e):=by have:=Lib.heap_setCell_same (i:=0) h u;simpa using this
def Ia(w:aaK)(b:Nat):Nat:=
 match w.cell? ⟨b,0,none⟩ with
 |some (.string s)=>s.size
 |_=>0
theorem A3{r:Bs}(h:d.heap[j]? =some (.cells #[.string ⟨r.toArray⟩] e)):Ia d j=r.length:=by unfold Ia;rw[(bR h).1];rfl
theorem Ib(c:UInt8)(r:Bs)(h:r.contains c=true):pieces c r=upto c r::pieces c (past c r):=by rw[eP,ah h]
theorem Ic(c:UInt8)(r:Bs)(h:r.contains c=false):pieces c r=[r]:=by rw[eP,h];rfl
theorem ff(h:Calls i y b d a):
 Fence.wide.fn y∧(Fence.wide.depth.isSome=true→1≤j)∧CallsIn Fence.wide k i y b d a:=⟨trivial,(fun e=>by cases e),callsIn_wide.2 h⟩
theorem dD{l:Nat}(h:Calls i y b d a):
 (Fence.wide.inRound l).fn y∧((Fence.wide.inRound l).depth.isSome=true→1≤j)∧CallsIn (Fence.wide.inRound l) k i y b d a:=⟨trivial,(fun e=>by cases e),CallsIn.inRound l (callsIn_wide.2 h)⟩
theorem Su(r:Bs)(c:UInt8)(w:aaK)(a:Good w)(b:r.length<4294967281)(h:r.contains c=true):
 Calls Tryz.prog 110 #[.string ⟨r.toArray⟩,.string ⟨#[c]⟩] w fun e w'=>e=.returned (.int .i64 (lead (·!=c) r:Nat))∧w=w':=by
 refine(mN ⟨r.toArray⟩ ⟨#[c]⟩ w a (by show r.toArray.size<_;simpa using b)).mono ?_;rintro e w'⟨rfl,rfl⟩;exact⟨bW (Lp c r h),rfl⟩
theorem UB(r:Bs)(c:UInt8)(w:aaK)(a:Good w)(b:r.length<4294967281)(h:r.contains c=false):
 Calls Tryz.prog 110 #[.string ⟨r.toArray⟩,.string ⟨#[c]⟩] w fun e w'=>e=.returned (.int .i64 (-1))∧w=w':=by
 refine(mN ⟨r.toArray⟩ ⟨#[c]⟩ w a (by show r.toArray.size<_;simpa using b)).mono ?_;rintro e w'⟨rfl,rfl⟩;exact⟨bW (OL c r h),rfl⟩
theorem O6(r:Bs)(c:UInt8):(⟨r.toArray⟩:aaM).extract 0 (lead (·!=c) r)=⟨(upto c r).toArray⟩:=dU (by rw[Lib.extract_data,←kF];simp)
theorem O7(r:Bs)(c:UInt8)(n:Nat)(a:r.length≤n):(⟨r.toArray⟩:aaM).extract (lead (·!=c) r+1) n=⟨(past c r).toArray⟩:=dU (OM r c n a)
theorem Yq(N l a b d:Nat)(c:UInt8)(s:Bs)(J I:List Bs→aaK→Prop)(W:aaK)(h1:a≠b)(h2:a≠d)(ab:a≠0)
 (aa:∀pre A v,J pre A→J pre (A.setCell ⟨a,0,none⟩ v))
 (M:∀pre x m,J pre m→Good m→pre++[x]<+:pieces c s→YieldAt Fence.wide (N-1) Tryz.prog l #[.string ⟨x.toArray⟩] m fun e W'=>(e=.returned (.bool true)∧J (pre++[x]) W'∧(W'.heap[a]? =m.heap[a]? ∧W'.heap[b]? =m.heap[b]? ∧W'.heap[d]? =m.heap[d]?)∧Good W')∨(e=.returned (.bool false)∧I (pre++[x]) W'))
 (h0:J [] W)(C:Iter W a b d s c)(hg:Good W)(hs:s.length<4294967281):
 CallsIn Fence.wide N Tryz.prog 240 #[.func (.yield l) #[] #[],.pointer (some ⟨b,0,none⟩),.pointer (some ⟨a,0,none⟩),.pointer (some ⟨d,0,none⟩)] W fun e W'=>(∃v,e=.returned v)∧(J (pieces c s) W'∨∃pre,pre<+:pieces c s∧I pre W'):=by
 refine callsIn_of_wp Tryz.func240 rfl trivial ?_ rfl;simp only[Tryz.ntmps240,oC,bF,lH,Nat.reduceAdd,Nat.reduceSub,Array.replicate_succ,Array.replicate_zero,List.push_toArray,List.append_toArray,kK,di];obtain⟨u,y⟩:=bR C.rest;obtain⟨w,z⟩:=bR C.sep;obtain⟨G,H⟩:=bR C.save
 gi_wp2
 clear u y w z G H
 gi_loopw [7] (fun _ wr=>∃(pre:List Bs) (r:Bs),J pre wr∧Good wr∧Iter wr a b d r c∧Hid (pre++pieces c r=pieces c s)∧r.length≤s.length) (fun _ wr=>Ia wr a)
 case atStart=>exact⟨[],s,h0,hg,C,ad rfl,ag _⟩
 case round=>
  obtain⟨pre,r,L,B,k,n,ap⟩:=hrel;obtain⟨u,y⟩:=bR k.rest;obtain⟨w,z⟩:=bR k.sep;obtain⟨G,H⟩:=bR k.save;have O:=A3 k.rest;have Z:=ad O;clear O;rcases j:r.contains c with _|_
  ·have h:=ad (Ic c r j);have q:pre++[r]<+:pieces c s:=by rw[←n.out,h.o];exact⟨[],by simp⟩
   obtain⟨fn,tmps,assign,body,hy,F⟩:=M pre r wr L B q;clear q
   gi_wp2_with fail
   refine ff ((UB r c _ B (by omega) j).mono ?_);rintro e w1⟨rfl,rfl⟩;clear j
   gi_wp2_with fail
   refine⟨(fun e=>by cases e),F.mono ?_⟩;rintro e i(⟨rfl,D,_,_⟩|⟨rfl,E⟩)
   ·gi_wp2
    go_end0
    refine⟨⟨_,rfl⟩,.inl ?_⟩;rw[←n.out,h.o];exact D
   ·gi_wp2
    go_end0
    refine⟨⟨_,rfl⟩,.inr ⟨_, ?_,E⟩⟩;rw[←n.out,h.o];exact List.prefix_refl _
  ·have h:=ad (Ib c r j);have ai:=kx c r j;have q:pre++[upto c r]<+:pieces c s:=by rw[←n.out,h.o];exact⟨pieces c (past c r),by simp⟩
   obtain⟨fn,tmps,assign,body,hy,F⟩:=M pre (upto c r) wr L B q;clear q;have an:=O6 r c;have ao:=O7 r c r.length (ag _)
   gi_wp2_with fail
   refine ff ((Su r c _ B (by omega) j).mono ?_);rintro e w1⟨rfl,rfl⟩;clear j
   gi_wp2_with fail
   refine⟨(fun e=>by cases e),F.mono ?_⟩;rintro e i(⟨rfl,D,⟨S,T,V⟩,ac⟩|⟨rfl,E⟩)
   ·have p:Iter i a b d r c:=⟨S.t k.rest,T.t k.sep,V.t k.save⟩;clear S T V u y w z G H;obtain⟨u,y⟩:=bR p.rest;obtain⟨w,z⟩:=bR p.sep;have R:Iter (i.setCell ⟨a,0,none⟩ (.string ⟨(past c r).toArray⟩)) a b d (past c r) c:=
     ⟨sG p.rest,(dy i ⟨a,0,none⟩ _ b (eo h1)).t p.sep,(dy i ⟨a,0,none⟩ _ d (eo h2)).t p.save⟩
    have af:Good (i.setCell ⟨a,0,none⟩ (.string ⟨(past c r).toArray⟩)):=by obtain⟨am,X⟩:=ac;refine⟨am, ?_⟩;unfold World.cell? at X⊢;rw[dy i ⟨a,0,none⟩ _ _ (show(⟨0,0,none⟩:Addr).block≠a from eo ab)];exact X
    have al:=JQ c r (by
     rw[r8];have:=wI ai;rcases Q:r.contains c with _|_
     ·have:=ld c r Q;have K:=congrArg List.length this;unfold upto at K;rw[←cU,gu] at K;omega
     ·exact r8.1 Q)
    have Y:=ad (A3 R.rest)
    gi_wp2
    go_roundw
    case rel=>exact⟨pre++[upto c r],past c r,aa _ _ _ D,af,R,ad (by rw[←n.out,h.o];simp),by omega⟩
    case measure=>rw[Y.o,Z.o];exact al
   ·gi_wp2
    refine aD (results_none rfl _ _ _) rfl ?_;refine⟨⟨_,rfl⟩,.inr ⟨_, ?_,E⟩⟩;rw[←n.out,h.o];exact⟨pieces c (past c r),by simp⟩
end Go.Proofs.YtlemddnecmmfgaaGreatDoor
namespace Go.Proofs.YtlemddnecmmfgaaGreatDoor
open Go.RowKit Go.Shelf
variable{b:Array aaL}{a:Ending→aaK→Prop}{y:FuncId}{j k:Nat}{i:Program}{e:TypeId}{d s:aaK}
structure iN (n bs:Nat) (A B:aaK):Prop where
 os:B.os=A.os
 tape:B.tape=A.tape
 output:B.output=A.output
 size:A.heap.size≤B.heap.size
 block:∀k,k<n→k≠bs→B.heap[k]? =A.heap[k]?
structure oY (S:Nat→Prop) (A B:aaK):Prop where
 os:B.os=A.os
 tape:B.tape=A.tape
 output:B.output=A.output
 size:A.heap.size≤B.heap.size
 block:∀k,k<A.heap.size→¬S k→B.heap[k]? =A.heap[k]?
theorem oY.ai{S:Nat→Prop}(h:Below d.heap.size d s):oY S d s:=⟨h.os,h.tape,h.output,h.size,fun k a _=>h.block k a⟩
theorem bE(A:aaK)(p:Addr)(v:aaL):(A.setCell p v).heap.size=A.heap.size:=by simp[World.setCell]
theorem oY.setCell{S:Nat→Prop}{A B:aaK}(h:oY S A B){b i:Nat}(c:S b)(v:aaL):oY S A (B.setCell ⟨b,i,none⟩ v):=
 ⟨h.os,h.tape,h.output,by rw[bE];exact h.size,fun k d a=>(dy B ⟨b,i,none⟩ v k (fun e=>a (e▸c))).t (h.block k d a)⟩
theorem jj(n a l:Nat)(A:aaK)(o:Obj)(c:n≤l):iN n a A (A.putObj l o):=
 ⟨rfl,rfl,rfl,by simp,fun k b _=>Xv (by omega)⟩
theorem zE(n a:Nat)(A:aaK)(v:aaL):iN n a A (A.setCell ⟨a,0,none⟩ v):=
 ⟨rfl,rfl,rfl,by rw[bE];exact ag _,fun k _ b=>dy A ⟨a,0,none⟩ v k b⟩
theorem fR(h:Good d)(b:s.heap[0]? =d.heap[0]?):Good s:=by obtain⟨m,c⟩:=h;exact⟨m,(uL (a:=⟨0,0,none⟩) b).t c⟩
def bodyPostS(S:Nat→Prop)(I a:List Bs→aaK→Prop)(xs:List Bs)(W:aaK):Exit→Act→aaK→Prop
 |.normal,_,W'=>oY S W W'∧I xs W'
 |.ret,_,W'=>oY S W W'∧a xs W'
 |_,_,_=>False
theorem range_split{g:Operand}{M:Array Tmp}{assign body:Code}{Q:Exit→Act→aaK→Prop}{a:Act}(c:UInt8)(s:Bs)(b q r:Nat)
 (h1:b≠q)(h2:b≠r)(ab:b≠0)
 (hg:a.eval g=.func (.func 240) #[] #[.pointer (some ⟨q,0,none⟩),.pointer (some ⟨b,0,none⟩),.pointer (some ⟨r,0,none⟩)])
 (a9:M.size=1)(hit:Iter d b q r s c)(af:Good d)(hs:s.length<4294967281)
 (S:Nat→Prop)(C:∀k,S k→k<d.heap.size∧k≠b∧k≠q∧k≠r∧k≠0)
 (I F:List Bs→aaK→Prop)(G:∀pre A B,I pre A→iN d.heap.size b A B→I pre B)(aa:∀pre A B,F pre A→iN d.heap.size b A B→F pre B)
 (h0:I [] d)(a₁:Bs→Act)
 (ay:∀(l:Nat) (x:Bs) (W:aaK) (K:Act→aaK→Prop),K (a₁ x) W→
  assign.wpIn (Fence.wide.inRound l) (j-1-1) Tryz.prog (Exit.then K (fun _ _ _=>False)) {tmps:=(M.zip #[.string ⟨x.toArray⟩]).foldl (fun t (p,v)=>t.setIfInBounds p v) a.tmps,defers:=[]} W)
 (aU:∀(l:Nat) (pre:List Bs) (x:Bs) (W:aaK),I pre W→Good W→pre++[x]<+:pieces c s→
  body.wpIn (Fence.wide.inRound l) (j-1-1) Tryz.prog (bodyPostS S I F (pre++[x]) W) (a₁ x) W)
 (a0:∀(D:Nat) (W:aaK),d.heap.size≤D→I (pieces c s) W→W.heap[D]? =some (.deferred (some []))→Q .normal {a with defers:={target:=.collected D,args:=#[]}::a.defers} W)
 (bb:∀(D:Nat) (pre:List Bs) (W:aaK),d.heap.size≤D→pre<+:pieces c s→F pre W→W.heap[D]? =some (.deferred (some []))→Code.ret.wpIn Fence.wide j Tryz.prog Q {a with defers:={target:=.collected D,args:=#[]}::a.defers} W):
 (Code.rangeFunc g M assign body).wpIn Fence.wide j Tryz.prog Q a d:=by
 refine wpIn_rangeFunc ?_;intro fn a1;obtain⟨rec,y⟩:∃rec:LoopState→Option Code→Loop,rec=fun st pe=>{state:=st,pending:=pe,fn,tmps:=a.tmps,params:=M,assign,body,defers:=d.heap.size}:=⟨_,rfl⟩;obtain⟨m,L⟩:∃m,(d.alloc (.deferred (some []))).alloc (.loop (rec .ready none))=m:=⟨_,rfl⟩;have u:Below d.heap.size d m:=by rw[←L];exact((ar _ d).alloc (ag _) _).alloc (by simp) _
 have av:m.heap[d.heap.size+1]? =some (.loop (rec .ready none)):=by rw[←L];have:=oF (d.alloc (.deferred (some []))) (.loop (rec .ready none));rwa [aO] at this
 have aq:m.heap[d.heap.size]? =some (.deferred (some [])):=by rw[←L];exact(tG _ _ _ (by simp)).t (oF d _)
 have al:=mz hit.rest;have am:=mz hit.sep;have an:=mz hit.save;have X:=af.lt;have ap:I [] m:=G [] d m h0 ⟨u.os,u.tape,u.output,u.size,fun k o _=>u.block k o⟩;have a2:Iter m b q r s c:=⟨(u.block _ al).t hit.rest,(u.block _ am).t hit.sep,(u.block _ an).t hit.save⟩;refine⟨d.heap.size+1,[{target:=.collected d.heap.size,args:=#[]}],m,{target:=.fn (.func 240) #[.pointer (some ⟨q,0,none⟩),.pointer (some ⟨b,0,none⟩),.pointer (some ⟨r,0,none⟩)],args:=#[.func (.yield (d.heap.size+1)) #[] #[]]},m,240,
  #[.func (.yield (d.heap.size+1)) #[] #[],.pointer (some ⟨q,0,none⟩),.pointer (some ⟨b,0,none⟩),.pointer (some ⟨r,0,none⟩)],m, ?_, ?_, ?_, ?_,(fun e=>by cases e), ?_⟩
 ·rw[←L,y];exact run_enterLoop_outer _ _ _ _ _
 ·simp only[resolve,hg];simp[go_sem]
 ·intro f' _;exact trivial
 ·simp[invoke,go_sem]
 ·refine(Yq (j-1) (d.heap.size+1) b q r c s
   (fun pre W=>I pre W∧W.heap[d.heap.size+1]? =some (.loop (rec .ready none))∧W.heap[d.heap.size]? =some (.deferred (some [])))
   (fun pre W=>F pre W∧W.heap[d.heap.size+1]? =some (.loop (rec .done (some .ret)))∧W.heap[d.heap.size]? =some (.deferred (some [])))
   m h1 h2 ab
   (fun pre A v R=>⟨G pre A _ R.1 (zE _ _ _ _),(dy A ⟨b,0,none⟩ v _ (by show d.heap.size+1≠b;omega)).t R.2.1,(dy A ⟨b,0,none⟩ v _ (by show d.heap.size≠b;omega)).t R.2.2⟩)
   ?_ ⟨ap,av,aq⟩ a2 (fR af (u.block _ X)) hs).mono ?_
  ·rintro pre x W⟨H,z,o⟩ac Y;have a6:d.heap.size+1<W.heap.size:=mz z;have hy:=run_yield (P:=Tryz.prog) (args:=#[.string ⟨x.toArray⟩]) z (by rw[y];exact a9.symm);rw[y] at hy;refine⟨fn,_,assign,body,hy,roundIn_of_wpIn a1 (ay _ x W _ ⟨_,run_beginRound z (by rw[y]), ?_⟩)⟩;clear hy;have ao:=jj d.heap.size b (d.heap.size+1) W (.loop {rec .ready none with state:=.busy}) (by omega);have a5:(W.putObj (d.heap.size+1) (.loop {rec .ready none with state:=.busy})).heap[d.heap.size+1]? =some (.loop {rec .ready none with state:=.busy}):=wK a6;have a4:(W.putObj (d.heap.size+1) (.loop {rec .ready none with state:=.busy})).heap[d.heap.size]? =some (.deferred (some [])):=(Xv (by omega)).t o;refine wpIn_mono (aU _ pre x _ (G _ _ _ H ao) (fR ac (ao.block _ X (eo ab))) Y) ?_;have bd:(W.putObj (d.heap.size+1) (.loop {rec .ready none with state:=.busy})).heap.size=W.heap.size:=by simp
   have aN:∀k,k<d.heap.size→(W.putObj (d.heap.size+1) (.loop {rec .ready none with state:=.busy})).heap[k]? =W.heap[k]? :=fun k o=>Xv (by omega);generalize W.putObj (d.heap.size+1) (.loop {rec .ready none with state:=.busy})=O at*;have fin:∀(jump:Option Code) (i:aaK),oY S O i→
    (Instr.endRound (d.heap.size+1) jump).run Tryz.prog i=.ok (.bool jump.isNone) (i.putObj (d.heap.size+1) (.loop (rec (if jump.isNone then .ready else .done) jump)))∧
    (i.putObj (d.heap.size+1) (.loop (rec (if jump.isNone then .ready else .done) jump))).heap[d.heap.size+1]? =some (.loop (rec (if jump.isNone then .ready else .done) jump))∧
    (i.putObj (d.heap.size+1) (.loop (rec (if jump.isNone then .ready else .done) jump))).heap[d.heap.size]? =some (.deferred (some [])):=fun jump i n=>by
    have a8:¬S (d.heap.size+1):=fun h=>by have:=(C _ h).1;omega
    have a7:¬S d.heap.size:=fun h=>by have:=(C _ h).1;omega
    have ai:=(n.block (d.heap.size+1) (by omega) a8).t a5;have J:=(n.block d.heap.size (by omega) a7).t a4;have:=run_endRound (P:=Tryz.prog) jump ai;rw[y] at this⊢;exact⟨this,wK (mz ai),(Xv (by omega)).t J⟩
   have kept:∀(jump:Option Code) (i:aaK) (k:Nat),oY S O i→k<d.heap.size→¬S k→(i.putObj (d.heap.size+1) (.loop (rec (if jump.isNone then .ready else .done) jump))).heap[k]? =W.heap[k]? :=fun jump i k n o hn=>(Xv (by omega)).t ((n.block k (by omega) hn).t (aN k o))
   rintro e a3 i E;cases e with
   |normal=>
    obtain⟨n,T⟩:=E;obtain⟨Z,V,J⟩:=fin none i n;exact⟨_,_,Z,.inl ⟨rfl,⟨G _ _ _ T (jj _ _ _ _ _ (by omega)),V,J⟩,
     ⟨kept none i b n al (fun h=>(C _ h).2.1 rfl),kept none i q n am (fun h=>(C _ h).2.2.1 rfl),kept none i r n an (fun h=>(C _ h).2.2.2.1 rfl)⟩,
     fR ac (kept none i _ n X (fun h=>(C _ h).2.2.2.2 rfl))⟩⟩
   |ret=>obtain⟨n,T⟩:=E;obtain⟨Z,V,J⟩:=fin (some .ret) i n;exact⟨_,_,Z,.inr ⟨rfl,aa _ _ _ T (jj _ _ _ _ _ (by omega)),V,J⟩⟩
   |exit id=>exact E.elim
   |goto t=>exact E.elim
   |panic ch=>exact E.elim
   |outgrown=>exact E.elim
  ·rintro e O⟨⟨v,rfl⟩,(⟨H,z,o⟩|⟨pre,Y,H,z,o⟩)⟩
   ·exact⟨none,_,by have:=run_endLoop (P:=Tryz.prog) z (by rw[y];simp);rw[y] at this;exact this,a0 _ _ (ag _) (G _ _ _ H (jj _ _ _ _ _ (by omega))) ((Xv (by omega)).t o)⟩
   ·exact⟨some .ret,_,by have:=run_endLoop (P:=Tryz.prog) z (by rw[y];simp);rw[y] at this;exact this,bb _ pre _ (ag _) Y (aa _ _ _ H (jj _ _ _ _ _ (by omega))) ((Xv (by omega)).t o)⟩
end Go.Proofs.YtlemddnecmmfgaaGreatDoor
namespace Go.Proofs.YtlemddnecmmfgaaGreatDoor
open Go.RowKit Go.Shelf
theorem iN.refl(n a:Nat)(A:aaK):iN n a A A:=⟨rfl,rfl,rfl,ag _,fun _ _ _=>rfl⟩
theorem iN.t{n a:Nat}{A B C:aaK}(h:iN n a A B)(k:iN n a B C):iN n a A C:=
 ⟨k.os.t h.os,k.tape.t h.tape,k.output.t h.output,bP h.size k.size,fun i b c=>(k.block i b c).t (h.block i b c)⟩
theorem iN.below{n b m:Nat}{w A B:aaK}(h:iN n b A B)(a:Below m w A)(e:m≤n)(d:m≤b):Below m w B:=
 ⟨h.os.t a.os,h.tape.t a.tape,h.output.t a.output,bP a.size h.size,fun k c=>(h.block k (by omega) (by omega)).t (a.block k c)⟩
theorem kC(s:Bs)(c:UInt8)(w:aaK):
 Calls Tryz.prog 170 #[.string ⟨s.toArray⟩,.string ⟨#[c]⟩] w fun e w'=>
  e=.returned (.func (.func 240) #[] #[.pointer (some ⟨w.heap.size+1,0,none⟩),.pointer (some ⟨w.heap.size,0,none⟩),.pointer (some ⟨w.heap.size+1+1,0,none⟩)])∧
  Iter w' w.heap.size (w.heap.size+1) (w.heap.size+1+1) s c∧w'.heap.size=w.heap.size+1+1+1∧Below w.heap.size w w':=by
 have a:=(ar w.heap.size w).alloc (ag _) (.cells #[.string ⟨s.toArray⟩] 9);have b:=a.alloc a.size (.cells #[.string ⟨#[c]⟩] 9);have i:=b.alloc b.size (.cells #[.int .i64 0] 3);have n1:(w.alloc (.cells #[.string ⟨s.toArray⟩] 9)).heap[w.heap.size]? =some (.cells #[.string ⟨s.toArray⟩] 9):=oF w _;have n2:=oF (w.alloc (.cells #[.string ⟨s.toArray⟩] 9)) (.cells #[.string ⟨#[c]⟩] 9);have d:=oF ((w.alloc (.cells #[.string ⟨s.toArray⟩] 9)).alloc (.cells #[.string ⟨#[c]⟩] 9)) (.cells #[.int .i64 0] 3);simp only[aO] at n2 d;have h:Iter (((w.alloc (.cells #[.string ⟨s.toArray⟩] 9)).alloc (.cells #[.string ⟨#[c]⟩] 9)).alloc (.cells #[.int .i64 0] 3)) w.heap.size (w.heap.size+1) (w.heap.size+1+1) s c:=
  ⟨(tG _ _ _ (by simp;omega)).t ((tG _ _ _ (by simp)).t n1),(tG _ _ _ (by simp)).t n2,d⟩
 have k:=ad h;clear h n1 n2 d a b;have j:=ad i;clear i;go_enter Tryz.func170,Tryz.ntmps170;go_wp2;go_ret;exact⟨rfl,k.o,by simp,j.o⟩
