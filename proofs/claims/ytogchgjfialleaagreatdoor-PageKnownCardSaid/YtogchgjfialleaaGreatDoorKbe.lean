/- strings.SplitSeq's contract. -/
import Derived.Test.YtogchgjfialleaaGreatDoorKbd
import Derived.RangeFuncNested
import Derived.RangeFuncBound
import Derived.Shelf.RegionOpen
import Derived.OwnWalkIn
import Derived.LoopNIn
import Derived.LoopIn
set_option linter.unusedVariables false
set_option maxRecDepth 100000
set_option maxHeartbeats 4000000
namespace Go.Proofs.YtogchgjfialleaaGreatDoor
open Go.RowKit
abbrev PV(p:Nat):Array Value:=#[.pointer (some ⟨p,0,none⟩)]
section
variable{p op k:Nat}{s:Bs}
theorem Fm(k:s.length≤100000):iC 201 (PV p) p s (GP p):=fun w i op bad j d n h=>by
 refine(P3 w p s op 0 (.ay i bad) k h.lt n (fun W o=> ?_) (fun x t e=>by cases e)).mono ?_
 ·refine(L6 W p s i op bad j k d (h.next o)).mono ?_;rintro e w'⟨v,b,c,a⟩;exact⟨v,b,c,d,j,a.out.1,a.out.2⟩
 ·rintro e w'⟨v,b,c,a⟩;obtain⟨_,_,l,m⟩:gP w' p s op (du w.heap.size) (.ay i bad) v:=a.out;exact⟨v,b,c,l,m⟩
theorem vG(b:s.length≤100000):iC 157 (PV p) p s (GP p):=fun w i op bad l j k h=>(IJ w p s i op bad l b j (Fm b) k h).mono (by rintro e w'⟨v,c,d,a⟩;exact⟨v,c,d,a.out.1,a.out.2⟩)
theorem IL(l:s.length≤100000):iC 111 (PV p) p s (GP p):=fun w i op bad k d j h=>(L2 w p s i op bad k d (vG l) j h).mono (by rintro e w'⟨v,b,c,a⟩;exact⟨v,b,c,a.out.1,a.out.2⟩)
theorem Ka(j:s.length≤100000)(u:∀(w:World) (i:Nat) (r:Bs),i≤s.length→rs s i=40::r→GP p w→PB w p s i op 0→
 Calls Tryz.prog 237 (PV p) w fun e w'=>∃v,e=.returned v∧ak p w w'∧Hid (gP w' p s op (du w.heap.size) (nT s k i) v)):
 nf 237 (PV p) p s op (nT s k) (GP p):=by
 intro w i a d h;have key:Calls Tryz.prog 237 (PV p) w fun e w'=>∃v,e=.returned v∧ak p w w'∧Hid (gP w' p s op (du w.heap.size) (nT s k i) v):=by
  cases b:rs s i with
  |nil=>exact IK w p s i op k a j b h
  |cons c r=>
   cases m:c==40
   ·cases l:c==39
    ·cases n:kH c
     ·exact Ma w p s i op k c r a j b n m l d h
     ·exact L9 w p s i op k c r a j b n d h
    ·obtain rfl:c=39:=eq_of_beq l;exact P6 w p s i op k r a j b d h
   ·obtain rfl:c=40:=eq_of_beq m;exact u w i r a b d h
 exact key.mono (by rintro e w'⟨v,o,q,t⟩;exact⟨v,o,q,t.out⟩)
theorem Fo(n:s.length≤100000)(a:nf 237 (PV p) p s op (nT s k) (GP p)):nf 201 (PV p) p s op (Cu s k) (GP p):=by
 intro w i m c h;have e:Cu s k i=rN s k (nT s k i):=by unfold Cu zA nT rN;cases qL (zI s k) s i<;>rfl
 rw[e];refine(P3 w p s op k (nT s k i) n h.lt c (fun W b=>a W i m (c.aN (ak.ai b)) (h.next b)) (fun x t _=>a)).mono ?_;rintro e w'⟨v,d,j,l⟩;exact⟨v,d,j,l.out⟩
theorem Kb(m:s.length≤100000)(d:nf 157 (PV p) p s op (je s k) (GP p)):nf 111 (PV p) p s op (vh s k) (GP p):=by intro w i l j h;refine(VZ w p s i op k l m d j h).mono ?_;rintro e w'⟨v,a,b,c⟩;exact⟨v,a,b,c.out⟩
end
theorem levels(p:Nat)(s:Bs)(a:s.length≤100000):∀(k op:Nat),op+k=16→nf 157 (PV p) p s op (je s k) (GP p)∧nf 111 (PV p) p s op (vh s k) (GP p)
 |0,op,h=>by
  obtain rfl:op=16:=by omega
  have o:=Ka (p:=p) (op:=16) (k:=0) a (fun w i r d t b h=>L8 w p s i 16 r d a rfl t (IL a) b h);have c:=Fo a o;have n:nf 157 (PV p) p s 16 (je s 0) (GP p):=by intro w i d b h;refine(SM w p s i 16 d a rfl c (vG a) b h).mono ?_;rintro e w'⟨v,l,m,q⟩;exact⟨v,l,m,q.out⟩
  exact⟨n,Kb a n⟩
 |k+1,op,h=>by
  obtain⟨u,x⟩:=levels p s a k (op+1) (by omega);have o:=Ka (p:=p) (op:=op) (k:=k+1) a (fun w i r d t b j=>P5 w p s i op k r d a h t x b j);have c:=Fo a o;have n:nf 157 (PV p) p s op (je s (k+1)) (GP p):=by intro w i d b j;refine(UU w p s i op k d a h c u b j).mono ?_;rintro e w'⟨v,l,m,q⟩;exact⟨v,l,m,q.out⟩
  exact⟨n,Kb a n⟩
end Go.Proofs.YtogchgjfialleaaGreatDoor
namespace Go.Proofs.YtogchgjfialleaaGreatDoor
open Go.RowKit
theorem yO{s:Bs}{t:Nat}(d:t≤s.length):(rs s t=[]→pa s t=s.length)∧(rs s t≠[]→pa s t≠s.length):=by
 have a:=nP s d;have e:=cY s t;constructor
 ·intro h;rw[h] at a;simp only[lH] at a;omega
 ·intro h;cases b:rs s t with
  |nil=>exact absurd b h
  |cons c r=>rw[b,bF] at a;omega
theorem Fp{s:Bs}{q:Nat}{e:Int}(h:vh s 16 0=.ay q e):ew s=(sF,q,e):=by unfold ew;rw[h]
theorem Mb{s:Bs}{x:Ex}{t:Nat}(h:vh s 16 0=.aq x t)(a:pa s t=s.length):ew s=(x,0,0):=by unfold ew;rw[h];show(bif decide (pa s t=s.length) then(x,0,0) else(sF,pa s t,15))=_;rw[bN a];rfl
theorem IM{s:Bs}{x:Ex}{t:Nat}(h:vh s 16 0=.aq x t)(a:pa s t≠s.length):ew s=(sF,pa s t,15):=by unfold ew;rw[h];show(bif decide (pa s t=s.length) then(x,0,0) else(sF,pa s t,15))=_;rw[cL a];rfl
theorem ng{W:World}{b:Nat}{o:Obj}(h:W.heap[b]? =some o):W.drew.heap[b]? =some o:=h
theorem cw{n:Nat}{w W:World}(h:Below n w W):Below n w W.drew:=⟨h.os,h.tape,h.output,h.size,h.block⟩
theorem iw{w W W':World}{p:Nat}(h:Below w.heap.size w W)(b:ak p W W')(a:w.heap.size≤p):Below w.heap.size w W':=h.trans (b.below a h.size)
theorem kE{fn:Func}{W:World}{tmps:Array Value}{b d a c:Nat}{v0 v1 v2 e i j k l m n x y:Value}(h:fn.results=#[.cell d 136,.tmp a,.tmp c])(p:tmps.getD d undef=.pointer (some ⟨b,0,none⟩))(r:tmps.getD a undef=x)(t:tmps.getD c undef=y)(o:W.heap[b]? =some (.cells #[v0,v1,v2,e,i,j,k,l,m,n] 136)):
 (results fn tmps).run Tryz.prog W=.ok (.tuple #[.agg #[v0,v1,v2,e,i,j,k,l,m,n],x,y]) W:=by
 obtain⟨w,z,A,B,C,D,E,F,G,H⟩:=aR o;have q:tmps[d]?.getD undef=.pointer (some ⟨b,0,none⟩):=by rw[←p];simp
 have s:tmps[a]?.getD undef=x:=by rw[←r];simp
 have u:tmps[c]?.getD undef=y:=by rw[←t];simp
 simp[results,h,go_sem,q,s,u,w,z,A,B,C,D,E,F,G,H]
theorem GH(w:World)(s:Bs)(hs:s.length≤100000)(hG:Good w):
 Calls Tryz.prog 64 #[.string ⟨s.toArray⟩] w fun e w'=>∃v,e=.returned (.tuple #[v,.int .i64 ((ew s).2.1:Int),.int .i64 (ew s).2.2])∧Below w.heap.size w w'∧Hid (dR (du w.heap.size) w' (ew s).1 v):=by
 have HT:=ad (jG w (.cells #[.int .i64 0,.string ⟨#[]⟩,.int .i64 0,.int .i64 0,.string ⟨#[]⟩,.string ⟨#[]⟩,.string ⟨#[]⟩,.bool false,.bool false,.slice none 0 0] 136) (.cells #[.string ⟨s.toArray⟩,.int .i64 0,.int .i64 0,.int .i64 0] 176));have aU:=ad (show((w.alloc (.cells #[.int .i64 0,.string ⟨#[]⟩,.int .i64 0,.int .i64 0,.string ⟨#[]⟩,.string ⟨#[]⟩,.string ⟨#[]⟩,.bool false,.bool false,.slice none 0 0] 136)).alloc (.cells #[.string ⟨s.toArray⟩,.int .i64 0,.int .i64 0,.int .i64 0] 176)).heap.size=w.heap.size+2 by rw[aO,aO]);go_enter Tryz.func64,Tryz.ntmps64;go_wp2_with fail;generalize(w.alloc (.cells #[.int .i64 0,.string ⟨#[]⟩,.int .i64 0,.int .i64 0,.string ⟨#[]⟩,.string ⟨#[]⟩,.string ⟨#[]⟩,.bool false,.bool false,.slice none 0 0] 136)).alloc (.cells #[.string ⟨s.toArray⟩,.int .i64 0,.int .i64 0,.int .i64 0] 176)=W0 at*;have bi:=ad HT.out.below;have bl:=ad HT.out.b1;have bm:=ad (show PB W0 (w.heap.size+1) s 0 0 0 from HT.out.b2);have bk:=ad (show GP (w.heap.size+1) W0 from⟨hG.next bi.out,by have:=hG.lt;omega⟩);clear HT;refine((levels (w.heap.size+1) s hs 16 0 rfl).2 W0 0 (aH _) bk.out bm.out).mono ?_;rintro e w1⟨v,rfl,a6,a5⟩;obtain⟨k,t,u,a,n,c,rfl⟩:=a5.F4;obtain⟨p,hp⟩:∃p,w.heap.size+1=p:=⟨_,rfl⟩;rw[hp] at a6 a5;rw[hp];have j:=ad hp;have b0:=ad a6;have br:=ad a5;have a9:=ad (show w1.heap[w.heap.size]? =_ from(a6.block w.heap.size (by have:=aU.out;omega) (by intro e;cases e;omega)).trans bl.out);have i:=dx w1 w.heap.size k t u (.slice a n c);have a1:=ad (show Below w.heap.size w (dO w1 w.heap.size k t u (.slice a n c)) from iw (iw bi.out a6 (by omega)) i (ag _));have bb:=ad (show gP (dO w1 w.heap.size k t u (.slice a n c)) p s 0 (du W0.heap.size) (vh s 16 0) (dY k t u (.slice a n c)) from a5.aN i (by omega) (fun h=>by have:W0.heap.size≤w.heap.size:=h;have:=aU.out;omega));have A:=ad (aK (k:=k) (t:=t) (u:=u) (kv:=.slice a n c) a9.out);obtain⟨C,D,E,F,G,H,I,J,K,L⟩:=aJ a9.out;obtain⟨M,N,O,Q,R,S,T,V,W,X⟩:=aR a9.out;clear hp a6 a5 i bm bk bl a9 br;go_upto_region 3 with fail;clear C D E F G H I J K L M N O Q R S T V W X;obtain⟨W2,bd⟩:∃W2,dO w1 w.heap.size k t u (.slice a n c)=W2:=⟨_,rfl⟩;rw[bd] at a1 bb A;unfold dO at bd;rw[bd];clear bd;obtain⟨g,hg⟩:∃g,vh s 16 0=g:=⟨_,rfl⟩;rw[hg] at bb;have be:=ad hg;clear hg;cases g with
 |ay q e=>
  obtain⟨bn,hq,a2,-⟩:gP W2 p s 0 (du W0.heap.size) (.ay q e) _:=bb.out;have an:=ad bn;have bf:=ad a2;have o:=ad (Fp be.out);clear bn a2;go_wp2_with fail;refine(iQ W2 p s q 0 e hq hs an.out bf.out).mono ?_;rintro B l⟨rfl,ao,a7⟩;have av:=ad ao;have al:=ad a7;clear ao a7;cases hd:s.drop q with
  |nil=>
   clear hd;have ap:=av;have Z:=al;go_upto_region 5 with fail;have d:=ad (show l.heap[w.heap.size]? =_ from(Z.out.block w.heap.size (aB.1 A.out).1 (by have:=j.out;intro e;cases e;omega)).trans A.out);have ac:=ad (show Below w.heap.size w l from iw a1.out Z.out (by have:=j.out;omega));obtain⟨-,c1,-,y,-,-,-,-⟩:=ap.out.pc;have ab:((e:Int)==0)=false:=aL.2 an.out;have a4:((e:Int)!=0)=true:=by rw[bne,ab];rfl
   go_upto_region 6 with fail;clear ab a4;have x1:l.drew.cell? ⟨p,1,none⟩=some (.int .i64 ((q:Nat):Int)):=c1;have x3:l.drew.cell? ⟨p,3,none⟩=some (.int .i64 e):=y;have Y:=ad (ng d.out);have i:=dx l w.heap.size 0 [] aC (.slice none 0 0);have ai:=ad (ng (aK (k:=0) (t:=[]) (u:=aC) (kv:=.slice none 0 0) d.out));have aa:=iw ac.out i (ag _);have af:=ad (cw aa);obtain⟨C,D,E,F,G,H,I,J,K,L⟩:=aJ Y.out;obtain⟨M,N,O,Q,R,S,T,V,W,X⟩:=aR Y.out;obtain⟨e0,e1,B,e3,e4,e5,e6,e7,e8,e9⟩:=aJ d.out;obtain⟨d0,d1,d2,d3,d4,d5,d6,d7,d8,d9⟩:=aR d.out;have a3:=j.out;clear i aa;subst a3;go_region;clear C D E F G H I J K L M N O Q R S T V W X e0 e1 B e3 e4 e5 e6 e7 e8 e9 d0 d1 d2 d3 d4 d5 d6 d7 d8 d9 x1 x3 c1 y;go_wp2_with fail;refine aD (v:=.tuple #[dY 0 [] aC (.slice none 0 0),.int .i64 ((q:Nat):Int),.int .i64 e]) ?_ rfl ⟨dY 0 [] aC (.slice none 0 0),by rw[o.out],af.out,ad (by rw[o.out];exact Cr _ _)⟩;exact kE (b:=w.heap.size) rfl rfl rfl rfl ai.out
  |cons c r=>
   clear hd;have q1:((c:UInt8)::r==[])=false:=rfl;go_upto_region 4 with fail;clear q1;go_wp2_with fail;refine(gp l p s q 0 e 15 av.out).mono ?_;rintro B m⟨rfl,am,a8⟩;rw[ae an.out] at am;have ap:=ad am;have Z:=ad (al.out.trans a8);clear am a8;go_upto_region 5 with fail;have d:=ad (show m.heap[w.heap.size]? =_ from(Z.out.block w.heap.size (aB.1 A.out).1 (by have:=j.out;intro e;cases e;omega)).trans A.out);have ac:=ad (show Below w.heap.size w m from iw a1.out Z.out (by have:=j.out;omega));obtain⟨-,c1,-,y,-,-,-,-⟩:=ap.out.pc;have ab:((e:Int)==0)=false:=aL.2 an.out;have a4:((e:Int)!=0)=true:=by rw[bne,ab];rfl
   go_upto_region 6 with fail;clear ab a4;have x1:m.drew.cell? ⟨p,1,none⟩=some (.int .i64 ((q:Nat):Int)):=c1;have x3:m.drew.cell? ⟨p,3,none⟩=some (.int .i64 e):=y;have Y:=ad (ng d.out);have i:=dx m w.heap.size 0 [] aC (.slice none 0 0);have ai:=ad (ng (aK (k:=0) (t:=[]) (u:=aC) (kv:=.slice none 0 0) d.out));have aa:=iw ac.out i (ag _);have af:=ad (cw aa);obtain⟨C,D,E,F,G,H,I,J,K,L⟩:=aJ Y.out;obtain⟨M,N,O,Q,R,S,T,V,W,X⟩:=aR Y.out;obtain⟨e0,e1,B,e3,e4,e5,e6,e7,e8,e9⟩:=aJ d.out;obtain⟨d0,d1,d2,d3,d4,d5,d6,d7,d8,d9⟩:=aR d.out;have a3:=j.out;clear i aa;subst a3;go_region;clear C D E F G H I J K L M N O Q R S T V W X e0 e1 B e3 e4 e5 e6 e7 e8 e9 d0 d1 d2 d3 d4 d5 d6 d7 d8 d9 x1 x3 c1 y;go_wp2_with fail;refine aD (v:=.tuple #[dY 0 [] aC (.slice none 0 0),.int .i64 ((q:Nat):Int),.int .i64 e]) ?_ rfl ⟨dY 0 [] aC (.slice none 0 0),by rw[o.out],af.out,ad (by rw[o.out];exact Cr _ _)⟩;exact kE (b:=w.heap.size) rfl rfl rfl rfl ai.out
 |aq x tt=>
  obtain⟨⟨a0,bJ,bo,bg,a2⟩,hx⟩:gP W2 p s 0 (du W0.heap.size) (.aq x tt) _:=bb.out;have bf:=ad a2;have HX:=ad hx;have bp:=ad (show pa s a0=pa s tt by unfold pa;rw[bg]);have bs:=ad bg;clear a2 hx bg;go_wp2_with fail;refine(dF W2 p s a0 0 bJ hs bf.out).mono ?_;rintro B l⟨rfl,ao,a7⟩;rw[bp.out] at ao;rw[bs.out];have av:=ad ao;have al:=ad a7;clear ao a7;cases hd:rs s tt with
  |nil=>have o:=ad (Mb be.out ((yO bo).1 hd));clear hd;go_upto_region 5 with fail;have d:=ad (show l.heap[w.heap.size]? =_ from(al.out.block w.heap.size (aB.1 A.out).1 (by have:=j.out;intro e;cases e;omega)).trans A.out);have ac:=ad (show Below w.heap.size w l from iw a1.out al.out (by have:=j.out;omega));have bv:=ad (HX.out.aN al.out (fun h=>by have:W0.heap.size≤p:=h;have:=aU.out;have:=j.out;omega));obtain⟨-,-,-,y,-,-,-,-⟩:=av.out.pc;go_upto_region 7 with fail;clear y;have i:=dx l w.heap.size k t u (.slice a n c);have ai:=ad (aK (k:=k) (t:=t) (u:=u) (kv:=.slice a n c) d.out);have af:=ad (iw ac.out i (ag _));have bx:=ad (jJ (A':=du w.heap.size) (fun z _ h=>by have:W0.heap.size≤z:=h;have:=aU.out;show w.heap.size≤z;omega) _ _ (bv.out.aN i (fun h=>by have:W0.heap.size≤w.heap.size:=h;have:=aU.out;omega)));obtain⟨C,D,E,F,G,H,I,J,K,L⟩:=aJ d.out;obtain⟨M,N,O,Q,R,S,T,V,W,X⟩:=aM d.out;clear i;go_wp2_with fail;clear C D E F G H I J K L M N O Q R S T V W X;refine aD (v:=.tuple #[dY k t u (.slice a n c),.int .i64 0,.int .i64 0]) ?_ rfl ⟨dY k t u (.slice a n c),by rw[o.out];rfl,af.out,ad (by rw[o.out];exact bx.out)⟩;exact kE (b:=w.heap.size) rfl rfl rfl rfl ai.out
  |cons c2 r2=>
   have o:=ad (IM be.out ((yO bo).2 (by rw[hd];exact fun h=>by cases h)));clear hd;have an:=ad (show(15:Int)≠0 by decide);have q1:((c2:UInt8)::r2==[])=false:=rfl;go_upto_region 4 with fail;clear q1;go_wp2_with fail;refine(gp l p s (pa s tt) 0 0 15 av.out).mono ?_;rintro B m⟨rfl,am,a8⟩;rw[ah rfl] at am;have ap:=ad am;have Z:=ad (al.out.trans a8);clear am a8;go_upto_region 5 with fail;have d:=ad (show m.heap[w.heap.size]? =_ from(Z.out.block w.heap.size (aB.1 A.out).1 (by have:=j.out;intro e;cases e;omega)).trans A.out);have ac:=ad (show Below w.heap.size w m from iw a1.out Z.out (by have:=j.out;omega));obtain⟨-,c1,-,y,-,-,-,-⟩:=ap.out.pc;have ab:((15:Int)==0)=false:=aL.2 an.out;have a4:((15:Int)!=0)=true:=by rw[bne,ab];rfl
   go_upto_region 6 with fail;clear ab a4;have x1:m.drew.cell? ⟨p,1,none⟩=some (.int .i64 ((pa s tt:Nat):Int)):=c1;have x3:m.drew.cell? ⟨p,3,none⟩=some (.int .i64 15):=y;have Y:=ad (ng d.out);have i:=dx m w.heap.size 0 [] aC (.slice none 0 0);have ai:=ad (ng (aK (k:=0) (t:=[]) (u:=aC) (kv:=.slice none 0 0) d.out));have aa:=iw ac.out i (ag _);have af:=ad (cw aa);obtain⟨C,D,E,F,G,H,I,J,K,L⟩:=aJ Y.out;obtain⟨M,N,O,Q,R,S,T,V,W,X⟩:=aR Y.out;obtain⟨e0,e1,B,e3,e4,e5,e6,e7,e8,e9⟩:=aJ d.out;obtain⟨d0,d1,d2,d3,d4,d5,d6,d7,d8,d9⟩:=aR d.out;have a3:=j.out;clear i aa;subst a3;go_region;clear C D E F G H I J K L M N O Q R S T V W X e0 e1 B e3 e4 e5 e6 e7 e8 e9 d0 d1 d2 d3 d4 d5 d6 d7 d8 d9 x1 x3 c1 y;go_wp2_with fail;refine aD (v:=.tuple #[dY 0 [] aC (.slice none 0 0),.int .i64 ((pa s tt:Nat):Int),.int .i64 15]) ?_ rfl ⟨dY 0 [] aC (.slice none 0 0),by rw[o.out],af.out,ad (by rw[o.out];exact Cr _ _)⟩;exact kE (b:=w.heap.size) rfl rfl rfl rfl ai.out
end Go.Proofs.YtogchgjfialleaaGreatDoor
namespace Go.Proofs.YtogchgjfialleaaGreatDoor
open Go.RowKit Go.Shelf
attribute[local go_sem] Oper.semAt_some
structure Iter (w:World) (bs bsep bsv:Nat) (r:Bs) (c:UInt8):Prop where
 rest:w.heap[bs]? =some (.cells #[.string ⟨r.toArray⟩] 9)
 sep:w.heap[bsep]? =some (.cells #[.string ⟨#[c]⟩] 9)
 save:w.heap[bsv]? =some (.cells #[.int .i64 0] 3)
theorem bR{w:World}{b:Nat}{v:Value}{t:TypeId}(h:w.heap[b]? =some (.cells #[v] t)):w.cell? ⟨b,0,none⟩=some v∧w.frozen? ⟨b,0,none⟩=false:=by
 constructor
 ·unfold World.cell?;rw[show w.heap[(⟨b,0,none⟩:Addr).block]? =_ from h];rfl
 ·unfold World.frozen?;rw[show w.heap[(⟨b,0,none⟩:Addr).block]? =_ from h];simp
theorem mz{w:World}{b:Nat}{o:Obj}(h:w.heap[b]? =some o):b<w.heap.size:=(aB.1 h).1
theorem sG{w:World}{b:Nat}{v u:Value}{t:TypeId}(h:w.heap[b]? =some (.cells #[v] t)):(w.setCell ⟨b,0,none⟩ u).heap[b]? =some (.cells #[u] t):=by have:=Lib.heap_setCell_same (i:=0) h u;simpa using this
def Ia(w:World)(b:Nat):Nat:=
 match w.cell? ⟨b,0,none⟩ with
 |some (.string s)=>s.size
 |_=>0
theorem A3{w:World}{b:Nat}{r:Bs}{t:TypeId}(h:w.heap[b]? =some (.cells #[.string ⟨r.toArray⟩] t)):Ia w b=r.length:=by unfold Ia;rw[(bR h).1];rfl
theorem Ib(c:UInt8)(r:Bs)(h:r.contains c=true):pieces c r=upto c r::pieces c (past c r):=by rw[eP,ah h]
theorem Ic(c:UInt8)(r:Bs)(h:r.contains c=false):pieces c r=[r]:=by rw[eP,h];rfl
theorem ff{P:Program}{M N:Nat}{f:FuncId}{args:Array Value}{w:World}{R:Ending→World→Prop}(h:Calls P f args w R):
 Fence.wide.fn f∧(Fence.wide.depth.isSome=true→1≤M)∧CallsIn Fence.wide N P f args w R:=⟨trivial,(fun e=>by cases e),callsIn_wide.2 h⟩
theorem dD{P:Program}{M N l:Nat}{f:FuncId}{args:Array Value}{w:World}{R:Ending→World→Prop}(h:Calls P f args w R):
 (Fence.wide.inRound l).fn f∧((Fence.wide.inRound l).depth.isSome=true→1≤M)∧CallsIn (Fence.wide.inRound l) N P f args w R:=⟨trivial,(fun e=>by cases e),CallsIn.inRound l (callsIn_wide.2 h)⟩
theorem Su(r:Bs)(c:UInt8)(w:World)(a:Good w)(b:r.length<4294967281)(h:r.contains c=true):
 Calls Tryz.prog 132 #[.string ⟨r.toArray⟩,.string ⟨#[c]⟩] w fun e w'=>e=.returned (.int .i64 (lead (·!=c) r:Nat))∧w=w':=by
 refine(mN ⟨r.toArray⟩ ⟨#[c]⟩ w a (by show r.toArray.size<_;simpa using b)).mono ?_;rintro e w'⟨rfl,rfl⟩;exact⟨bW (Lp c r h),rfl⟩
theorem UB(r:Bs)(c:UInt8)(w:World)(a:Good w)(b:r.length<4294967281)(h:r.contains c=false):
 Calls Tryz.prog 132 #[.string ⟨r.toArray⟩,.string ⟨#[c]⟩] w fun e w'=>e=.returned (.int .i64 (-1))∧w=w':=by
 refine(mN ⟨r.toArray⟩ ⟨#[c]⟩ w a (by show r.toArray.size<_;simpa using b)).mono ?_;rintro e w'⟨rfl,rfl⟩;exact⟨bW (OL c r h),rfl⟩
theorem O6(r:Bs)(c:UInt8):(⟨r.toArray⟩:ByteArray).extract 0 (lead (·!=c) r)=⟨(upto c r).toArray⟩:=dU (by rw[Lib.extract_data,←kF];simp)
theorem O7(r:Bs)(c:UInt8)(n:Nat)(a:r.length≤n):(⟨r.toArray⟩:ByteArray).extract (lead (·!=c) r+1) n=⟨(past c r).toArray⟩:=dU (OM r c n a)
theorem yi(N l a b d:Nat)(c:UInt8)(s:Bs)(J G:List Bs→World→Prop)(W:World)(Z:a≠b)(h2:a≠d)(ab:a≠0)
 (aa:∀pre A v,J pre A→J pre (A.setCell ⟨a,0,none⟩ v))
 (K:∀pre x m,J pre m→Good m→pre++[x]<+:pieces c s→YieldAt Fence.wide (N-1) Tryz.prog l #[.string ⟨x.toArray⟩] m fun e W'=>(e=.returned (.bool true)∧J (pre++[x]) W'∧(W'.heap[a]? =m.heap[a]? ∧W'.heap[b]? =m.heap[b]? ∧W'.heap[d]? =m.heap[d]?)∧Good W')∨(e=.returned (.bool false)∧G (pre++[x]) W'))
 (Y:J [] W)(z:Iter W a b d s c)(hg:Good W)(hs:s.length<4294967281):
 CallsIn Fence.wide N Tryz.prog 234 #[.func (.yield l) #[] #[],.pointer (some ⟨b,0,none⟩),.pointer (some ⟨a,0,none⟩),.pointer (some ⟨d,0,none⟩)] W fun e W'=>(∃v,e=.returned v)∧(J (pieces c s) W'∨∃pre,pre<+:pieces c s∧G pre W'):=by
 refine callsIn_of_wp Tryz.func234 rfl trivial ?_ rfl;simp only[Tryz.ntmps234,oC,bF,lH,Nat.reduceAdd,Nat.reduceSub,Array.replicate_succ,Array.replicate_zero,List.push_toArray,List.append_toArray,kK,di];obtain⟨q,u⟩:=bR z.rest;obtain⟨t,w⟩:=bR z.sep;obtain⟨E,F⟩:=bR z.save
 gi_wp2
 clear q u t w E F
 gi_loopw [7] (fun _ wr=>∃(pre:List Bs) (r:Bs),J pre wr∧Good wr∧Iter wr a b d r c∧Hid (pre++pieces c r=pieces c s)∧r.length≤s.length) (fun _ wr=>Ia wr a)
 case atStart=>exact⟨[],s,Y,hg,z,ad rfl,ag _⟩
 case round=>
  obtain⟨pre,r,I,y,k,n,ap⟩:=hrel;obtain⟨q,u⟩:=bR k.rest;obtain⟨t,w⟩:=bR k.sep;obtain⟨E,F⟩:=bR k.save;have L:=A3 k.rest;have X:=ad L;clear L;rcases j:r.contains c with _|_
  ·have h:=ad (Ic c r j);have p:pre++[r]<+:pieces c s:=by rw[←n.out,h.out];exact⟨[],by simp⟩
   obtain⟨fn,tmps,assign,body,hy,D⟩:=K pre r wr I y p;clear p
   gi_wp2_with fail
   refine ff ((UB r c _ y (by omega) j).mono ?_);rintro e w1⟨rfl,rfl⟩;clear j
   gi_wp2_with fail
   refine⟨(fun e=>by cases e),D.mono ?_⟩;rintro e i(⟨rfl,B,_,_⟩|⟨rfl,C⟩)
   ·gi_wp2
    go_end0
    refine⟨⟨_,rfl⟩,.inl ?_⟩;rw[←n.out,h.out];exact B
   ·gi_wp2
    go_end0
    refine⟨⟨_,rfl⟩,.inr ⟨_, ?_,C⟩⟩;rw[←n.out,h.out];exact List.prefix_refl _
  ·have h:=ad (Ib c r j);have ai:=kx c r j;have p:pre++[upto c r]<+:pieces c s:=by rw[←n.out,h.out];exact⟨pieces c (past c r),by simp⟩
   obtain⟨fn,tmps,assign,body,hy,D⟩:=K pre (upto c r) wr I y p;clear p;have an:=O6 r c;have ao:=O7 r c r.length (ag _)
   gi_wp2_with fail
   refine ff ((Su r c _ y (by omega) j).mono ?_);rintro e w1⟨rfl,rfl⟩;clear j
   gi_wp2_with fail
   refine⟨(fun e=>by cases e),D.mono ?_⟩;rintro e i(⟨rfl,B,⟨Q,R,S⟩,ac⟩|⟨rfl,C⟩)
   ·have o:Iter i a b d r c:=⟨Q.trans k.rest,R.trans k.sep,S.trans k.save⟩;clear Q R S q u t w E F;obtain⟨q,u⟩:=bR o.rest;obtain⟨t,w⟩:=bR o.sep;have O:Iter (i.setCell ⟨a,0,none⟩ (.string ⟨(past c r).toArray⟩)) a b d (past c r) c:=
     ⟨sG o.rest,(dy i ⟨a,0,none⟩ _ b (eo Z)).trans o.sep,(dy i ⟨a,0,none⟩ _ d (eo h2)).trans o.save⟩
    have af:Good (i.setCell ⟨a,0,none⟩ (.string ⟨(past c r).toArray⟩)):=by obtain⟨am,T⟩:=ac;refine⟨am, ?_⟩;unfold World.cell? at T⊢;rw[dy i ⟨a,0,none⟩ _ _ (show(⟨0,0,none⟩:Addr).block≠a from eo ab)];exact T
    have al:=JQ c r (by
     rw[r8];have:=wI ai;rcases M:r.contains c with _|_
     ·have:=ld c r M;have H:=congrArg List.length this;unfold upto at H;rw[←cU,gu] at H;omega
     ·exact r8.1 M)
    have V:=ad (A3 O.rest)
    gi_wp2
    go_roundw
    case rel=>exact⟨pre++[upto c r],past c r,aa _ _ _ B,af,O,ad (by rw[←n.out,h.out];simp),by omega⟩
    case measure=>rw[V.out,X.out];exact al
   ·gi_wp2
    refine aD (results_none rfl _ _ _) rfl ?_;refine⟨⟨_,rfl⟩,.inr ⟨_, ?_,C⟩⟩;rw[←n.out,h.out];exact⟨pieces c (past c r),by simp⟩
end Go.Proofs.YtogchgjfialleaaGreatDoor
namespace Go.Proofs.YtogchgjfialleaaGreatDoor
open Go.RowKit Go.Shelf
structure iN (n bs:Nat) (A B:World):Prop where
 os:B.os=A.os
 tape:B.tape=A.tape
 output:B.output=A.output
 size:A.heap.size≤B.heap.size
 block:∀k,k<n→k≠bs→B.heap[k]? =A.heap[k]?
structure oY (S:Nat→Prop) (A B:World):Prop where
 os:B.os=A.os
 tape:B.tape=A.tape
 output:B.output=A.output
 size:A.heap.size≤B.heap.size
 block:∀k,k<A.heap.size→¬S k→B.heap[k]? =A.heap[k]?
theorem oY.ai{S:Nat→Prop}{A B:World}(h:Below A.heap.size A B):oY S A B:=⟨h.os,h.tape,h.output,h.size,fun k a _=>h.block k a⟩
theorem bE(A:World)(p:Addr)(v:Value):(A.setCell p v).heap.size=A.heap.size:=by simp[World.setCell]
theorem oY.setCell{S:Nat→Prop}{A B:World}(h:oY S A B){b i:Nat}(c:S b)(v:Value):oY S A (B.setCell ⟨b,i,none⟩ v):=
 ⟨h.os,h.tape,h.output,by rw[bE];exact h.size,fun k d a=>(dy B ⟨b,i,none⟩ v k (fun e=>a (e▸c))).trans (h.block k d a)⟩
theorem jj(n a l:Nat)(A:World)(o:Obj)(c:n≤l):iN n a A (A.putObj l o):=
 ⟨rfl,rfl,rfl,by simp,fun k b _=>hX (by omega)⟩
theorem zE(n a:Nat)(A:World)(v:Value):iN n a A (A.setCell ⟨a,0,none⟩ v):=
 ⟨rfl,rfl,rfl,by rw[bE];exact ag _,fun k _ b=>dy A ⟨a,0,none⟩ v k b⟩
theorem fR{A B:World}(h:Good A)(b:B.heap[0]? =A.heap[0]?):Good B:=by obtain⟨m,c⟩:=h;exact⟨m,(uL (a:=⟨0,0,none⟩) b).trans c⟩
def bodyPostS(S:Nat→Prop)(I a:List Bs→World→Prop)(xs:List Bs)(W:World):Exit→Act→World→Prop
 |.normal,_,W'=>oY S W W'∧I xs W'
 |.ret,_,W'=>oY S W W'∧a xs W'
 |_,_,_=>False
theorem range_split{N:Nat}{g:Operand}{J:Array Tmp}{assign body:Code}{Q:Exit→Act→World→Prop}{a:Act}{w:World}(c:UInt8)(s:Bs)(b n o:Nat)
 (h1:b≠n)(h2:b≠o)(ab:b≠0)
 (hg:a.eval g=.func (.func 234) #[] #[.pointer (some ⟨n,0,none⟩),.pointer (some ⟨b,0,none⟩),.pointer (some ⟨o,0,none⟩)])
 (a9:J.size=1)(hit:Iter w b n o s c)(af:Good w)(hs:s.length<4294967281)
 (S:Nat→Prop)(y:∀k,S k→k<w.heap.size∧k≠b∧k≠n∧k≠o∧k≠0)
 (I C:List Bs→World→Prop)(E:∀pre A B,I pre A→iN w.heap.size b A B→I pre B)(aa:∀pre A B,C pre A→iN w.heap.size b A B→C pre B)
 (h0:I [] w)(Z:Bs→Act)
 (ay:∀(l:Nat) (x:Bs) (W:World) (K:Act→World→Prop),K (Z x) W→
  assign.wpIn (Fence.wide.inRound l) (N-1-1) Tryz.prog (Exit.then K (fun _ _ _=>False)) {tmps:=(J.zip #[.string ⟨x.toArray⟩]).foldl (fun t (p,v)=>t.setIfInBounds p v) a.tmps,defers:=[]} W)
 (aU:∀(l:Nat) (pre:List Bs) (x:Bs) (W:World),I pre W→Good W→pre++[x]<+:pieces c s→
  body.wpIn (Fence.wide.inRound l) (N-1-1) Tryz.prog (bodyPostS S I C (pre++[x]) W) (Z x) W)
 (a0:∀(D:Nat) (W:World),w.heap.size≤D→I (pieces c s) W→W.heap[D]? =some (.deferred (some []))→Q .normal {a with defers:={target:=.collected D,args:=#[]}::a.defers} W)
 (bb:∀(D:Nat) (pre:List Bs) (W:World),w.heap.size≤D→pre<+:pieces c s→C pre W→W.heap[D]? =some (.deferred (some []))→Code.ret.wpIn Fence.wide N Tryz.prog Q {a with defers:={target:=.collected D,args:=#[]}::a.defers} W):
 (Code.rangeFunc g J assign body).wpIn Fence.wide N Tryz.prog Q a w:=by
 refine wpIn_rangeFunc ?_;intro fn a1;obtain⟨rec,r⟩:∃rec:LoopState→Option Code→Loop,rec=fun st pe=>{state:=st,pending:=pe,fn,tmps:=a.tmps,params:=J,assign,body,defers:=w.heap.size}:=⟨_,rfl⟩;obtain⟨i,H⟩:∃i,(w.alloc (.deferred (some []))).alloc (.loop (rec .ready none))=i:=⟨_,rfl⟩;have q:Below w.heap.size w i:=by rw[←H];exact((ar _ w).alloc (ag _) _).alloc (by simp) _
 have av:i.heap[w.heap.size+1]? =some (.loop (rec .ready none)):=by rw[←H];have:=oF (w.alloc (.deferred (some []))) (.loop (rec .ready none));rwa [aO] at this
 have aq:i.heap[w.heap.size]? =some (.deferred (some [])):=by rw[←H];exact(tG _ _ _ (by simp)).trans (oF w _)
 have al:=mz hit.rest;have am:=mz hit.sep;have an:=mz hit.save;have T:=af.lt;have ap:I [] i:=E [] w i h0 ⟨q.os,q.tape,q.output,q.size,fun k m _=>q.block k m⟩;have a2:Iter i b n o s c:=⟨(q.block _ al).trans hit.rest,(q.block _ am).trans hit.sep,(q.block _ an).trans hit.save⟩;refine⟨w.heap.size+1,[{target:=.collected w.heap.size,args:=#[]}],i,{target:=.fn (.func 234) #[.pointer (some ⟨n,0,none⟩),.pointer (some ⟨b,0,none⟩),.pointer (some ⟨o,0,none⟩)],args:=#[.func (.yield (w.heap.size+1)) #[] #[]]},i,234,
  #[.func (.yield (w.heap.size+1)) #[] #[],.pointer (some ⟨n,0,none⟩),.pointer (some ⟨b,0,none⟩),.pointer (some ⟨o,0,none⟩)],i, ?_, ?_, ?_, ?_,(fun e=>by cases e), ?_⟩
 ·rw[←H,r];exact run_enterLoop_outer _ _ _ _ _
 ·simp only[resolve,hg];simp[go_sem]
 ·intro f' _;exact trivial
 ·simp[invoke,go_sem]
 ·refine(yi (N-1) (w.heap.size+1) b n o c s
   (fun pre W=>I pre W∧W.heap[w.heap.size+1]? =some (.loop (rec .ready none))∧W.heap[w.heap.size]? =some (.deferred (some [])))
   (fun pre W=>C pre W∧W.heap[w.heap.size+1]? =some (.loop (rec .done (some .ret)))∧W.heap[w.heap.size]? =some (.deferred (some [])))
   i h1 h2 ab
   (fun pre A v M=>⟨E pre A _ M.1 (zE _ _ _ _),(dy A ⟨b,0,none⟩ v _ (by show w.heap.size+1≠b;omega)).trans M.2.1,(dy A ⟨b,0,none⟩ v _ (by show w.heap.size≠b;omega)).trans M.2.2⟩)
   ?_ ⟨ap,av,aq⟩ a2 (fR af (q.block _ T)) hs).mono ?_
  ·rintro pre x W⟨F,u,m⟩ac V;have a6:w.heap.size+1<W.heap.size:=mz u;have Y:=run_yield (P:=Tryz.prog) (args:=#[.string ⟨x.toArray⟩]) u (by rw[r];exact a9.symm);rw[r] at Y;refine⟨fn,_,assign,body,Y,roundIn_of_wpIn a1 (ay _ x W _ ⟨_,run_beginRound u (by rw[r]), ?_⟩)⟩;clear Y;have ao:=jj w.heap.size b (w.heap.size+1) W (.loop {rec .ready none with state:=.busy}) (by omega);have a5:(W.putObj (w.heap.size+1) (.loop {rec .ready none with state:=.busy})).heap[w.heap.size+1]? =some (.loop {rec .ready none with state:=.busy}):=wK a6;have a4:(W.putObj (w.heap.size+1) (.loop {rec .ready none with state:=.busy})).heap[w.heap.size]? =some (.deferred (some [])):=(hX (by omega)).trans m;refine wpIn_mono (aU _ pre x _ (E _ _ _ F ao) (fR ac (ao.block _ T (eo ab))) V) ?_;have bd:(W.putObj (w.heap.size+1) (.loop {rec .ready none with state:=.busy})).heap.size=W.heap.size:=by simp
   have aN:∀k,k<w.heap.size→(W.putObj (w.heap.size+1) (.loop {rec .ready none with state:=.busy})).heap[k]? =W.heap[k]? :=fun k m=>hX (by omega);generalize W.putObj (w.heap.size+1) (.loop {rec .ready none with state:=.busy})=L at*;have fin:∀(jump:Option Code) (d:World),oY S L d→
    (Instr.endRound (w.heap.size+1) jump).run Tryz.prog d=.ok (.bool jump.isNone) (d.putObj (w.heap.size+1) (.loop (rec (if jump.isNone then .ready else .done) jump)))∧
    (d.putObj (w.heap.size+1) (.loop (rec (if jump.isNone then .ready else .done) jump))).heap[w.heap.size+1]? =some (.loop (rec (if jump.isNone then .ready else .done) jump))∧
    (d.putObj (w.heap.size+1) (.loop (rec (if jump.isNone then .ready else .done) jump))).heap[w.heap.size]? =some (.deferred (some [])):=fun jump d j=>by
    have a8:¬S (w.heap.size+1):=fun h=>by have:=(y _ h).1;omega
    have a7:¬S w.heap.size:=fun h=>by have:=(y _ h).1;omega
    have ai:=(j.block (w.heap.size+1) (by omega) a8).trans a5;have G:=(j.block w.heap.size (by omega) a7).trans a4;have:=run_endRound (P:=Tryz.prog) jump ai;rw[r] at this⊢;exact⟨this,wK (mz ai),(hX (by omega)).trans G⟩
   have kept:∀(jump:Option Code) (d:World) (k:Nat),oY S L d→k<w.heap.size→¬S k→(d.putObj (w.heap.size+1) (.loop (rec (if jump.isNone then .ready else .done) jump))).heap[k]? =W.heap[k]? :=fun jump d k j m hn=>(hX (by omega)).trans ((j.block k (by omega) hn).trans (aN k m))
   rintro e a3 d z;cases e with
   |normal=>
    obtain⟨j,O⟩:=z;obtain⟨X,R,G⟩:=fin none d j;exact⟨_,_,X,.inl ⟨rfl,⟨E _ _ _ O (jj _ _ _ _ _ (by omega)),R,G⟩,
     ⟨kept none d b j al (fun h=>(y _ h).2.1 rfl),kept none d n j am (fun h=>(y _ h).2.2.1 rfl),kept none d o j an (fun h=>(y _ h).2.2.2.1 rfl)⟩,
     fR ac (kept none d _ j T (fun h=>(y _ h).2.2.2.2 rfl))⟩⟩
   |ret=>obtain⟨j,O⟩:=z;obtain⟨X,R,G⟩:=fin (some .ret) d j;exact⟨_,_,X,.inr ⟨rfl,aa _ _ _ O (jj _ _ _ _ _ (by omega)),R,G⟩⟩
   |exit id=>exact z.elim
   |goto t=>exact z.elim
   |panic ch=>exact z.elim
   |outgrown=>exact z.elim
  ·rintro e L⟨⟨v,rfl⟩,(⟨F,u,m⟩|⟨pre,V,F,u,m⟩)⟩
   ·exact⟨none,_,by have:=run_endLoop (P:=Tryz.prog) u (by rw[r];simp);rw[r] at this;exact this,a0 _ _ (ag _) (E _ _ _ F (jj _ _ _ _ _ (by omega))) ((hX (by omega)).trans m)⟩
   ·exact⟨some .ret,_,by have:=run_endLoop (P:=Tryz.prog) u (by rw[r];simp);rw[r] at this;exact this,bb _ pre _ (ag _) V (aa _ _ _ F (jj _ _ _ _ _ (by omega))) ((hX (by omega)).trans m)⟩
end Go.Proofs.YtogchgjfialleaaGreatDoor
namespace Go.Proofs.YtogchgjfialleaaGreatDoor
open Go.RowKit Go.Shelf
theorem iN.refl(n a:Nat)(A:World):iN n a A A:=⟨rfl,rfl,rfl,ag _,fun _ _ _=>rfl⟩
theorem iN.trans{n a:Nat}{A B C:World}(h:iN n a A B)(k:iN n a B C):iN n a A C:=
 ⟨k.os.trans h.os,k.tape.trans h.tape,k.output.trans h.output,bP h.size k.size,fun i b c=>(k.block i b c).trans (h.block i b c)⟩
theorem iN.below{n b m:Nat}{w A B:World}(h:iN n b A B)(a:Below m w A)(e:m≤n)(d:m≤b):Below m w B:=
 ⟨h.os.trans a.os,h.tape.trans a.tape,h.output.trans a.output,bP a.size h.size,fun k c=>(h.block k (by omega) (by omega)).trans (a.block k c)⟩
theorem kC(s:Bs)(c:UInt8)(w:World):
 Calls Tryz.prog 151 #[.string ⟨s.toArray⟩,.string ⟨#[c]⟩] w fun e w'=>
  e=.returned (.func (.func 234) #[] #[.pointer (some ⟨w.heap.size+1,0,none⟩),.pointer (some ⟨w.heap.size,0,none⟩),.pointer (some ⟨w.heap.size+1+1,0,none⟩)])∧
  Iter w' w.heap.size (w.heap.size+1) (w.heap.size+1+1) s c∧w'.heap.size=w.heap.size+1+1+1∧Below w.heap.size w w':=by
 have a:=(ar w.heap.size w).alloc (ag _) (.cells #[.string ⟨s.toArray⟩] 9);have b:=a.alloc a.size (.cells #[.string ⟨#[c]⟩] 9);have i:=b.alloc b.size (.cells #[.int .i64 0] 3);have n1:(w.alloc (.cells #[.string ⟨s.toArray⟩] 9)).heap[w.heap.size]? =some (.cells #[.string ⟨s.toArray⟩] 9):=oF w _;have n2:=oF (w.alloc (.cells #[.string ⟨s.toArray⟩] 9)) (.cells #[.string ⟨#[c]⟩] 9);have d:=oF ((w.alloc (.cells #[.string ⟨s.toArray⟩] 9)).alloc (.cells #[.string ⟨#[c]⟩] 9)) (.cells #[.int .i64 0] 3);simp only[aO] at n2 d;have h:Iter (((w.alloc (.cells #[.string ⟨s.toArray⟩] 9)).alloc (.cells #[.string ⟨#[c]⟩] 9)).alloc (.cells #[.int .i64 0] 3)) w.heap.size (w.heap.size+1) (w.heap.size+1+1) s c:=
  ⟨(tG _ _ _ (by simp;omega)).trans ((tG _ _ _ (by simp)).trans n1),(tG _ _ _ (by simp)).trans n2,d⟩
 have k:=ad h;clear h n1 n2 d a b;have j:=ad i;clear i;go_enter Tryz.func151,Tryz.ntmps151;go_wp2;go_ret;exact⟨rfl,k.out,by simp,j.out⟩
