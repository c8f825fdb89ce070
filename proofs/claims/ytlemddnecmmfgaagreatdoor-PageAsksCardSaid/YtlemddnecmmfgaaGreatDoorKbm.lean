/- The row of PageAsks. -/
import Derived.Test.YtlemddnecmmfgaaGreatDoorKbl
set_option linter.unusedVariables false
set_option maxRecDepth 100000
set_option maxHeartbeats 8000000
namespace Go.Proofs.YtlemddnecmmfgaaGreatDoor
open Go.RowKit
variable{a:List dQ}{b:Nat}{x:U}
theorem take_len{fZ:List j5}(h:b≤fZ.length):(fZ.take b).length=b:=by rw[gu];omega
theorem ZZ{t host:Bs}{fZ:List j5}{w:aaK}{i l:Option Addr}(h:YU x ⟨t.toArray⟩ ⟨host.toArray⟩ a fZ)(c:aZ w (.slice i a.length b) a)(d:GL w)(m:Xz w l fZ)(k:Nat):WK w host t a i a.length b l (fZ.take k):=
 ⟨d,c,⟨by have:=h.fl;omega,fun f c=>by obtain⟨j,e⟩:=zP.1 c;have:=h.fb j f e;omega⟩,by have:=h.tl;simp[ByteArray.size] at this;omega,by have:=h.hl;simp[ByteArray.size] at this;omega,by rw[gu];have:=h.al;omega,m.take k,fun g d=>by obtain⟨j,e⟩:=zP.1 (List.mem_of_mem_take d);have:=h.ab j g e;omega⟩
theorem ZS{t host:aaM}{fZ:List j5}(h:YU x t host a fZ):DO x:=by
 have d:=h.ul;by_cases b:x.scheme=my
 ·exact .inl ⟨by rw[b];decide,by omega,by omega,by omega⟩
 by_cases c:x.scheme=ir
 ·exact .inl ⟨by rw[c];decide,by omega,by omega,by omega⟩
 exact .inr ⟨b,c⟩
theorem YL(s:Bs)(u:U)(T:aaM)(t:Bs)(V:Int)(a:Option Addr)(c:Nat)(O:aaM)(host:Bs)(x A:Int)(fs:List dQ)(S:Option Addr)(M:Nat)(fZ:List j5)(E:Nat)(oa:Option Addr)(on oc:Nat)(w:aaK)(B:GL w)(hF:aZ w (.slice a fs.length c) fs)(hS:Small fs)(l:Xz w S fZ)(d:ZQ fZ)(g2:fZ.length≤M)(hU:Z5 u)(ht:t.length≤140737488351232)(hh:host.length≤140737488351232)(hs:s.length≤140737488351232)(hy:E<256):
 Calls Tryz.prog 3 #[.string ⟨s.toArray⟩,.agg (km u T ⟨t.toArray⟩ V a fs.length c O ⟨host.toArray⟩ x A).toArray,.agg #[.slice S fZ.length M,.int .u8 (E:Int),.slice oa on oc]] w (cN w (.bool true)):=by
 have HT:=ad (jG w (.cells (km u T ⟨t.toArray⟩ V a fs.length c O ⟨host.toArray⟩ x A).toArray 28) (.cells #[.slice S fZ.length M,.int .u8 (E:Int),.slice oa on oc] 31));have HG:=ad B;have c7:=ad hF;have cO:=ad l;have HS:=ad hS;have c6:=ad d;have HU:=ad hU;have f7:(⟨t.toArray⟩:aaM).size≤140737488351232:=by simp[ByteArray.size];omega
 have fp:(⟨host.toArray⟩:aaM).size≤140737488351232:=by simp[ByteArray.size];omega
 clear B hF l hS d hU;go_enter Tryz.func3,Tryz.ntmps3;go_upto_region 1 with fail;generalize(w.alloc (.cells (km u T ⟨t.toArray⟩ V a fs.length c O ⟨host.toArray⟩ x A).toArray 28)).alloc (.cells #[.slice S fZ.length M,.int .u8 (E:Int),.slice oa on oc] 31)=W0 at*;have F:=ad HT.o.below;have bx:=ad HT.o.b1;have be:=ad HT.o.b2;obtain⟨wb,b0⟩:∃wb,w.heap.size=wb:=⟨_,rfl⟩;obtain⟨pb,cn⟩:∃pb,wb+1=pb:=⟨_,rfl⟩;have hp:=ad b0;rw[b0] at bx be;rw[cn] at be;have HF:=ad (aZ.below c7.o F.o);have HA:=ad (cO.o.below F.o);rw[b0,cn];clear HT c7 cO b0 cn;have c0:=aj be.o 0;by_cases h3:s.length≤3000
 ·have g0:(s.length:Int)≤3000:=by omega
  have av:=ad (Y1 u T ⟨t.toArray⟩ V a c O ⟨host.toArray⟩ x A fs S M fZ W0 HF.o HS.o HA.o c6.o HU.o f7 fp);obtain⟨g5,g6,hc,hd,hg,hi,hj,hl,hm,hn,g7,g8,g9,ha⟩:=aaJ (aj bx.o) 0 1 2 3 4 5 6 7 8 9 10 11 12 13;go_wp2_with fail;refine av.o.m ?_;rintro e w1⟨b,rfl,fc,fk⟩;have Y:=ad fc;have c9:=ad fk;clear fc fk av g5 g6 hc hd hg hi hj hl hm hn g7 g8 g9 ha c0;cases b
  ·go_wp2_with fail;refine(DZ _ (HG.o.next (F.o.t (Y.o.m F.o.size)))).m ?_;rintro e w2⟨rfl,N⟩;have b6:=ad ((F.o.t (Y.o.m F.o.size)).t (N.m (F.o.t (Y.o.m F.o.size)).size));clear N;go_wp2_with fail;go_ret;exact⟨rfl,b6.o⟩
  ·have HO:=ad (c9.o rfl);have dp:=ad (ZS HO.o);have fo:fs.length≤1000:=by have:=HO.o.fl;omega
   have hw:fZ.length≤80:=HO.o.al;have ao:=ad (F.o.t (Y.o.m F.o.size));have er:=ad (bz bx.o Y.o);have d7:=ad (bz be.o Y.o);have c8:=ad (aZ.below HF.o Y.o);have c2:=ad (HA.o.below Y.o);have b9:=ad (Am w1 (HG.o.next ao.o) s (by omega));have bv:=ad (fun h:(gW s).2.2=0=>And.intro (sA h) (K7 h));obtain⟨Q,hQ⟩:∃Q,gW s=Q:=⟨_,rfl⟩;rw[hQ] at b9 bv;obtain⟨n,pl,e⟩:=Q;clear hQ F bx be HF HA Y c9 HS c6 HU f7 fp;go_wp2_with fail;refine b9.o.m ?_;rintro en w2⟨N,v,rfl,cl⟩;obtain⟨na,nc,ka,kc,rfl,-,-⟩:=cl.shape;have hA3:=az w2 (.cells #[.int .i64 n.kind,.int .i64 n.place,.string ⟨n.text.toArray⟩,.slice na n.attrs.length nc,.slice ka n.kids.length kc] 37);have bb:=ad ((ao.o.t (N.m ao.o.size)).t (hA3.m (ao.o.t (N.m ao.o.size)).size));have et:=ad (bz (bz er.o N) hA3);have d8:=ad (bz (bz d7.o N) hA3);have aN:=ad (au w2 (.cells #[.int .i64 n.kind,.int .i64 n.place,.string ⟨n.text.toArray⟩,.slice na n.attrs.length nc,.slice ka n.kids.length kc] 37));have ay:=ad (fu.next cl hA3);have aq:=ad (aZ.below (aZ.below c8.o N) hA3);have an:=ad ((c2.o.below N).below hA3);clear N cl hA3 b9 ao er d7 c8 c2;by_cases he:e=0
   ·subst he;obtain⟨⟨ft,f8⟩,fv⟩:=bv.o rfl;have br:=ad ft;have cb:=ad f8;have em:=ad fv;clear ft f8 fv bv;obtain⟨k,hk⟩:∃k,E%(fZ.length+1)=k:=⟨_,rfl⟩;have b8:Hid (k≤fZ.length):=ad (by have:=Nat.mod_lt E (show 0<fZ.length+1 by omega);omega);have bp:=ad (Zo ⟨host,t,fs,mO x 64,fZ⟩ (mO A 8) u n k);have bd:=ad (fun W:xe n=0=>YH ⟨host,t,fs,mO x 64,fZ⟩ (mO A 8) u W);have ca:=ad (YM ⟨host,t,fs,mO x 64,fZ⟩ (mO A 8) u n br.o);have av:=ad (Zw ⟨host,t,fs,mO x 64,fZ⟩ (mO A 8) u n br.o (by have:=cb.o;omega) (Jz x 64));have bs:=ad (fun W:¬xe n=0=>congrArg GM.asked (K4 ⟨host,t,fs,mO x 64,fZ⟩ (mO A 8) u W));obtain⟨R,hR⟩:∃R,qK ⟨host,t,fs,mO x 64,fZ⟩ (mO A 8) u n=R:=⟨_,rfl⟩;obtain⟨J,cd⟩:∃J,qK (Xt ⟨host,t,fs,mO x 64,fZ⟩ k) (mO A 8) u n=J:=⟨_,rfl⟩;rw[hR,cd] at bp;rw[hR] at bd ca av bs;have eb:=ad hR.symm;have ec:=ad (show J=qK ⟨host,t,fs,mO x 64,fZ.take k⟩ (mO A 8) u n from cd.symm);clear hR cd;have D:=bb;have I:=et;clear bb et;go_upto_region 7 with fail;generalize w2.alloc (.cells #[.int .i64 n.kind,.int .i64 n.place,.string ⟨n.text.toArray⟩,.slice na n.attrs.length nc,.slice ka n.kids.length kc] 37)=W3 at*;generalize w2.heap.size=nb at*;refine XP 10 [(oB.is (wZ n.kind n.place n.text (.slice na n.attrs.length nc) (.slice ka n.kids.length kc))).g,(oB.is (.pointer (some ⟨wb,0,none⟩))).g,(oB.is (uV u)).g,(oB.is (.agg (km u T ⟨t.toArray⟩ V a fs.length c O ⟨host.toArray⟩ x A).toArray)).g,(Od ⟨host.toArray⟩ ⟨t.toArray⟩ fs).g,(oB.is (.agg (km u T ⟨t.toArray⟩ V a fs.length c O ⟨host.toArray⟩ x A).toArray)).g,(oB.is (.agg #[.string ⟨#[]⟩,.int .i64 0,.int .i64 0,.int .i64 x,.int .i64 A,.string ⟨#[]⟩,.slice none 0 0])).g,(oB.is (.slice S fZ.length M)).g,XZ R,Yi] [false,false,false,false,false,false,false,false,false,true] (by kernel_rfl) (by rfl) (by rfl) (by kernel_rfl) (by rfl) (YV (by rfl)) ⟨?o0, ?o1, ?o2, ?o3, ?o4, ?o5, ?o6, ?o7, ?o8, ?o9,trivial⟩ ?_;case o0=>intro p w' G d y B l;refine gC rfl ?_;have s8:=lX y 8 (by rfl) rfl;obtain⟨E,k1,k2,k3,k4⟩:=qX5 (aj (bz aN.o d)) 0 1 2 3 4;go_simp;exact⟨_,rfl,ar _ _,rfl⟩
    case o1=>intro p w' G d y B l;refine gC rfl ?_;have s4:=lX y 4 (by rfl) rfl;go_simp;exact⟨_,rfl,ar _ _,rfl⟩
    case o2=>intro p w' G d y B l;refine gC rfl ?_;obtain⟨v1,e1,rfl⟩:=Xq l 1 (by rfl);have e1:p.tmps[36]? =some _:=e1;obtain⟨E,k1,k2,k3,k4,k5⟩:=qX6 (aj (bz I.o d)) 0 1 2 3 4 5;go_simp;exact⟨_,rfl,ar _ _,rfl⟩
    case o3=>intro p w' G d y B l;refine gC rfl ?_;have s4:=lX y 4 (by rfl) rfl;obtain⟨E,k1,k2,k3,k4,k5,k6,k7,k8,k9,cs,ct,cx,cK⟩:=aaJ (aj (bz I.o d)) 0 1 2 3 4 5 6 7 8 9 10 11 12 13;go_simp;exact⟨_,rfl,ar _ _,rfl⟩
    case o4=>intro p w' G d y B l;refine gC rfl ?_;obtain⟨v3,e3,rfl⟩:=Xq l 3 (by rfl);have e3:p.tmps[38]? =some _:=e3;have af:=ad (xA u T ⟨t.toArray⟩ V a fs.length c O ⟨host.toArray⟩ x A fs w' (aq.o.below d) fo);go_simp;refine af.o.m ?_;rintro e w6⟨a1,c1,rfl,aa,hb⟩;exact⟨_,rfl,hb,⟨a1,c1,rfl,aa.at⟩⟩
    case o5=>intro p w' G d y B l;refine gC rfl ?_;have s4:=lX y 4 (by rfl) rfl;obtain⟨E,k1,k2,k3,k4,k5,k6,k7,k8,k9,cs,ct,cx,cK⟩:=aaJ (aj (bz I.o d)) 0 1 2 3 4 5 6 7 8 9 10 11 12 13;go_simp;exact⟨_,rfl,ar _ _,rfl⟩
    case o6=>intro p w' G d y B l;refine gC rfl ?_;obtain⟨v5,e5,rfl⟩:=Xq l 5 (by rfl);have e5:p.tmps[40]? =some _:=e5;have af:=ad (sB u T ⟨t.toArray⟩ V a fs.length c O ⟨host.toArray⟩ x A w');go_simp;refine af.o.m ?_;rintro e w6⟨rfl,hb⟩;exact⟨_,rfl,hb,rfl⟩
    case o7=>intro p w' G d y B l;refine gC rfl ?_;have s7:=lX y 7 (by rfl) rfl;go_simp;exact⟨_,rfl,ar _ _,rfl⟩
    case o8=>
     intro p w' G d y B l;refine gC rfl ?_;obtain⟨v0,e0,rfl⟩:=Xq l 0 (by rfl);have e0:p.tmps[35]? =some _:=e0;obtain⟨v2,e2,rfl⟩:=Xq l 2 (by rfl);have e2:p.tmps[37]? =some _:=e2;obtain⟨v4,e4,h4⟩:=Xq l 4 (by rfl);have e4:p.tmps[39]? =some _:=e4;obtain⟨va,vc,rfl,bi⟩:∃a c,v4=.agg #[.string ⟨host.toArray⟩,.string ⟨t.toArray⟩,.slice a fs.length c]∧aZ w' (.slice a fs.length c) fs:=h4;obtain⟨v6,e6,rfl⟩:=Xq l 6 (by rfl);have e6:p.tmps[41]? =some _:=e6;obtain⟨v7,e7,rfl⟩:=Xq l 7 (by rfl);have e7:p.tmps[42]? =some _:=e7;have hV:=D.o.t (d.m D.o.size);have b7:Hid (Calls Tryz.prog 9 #[wZ n.kind n.place n.text (.slice na n.attrs.length nc) (.slice ka n.kids.length kc),uV u,.agg #[.string ⟨host.toArray⟩,.string ⟨t.toArray⟩,.slice va fs.length vc],.agg #[.string ⟨#[]⟩,.int .i64 0,.int .i64 0,.int .i64 x,.int .i64 A,.string ⟨#[]⟩,.slice none 0 0],.slice S fZ.length M] w' (qb w' R)):=ad (by rw[eb.o];have h:=ZZ HO.o bi (HG.o.next hV) (an.o.below d) fZ.length;rw[List.take_length] at h;exact Av n _ u host t fs va fs.length vc S M fZ [] [] none 0 0 0 0 x A w' h dp.o _ (fu.next ay.o d) em.o br.o (by have:=cb.o;omega))
     clear bi;go_simp;refine b7.o.m ?_;rintro e w6⟨v,rfl,co,ce⟩;exact⟨_,rfl,ce,Zx co fun z hz=>(B z hz).2⟩
    case o9=>intro p w' G d y B l;refine gC rfl ?_;go_simp;exact⟨_,rfl,(ar _ _).alloc (ag _) _,⟨w'.heap.size,rfl,ag _,(by first|exact Nat.lt_succ_self _|(rw[aO];omega)),⟨w'.heap.size,rfl,au _ _⟩⟩⟩
    intro f gl wr d bm hf bk ci;have q8:=hf 8 (XZ R) rfl;have q9:=hf 9 Yi rfl
    with_reducible refine YW (i:=8) (j:=9) rfl q8 q9 bk bm ?_
    intro qa qc ra rc K e8 e9 bl am aa bn bo;have Z:=ad (Yu am aa bn bo d bl rfl);have C:=ad am;clear hf bk ci bm q8 q9 aa bn bo bl am;simp only[ki,kL,List.drop_succ_cons,XK,xB,Act.put];rw[e8,e9];clear e8 e9;simp only[mw]
    with_reducible refine gC rfl ?_
    have r0:=aj C.o 0;have r1:=aj C.o 1;have r2:=aj C.o 2;have r3:=aj C.o 3;have r4:=aj C.o 4;have r5:=aj C.o 5;have r6:=aj C.o 6;have f0:wr.frozen? ⟨K,0,none⟩=false:=aA C.o;have f1:wr.frozen? ⟨K,1,none⟩=false:=aA C.o;have f2:wr.frozen? ⟨K,2,none⟩=false:=aA C.o;have f3:wr.frozen? ⟨K,3,none⟩=false:=aA C.o;have f4:wr.frozen? ⟨K,4,none⟩=false:=aA C.o;have f5:wr.frozen? ⟨K,5,none⟩=false:=aA C.o;have f6:wr.frozen? ⟨K,6,none⟩=false:=aA C.o;go_simp;clear r0 r1 r2 r3 r4 r5 r6 f0 f1 f2 f3 f4 f5 f6 C;generalize((((((wr.setCell ⟨K,0,none⟩ (.string ⟨R.out.toArray⟩)).setCell ⟨K,1,none⟩ (.bool R.ok)).setCell ⟨K,2,none⟩ (.bool R.done)).setCell ⟨K,3,none⟩ (.slice qa R.asked.length qc)).setCell ⟨K,4,none⟩ (.int .i64 R.aU)).setCell ⟨K,5,none⟩ (.int .i64 R.work)).setCell ⟨K,6,none⟩ (.slice ra R.reads.length rc)=W8 at*;clear d;have ea:=ad Z.o.1;have ek:=ad Z.o.2.1;have H:=ad Z.o.2.2;clear Z;have ap:=ad (D.o.t (H.o.m D.o.size));have eu:=ad (bz I.o H.o);have d9:=ad (bz d8.o H.o);have ds:=ad (bz aN.o H.o);have dq:=ad (fu.next ay.o H.o);have dl:=ad (aq.o.below H.o);have c3:=ad (an.o.below H.o);clear D I d8 aN ay aq an H eb;have D:=ap;have I:=eu;have aN:=ds;have ay:=dq;have aq:=dl;have an:=c3;clear ap eu ds dq dl c3;have c1:=aj d9.o 1;have e1:IntKind.i64.wrap ((fZ.length:Int)+1)=(fZ.length:Int)+1:=Xu _ (by omega);have HK:=ad hk;clear hk;go_upto_region 9 with fail;rw[show((E:Int)%((fZ.length:Int)+1))=(k:Int) by rw[←HK.o];simp];clear c1 e1 HK d9;refine XP 12 [(oB.is (wZ n.kind n.place n.text (.slice na n.attrs.length nc) (.slice ka n.kids.length kc))).g,(oB.is (.pointer (some ⟨wb,0,none⟩))).g,(oB.is (uV u)).g,(oB.is (.agg (km u T ⟨t.toArray⟩ V a fs.length c O ⟨host.toArray⟩ x A).toArray)).g,(Od ⟨host.toArray⟩ ⟨t.toArray⟩ fs).g,(oB.is (.agg (km u T ⟨t.toArray⟩ V a fs.length c O ⟨host.toArray⟩ x A).toArray)).g,(oB.is (.agg #[.string ⟨#[]⟩,.int .i64 0,.int .i64 0,.int .i64 x,.int .i64 A,.string ⟨#[]⟩,.slice none 0 0])).g,(oB.is (.slice S fZ.length M)).g,(oB.is (.int .i64 (k:Int))).g,(oB.is (.slice S k M)).g,XZ J,Yi] [false,false,false,false,false,false,false,false,false,false,false,true] (by kernel_rfl) (by rfl) (by rfl) (by kernel_rfl) (by rfl) (YV (by rfl)) ⟨?o0, ?o1, ?o2, ?o3, ?o4, ?o5, ?o6, ?o7, ?o8, ?o9, ?o10, ?o11,trivial⟩ ?_;case o0=>intro p w' G d y B l;refine gC rfl ?_;have s8:=lX y 8 (by rfl) rfl;obtain⟨E,k1,k2,k3,k4⟩:=qX5 (aj (bz aN.o d)) 0 1 2 3 4;go_simp;exact⟨_,rfl,ar _ _,rfl⟩
    case o1=>intro p w' G d y B l;refine gC rfl ?_;have s4:=lX y 4 (by rfl) rfl;go_simp;exact⟨_,rfl,ar _ _,rfl⟩
    case o2=>intro p w' G d y B l;refine gC rfl ?_;obtain⟨v1,e1,rfl⟩:=Xq l 1 (by rfl);have e1:p.tmps[52]? =some _:=e1;obtain⟨E,k1,k2,k3,k4,k5⟩:=qX6 (aj (bz I.o d)) 0 1 2 3 4 5;go_simp;exact⟨_,rfl,ar _ _,rfl⟩
    case o3=>intro p w' G d y B l;refine gC rfl ?_;have s4:=lX y 4 (by rfl) rfl;obtain⟨E,k1,k2,k3,k4,k5,k6,k7,k8,k9,cs,ct,cx,cK⟩:=aaJ (aj (bz I.o d)) 0 1 2 3 4 5 6 7 8 9 10 11 12 13;go_simp;exact⟨_,rfl,ar _ _,rfl⟩
    case o4=>intro p w' G d y B l;refine gC rfl ?_;obtain⟨v3,e3,rfl⟩:=Xq l 3 (by rfl);have e3:p.tmps[54]? =some _:=e3;have af:=ad (xA u T ⟨t.toArray⟩ V a fs.length c O ⟨host.toArray⟩ x A fs w' (aq.o.below d) fo);go_simp;refine af.o.m ?_;rintro e w6⟨a1,c1,rfl,aa,hb⟩;exact⟨_,rfl,hb,⟨a1,c1,rfl,aa.at⟩⟩
    case o5=>intro p w' G d y B l;refine gC rfl ?_;have s4:=lX y 4 (by rfl) rfl;obtain⟨E,k1,k2,k3,k4,k5,k6,k7,k8,k9,cs,ct,cx,cK⟩:=aaJ (aj (bz I.o d)) 0 1 2 3 4 5 6 7 8 9 10 11 12 13;go_simp;exact⟨_,rfl,ar _ _,rfl⟩
    case o6=>intro p w' G d y B l;refine gC rfl ?_;obtain⟨v5,e5,rfl⟩:=Xq l 5 (by rfl);have e5:p.tmps[56]? =some _:=e5;have af:=ad (sB u T ⟨t.toArray⟩ V a fs.length c O ⟨host.toArray⟩ x A w');go_simp;refine af.o.m ?_;rintro e w6⟨rfl,hb⟩;exact⟨_,rfl,hb,rfl⟩
    case o7=>intro p w' G d y B l;refine gC rfl ?_;have s7:=lX y 7 (by rfl) rfl;go_simp;exact⟨_,rfl,ar _ _,rfl⟩
    case o8=>intro p w' G d y B l;refine gC rfl ?_;have hG:=lX y 12 (by rfl) rfl;go_simp;exact⟨_,rfl,ar _ _,rfl⟩
    case o9=>intro p w' G d y B l;refine gC rfl ?_;obtain⟨v7,e7,rfl⟩:=Xq l 7 (by rfl);have e7:p.tmps[58]? =some _:=e7;obtain⟨v8,e8,rfl⟩:=Xq l 8 (by rfl);have e8:p.tmps[59]? =some _:=e8;have hA:k≤M:=bP b8.o g2;go_simp;exact⟨_,rfl,ar _ _,rfl⟩
    case o10=>
     intro p w' G d y B l;refine gC rfl ?_;obtain⟨v0,e0,rfl⟩:=Xq l 0 (by rfl);have e0:p.tmps[51]? =some _:=e0;obtain⟨v2,e2,rfl⟩:=Xq l 2 (by rfl);have e2:p.tmps[53]? =some _:=e2;obtain⟨v4,e4,h4⟩:=Xq l 4 (by rfl);have e4:p.tmps[55]? =some _:=e4;obtain⟨va,vc,rfl,bi⟩:∃a c,v4=.agg #[.string ⟨host.toArray⟩,.string ⟨t.toArray⟩,.slice a fs.length c]∧aZ w' (.slice a fs.length c) fs:=h4;obtain⟨v6,e6,rfl⟩:=Xq l 6 (by rfl);have e6:p.tmps[57]? =some _:=e6;obtain⟨v9,e9,rfl⟩:=Xq l 9 (by rfl);have e9:p.tmps[60]? =some _:=e9;have hV:=D.o.t (d.m D.o.size);have b7:Hid (Calls Tryz.prog 9 #[wZ n.kind n.place n.text (.slice na n.attrs.length nc) (.slice ka n.kids.length kc),uV u,.agg #[.string ⟨host.toArray⟩,.string ⟨t.toArray⟩,.slice va fs.length vc],.agg #[.string ⟨#[]⟩,.int .i64 0,.int .i64 0,.int .i64 x,.int .i64 A,.string ⟨#[]⟩,.slice none 0 0],.slice S k M] w' (qb w' J)):=ad (by rw[ec.o];have h:=Av n _ u host t fs va fs.length vc S M (fZ.take k) [] [] none 0 0 0 0 x A w' (ZZ HO.o bi (HG.o.next hV) (an.o.below d) k) dp.o _ (fu.next ay.o d) em.o br.o (by have:=cb.o;omega);rw[take_len b8.o] at h;exact h)
     clear bi;go_simp;refine b7.o.m ?_;rintro e w6⟨v,rfl,co,ce⟩;exact⟨_,rfl,ce,Zx co fun z hz=>(B z hz).2⟩
    case o11=>intro p w' G d y B l;refine gC rfl ?_;go_simp;exact⟨_,rfl,(ar _ _).alloc (ag _) _,⟨w'.heap.size,rfl,ag _,(by first|exact Nat.lt_succ_self _|(rw[aO];omega)),⟨w'.heap.size,rfl,au _ _⟩⟩⟩
    intro f gl wr d bm hf bk ci;have q8:=hf 10 (XZ J) rfl;have q9:=hf 11 Yi rfl
    with_reducible refine YW (i:=10) (j:=11) rfl q8 q9 bk bm ?_
    intro b3 b4 f9 ga L e8 e9 bl am aa bn bo;have Z:=ad (Yu am aa bn bo d bl rfl);have C:=ad am;clear hf bk ci bm q8 q9 aa bn bo bl am;simp only[ki,kL,List.drop_succ_cons,XK,xB,Act.put];rw[e8,e9];clear e8 e9;simp only[mw]
    with_reducible refine gC rfl ?_
    have r0:=aj C.o 0;have r1:=aj C.o 1;have r2:=aj C.o 2;have r3:=aj C.o 3;have r4:=aj C.o 4;have r5:=aj C.o 5;have r6:=aj C.o 6;have f0:wr.frozen? ⟨L,0,none⟩=false:=aA C.o;have f1:wr.frozen? ⟨L,1,none⟩=false:=aA C.o;have f2:wr.frozen? ⟨L,2,none⟩=false:=aA C.o;have f3:wr.frozen? ⟨L,3,none⟩=false:=aA C.o;have f4:wr.frozen? ⟨L,4,none⟩=false:=aA C.o;have f5:wr.frozen? ⟨L,5,none⟩=false:=aA C.o;have f6:wr.frozen? ⟨L,6,none⟩=false:=aA C.o;go_simp;clear r0 r1 r2 r3 r4 r5 r6 f0 f1 f2 f3 f4 f5 f6 C;generalize((((((wr.setCell ⟨L,0,none⟩ (.string ⟨J.out.toArray⟩)).setCell ⟨L,1,none⟩ (.bool J.ok)).setCell ⟨L,2,none⟩ (.bool J.done)).setCell ⟨L,3,none⟩ (.slice b3 J.asked.length b4)).setCell ⟨L,4,none⟩ (.int .i64 J.aU)).setCell ⟨L,5,none⟩ (.int .i64 J.work)).setCell ⟨L,6,none⟩ (.slice f9 J.reads.length ga)=W9 at*;clear d;have a7:=ad Z.o.1;have a8:=ad Z.o.2.1;have H:=ad Z.o.2.2;clear Z;have ev:=ad (bz I.o H.o);have bf:=ad (bz ea.o H.o);have bg:=ad (ek.o.next H.o);clear I aN ay aq an ec ea ek b8;have I:=ev;have ap:=D;clear ev D;have b5:Hid (R.asked.length≤1000000):=ad (by
     by_cases W:xe n=0
     ·have h2:=(bd.o W).1;have h3:=(bd.o W).2.2.1;have h4:=Jz x 64;have h2:R.aU≤mO x 64:=h2;omega
     ·rw[bs.o W];exact aH _)
    have D:=ad (ap.o.t (H.o.m ap.o.size));clear ap H;have a3:=aj bf.o 3;by_cases ai:R.asked.length≤k
    ·have ck:(R.asked.length:Int)≤(k:Int):=by omega
     have hE:=bp.o.1 ai;rw[hE] at a7 a8⊢;have el:=ad (YK R b5.o av.o ca.o W9 0 0 (ZT R b3 b4 f9 ga) (ZT R qa qc ra rc) ⟨_,_,rfl,a8.o.q,a8.o.r⟩ ⟨_,_,rfl,bg.o.q,bg.o.r⟩);obtain⟨a0,a1,a2,a4,a5,a6⟩:=qX6 (aj bf.o) 0 1 2 4 5 6;obtain⟨d0,d1,d2,d3,d4,d5,d6⟩:=qX7 (aj a7.o) 0 1 2 3 4 5 6;clear hE ai;go_wp2_with fail;refine el.o.m ?_;rintro e gb⟨rfl,ab⟩;have X:=ad (D.o.t (ab.m D.o.size));clear ab a0 a1 a2 a3 a4 a5 a6 d0 d1 d2 d3 d4 d5 d6 el;go_wp2_with fail;refine(DZ _ (HG.o.next X.o)).m ?_;rintro e gc⟨rfl,ac⟩;have a9:=ad (X.o.t (ac.m X.o.size));clear ac;go_wp2_with fail;go_ret;exact⟨rfl,a9.o⟩
    ·have ck:(k:Int)<(R.asked.length:Int):=by omega
     have hT:xe n=0:=Decidable.byContradiction fun W=>by have h2:=bs.o W;rw[h2] at ai;exact ai (aH _)
     have bJ:=bd.o hT;have hX:=bp.o.2 (Nat.lt_of_not_le ai);have hq:=b5.o;have g3:(R.asked.length:Int)≤max 0 (min x 64):=by have W:R.aU≤mO x 64:=bJ.1;have h2:=bJ.2.2.1;have h3:=Zy x 64;have h3:((mO x 64:Nat):Int)=max 0 (min x 64):=h3;omega
     have ch:R.done=true∨R.asked.length=fZ.length+1:=bJ.2.2.2.2.2.2.2.2;clear bJ bd bs b5 bp hT ca av;obtain⟨out,ok,done,asked,aU,work,reads⟩:=R;obtain⟨hC,hB,hv,cc,g4,ho,hD⟩:=J;dsimp only at bf bg a7 a8 hX hq g3 ch ai ck a3⊢;obtain⟨rfl,rfl,rfl,h4,h5,h6⟩:=hX;have fr:cc.length=k+1:=by rw[h4,gu];omega
     have c4:Hid (Calls Tryz.prog 13 #[.slice b3 cc.length b4,.slice qa asked.length qc,.int .i64 ((k:Int)+1)] W9 (cN W9 (.bool true))):=ad (by have h:=X2 cc asked (k+1) fr (by omega) (fun i u hu=>by rw[h4,List.getElem?_take] at hu;split at hu;exact hu;cases hu) hq b3 qa b4 qc W9 0 0 a8.o.q bg.o.q;rw[show(((k+1:Nat)):Int)=(k:Int)+1 by omega] at h;exact h)
     have e1:IntKind.i64.wrap ((k:Int)+1)=(k:Int)+1:=Xu _ (by omega);obtain⟨d0,d1,d2,d3⟩:=qX4 (aj a7.o) 0 1 2 3;clear h4 fr ai hq bg a8;go_wp2_with fail;refine c4.o.m ?_;rintro e gb⟨rfl,ab⟩;have X:=ad (D.o.t (ab.m D.o.size));have fb:=bz I.o ab;have hr:=aj fb 12;have hA10:=bz bf.o ab;have fa:=bz a7.o ab;clear ab a3 d0 d1 d2 d3 c4 e1 ck D bf a7 I fb;obtain⟨a2,a3,a4,a5⟩:=qX4 (aj hA10) 2 3 4 5;obtain⟨d4,d5⟩:=qX2 (aj fa) 4 5;clear hA10 fa;have e2:IntKind.i64.wrap ((fZ.length:Int)+1)=(fZ.length:Int)+1:=Xu _ (by omega);have i5:(ho:Int)≤(work:Int):=by omega
     have i6:(g4:Int)≤(aU:Int):=by omega
     have c5:=ad (DZ gb (HG.o.next X.o));rcases ch with rfl|ch
     ·go_wp2_with fail;refine c5.o.m ?_;rintro e gc⟨rfl,ac⟩;have a9:=ad (X.o.t (ac.m X.o.size));clear ac;go_wp2_with fail;go_ret;exact⟨rfl,a9.o⟩
     ·have g1:(asked.length:Int)=(fZ.length:Int)+1:=by omega
      have hx:((asked.length:Int)==(fZ.length:Int)+1)=true:=by rw[g1];exact qS _
      cases done;all_goals
       go_wp2_with fail;refine c5.o.m ?_;rintro e gc⟨rfl,ac⟩;have a9:=ad (X.o.t (ac.m X.o.size));clear ac;go_wp2_with fail;go_ret;exact⟨rfl,a9.o⟩
   ·have q0:=eS he;clear he bv;go_wp2_with fail;refine(DZ _ (HG.o.next bb.o)).m ?_;rintro e' w4⟨rfl,fi⟩;have gx:=ad (bb.o.t (fi.m bb.o.size));clear fi;go_wp2_with fail;go_ret;exact⟨rfl,gx.o⟩
 ·have g0:(3000:Int)<(s.length:Int):=by omega
  go_wp2_with fail;refine(DZ _ (HG.o.next F.o)).m ?_;rintro e w2⟨rfl,N⟩;have b6:=ad (F.o.t (N.m F.o.size));clear N;go_wp2_with fail;go_ret;exact⟨rfl,b6.o⟩
end Go.Proofs.YtlemddnecmmfgaaGreatDoor
namespace Go.Proofs.YtlemddnecmmfgaaGreatDoor
open Go.RowKit Go.ChangeShapes Go.WideShapes
theorem Yl:wv (Tryz.prog.underlying 26)=some [(0,9),(1,9),(2,3),(3,24),(4,9)]:=by kernel_rfl
theorem aae:Tryz.prog.cellsOf 26=5:=by kernel_rfl
section
variable{H:Type}{enc:TypeId×Value→H}{W:World}{sp:Nat→Bool}{held:Bool}
end
variable{d:Nat}
theorem XN:wv (Tryz.prog.underlying 28)=some [(0,23),(6,26),(11,9),(12,3),(13,3)]:=by kernel_rfl
theorem Z9:Tryz.prog.cellsOf 28=14:=by kernel_rfl
theorem YR:wv (Tryz.prog.underlying 62)=some [(0,9),(1,4),(2,4)]:=by kernel_rfl
theorem aag:Tryz.prog.cellsOf 62=3:=by kernel_rfl
theorem Z8:Tryz.prog.cellsOf 29=1:=by kernel_rfl
theorem u29:Tryz.prog.underlying 29=some (.slice 62):=by kernel_rfl
theorem Y5:Tryz.prog.bytesOf 62=24:=by kernel_rfl
section
variable{H:Type}{enc:TypeId×Value→H}{W:World}{held:Bool}
theorem Yx{t:TypeId}{l:List (Nat×TypeId)}{c:List Value}{x:DataW H×List MemPlace}(B:wv (Tryz.prog.underlying t)=some l)(h:DataW.trod enc Tryz.prog W 0 (fun _=>true) held d t c=some x)
 (i o m:Nat)(a:TypeId)(p:l[i]? =some (o,a))(r:Tryz.prog.cellsOf a=m):∃y n,d=n+1∧DataW.trod enc Tryz.prog W 0 (fun _=>true) held n a ((c.drop o).take m)=some y∧(Xw t x.1→Xw a y.1):=by
 obtain⟨fs,q,A⟩:=Cd B;obtain⟨xs,n,u,C,_,z,w⟩:=DataW.trod_struct q h;rw[←A,uI] at p;obtain⟨f,s,j⟩:=qG.1 p;simp only[kj] at j;obtain⟨rfl,rfl⟩:=j;have b:fs[i]? =some f:=by simpa using s
 have:=w i f b;rw[r] at this;have k:i<xs.length:=by rw[z];exact(aB.1 b).1
 refine⟨xs[i],n,u,by rw[this];exact cA k,fun e=> ?_⟩;rw[C] at e;exact X5 q e b (by rw[uI,cA k];rfl)
theorem Y4{v:Value}{x:DataW H×List MemPlace}(h:DataW.trod enc Tryz.prog W 0 (fun _=>true) held d 29 [v]=some x)(m:Xw 29 x.1):∃z c fZ,v=.slice z fZ.length c∧fZ.length≤c∧Xz W z fZ∧ZQ fZ:=by
 rcases Go.Deep.open_slice u29 h with⟨e,w⟩|⟨a,len,cap,ac,n,D,Z,e,_,hl,hm,O,w,p⟩
 ·simp only[Xy,and_true] at e;exact⟨none,0,[],e,aH _,fun i g h=>by simp at h,aH _,fun f s=>by cases s⟩
 ·simp only[Xy,and_true] at e;simp only[if_true] at O;rw[aag] at p;have key:∀i,i<len→∃g:j5,W.cell? (a.add (i*3))=some (.string ⟨g.body.toArray⟩)∧W.cell? ((a.add (i*3)).add 1)=some (.bool g.F3)∧W.cell? ((a.add (i*3)).add 2)=some (.bool g.ok)∧g.body.length≤140737488351232:=fun i N=>by
   obtain⟨J,K,u⟩:=p i (by omega);obtain⟨_,L,r⟩:=World.cells?_some K;obtain⟨y0,n0,S,F⟩:=wq YR u 0 0 _ rfl TB;obtain⟨y1,n1,T,X⟩:=wq YR u 1 1 _ rfl YQ;obtain⟨y2,n2,V,Y⟩:=wq YR u 2 2 _ rfl YQ
   match J,L with
   |[e0,k,l],_=>have G:Xw 62 (D i):=Ym u29 (by rw[w] at m;exact m) (qE.2 ⟨i,List.mem_range.2 N,rfl⟩);have I:=F G;obtain⟨R,B,rfl,z0⟩:=DataW.trod_string u9 S;obtain⟨b1,C,_⟩:=DataW.trod_bool u4 T;obtain⟨b2,E,_⟩:=DataW.trod_bool u4 V;simp at B C E;subst B;subst C;subst E;have y:=r 0 (by omega);have a1:=r 1 (by omega);have a2:=r 2 (by omega);rw[Addr.add_zero'] at y;exact⟨⟨R.data.toList,b1,b2⟩,by simpa using y,by simpa using a1,by simpa using a2,Xp I⟩
  obtain⟨fs,M,t⟩:=YB len key;obtain⟨b,o,spot⟩:=a;have aa:len≤140737488351232:=by have:=X6 u29 (by rw[w] at m;exact m);rw[Y5] at this;simp only[jo,List.length_range,reachBytes] at this;omega
  refine⟨_,cap,fs,by rw[M];exact e,by omega,fun j g A=> ?_,by omega,fun f s=> ?_⟩
  ·obtain⟨k,l,q,_⟩:=t j g A;have ab:=(cH.1 A).1;have Q:spot=none:=by simpa[Addr.add] using World.cell?_spot (t 0 _ (cA (show 0<fs.length by omega))).1
   subst Q;rw[F6] at k l q;rw[F6] at l q;exact⟨b,o,rfl,aV k,k,l,q⟩
  ·obtain⟨i,p⟩:=zP.1 s;exact(t i f p).2.2.2
theorem Y6{r:Reach}{v:Value}{s:DataW H}{p:List MemPlace}(hv:Value.okWide Tryz.prog W r d 28 v)(h:DataW.Trod enc Tryz.prog W 0 (fun _=>true) held 28 v s p)(q:Xw 28 s):
 ∃(u:U) (ab t:ByteArray) (mn:Int) (a:Option Addr) (c:Nat) (bd host:ByteArray) (ci cd:Int) (fs:List dQ),v=.agg (km u ab t mn a fs.length c bd host ci cd).toArray∧aZ W (.slice a fs.length c) fs∧Small fs∧Z5 u∧t.size≤140737488351232∧host.size≤140737488351232:=by
 obtain⟨l,rfl,aa⟩:=Yw XN Z9 hv
 match l,aa with
 |[c0,c1,c2,c3,c4,c5,c6,c7,c8,c9,af,ai,al,am],_=>
  obtain⟨an,k⟩:=h;obtain⟨yu,nu,_,b,i⟩:=Yx XN k 0 0 6 _ rfl aad;obtain⟨yr,nr,_,j,m⟩:=Yx XN k 1 6 5 _ rfl aae;obtain⟨yh,nh,Z,o⟩:=wq XN k 2 11 _ rfl TB;obtain⟨yi,ni,ti,LI⟩:=wq XN k 3 12 _ rfl YZ;obtain⟨yd,nd,Y,LD⟩:=wq XN k 4 13 _ rfl YZ;have i:=i q;have m:=m q;have o:=o q;simp only[Value.cells,List.drop,List.take] at b j Z ti Y;obtain⟨y0,n0,K,L0⟩:=wq X0 b 0 0 _ rfl TB;obtain⟨y1,n1,L,L1⟩:=wq X0 b 1 1 _ rfl TB;obtain⟨y2,n2,N,L2⟩:=wq X0 b 2 2 _ rfl YZ;obtain⟨y3,n3,O,L3⟩:=wq X0 b 3 3 _ rfl TB;obtain⟨y4,n4,Q,L4⟩:=wq X0 b 4 4 _ rfl TB;obtain⟨y5,n5,R,L5⟩:=wq X0 b 5 5 _ rfl YQ;obtain⟨y6,n6,S,L6⟩:=wq Yl j 0 0 _ rfl TB;obtain⟨y7,n7,T,L7⟩:=wq Yl j 1 1 _ rfl TB;obtain⟨y8,n8,V,L8⟩:=wq Yl j 2 2 _ rfl YZ;obtain⟨y9,n9,X,L9⟩:=wq Yl j 3 3 _ rfl ZI;obtain⟨aN,aq,M,ac⟩:=wq Yl j 4 4 _ rfl TB;simp only[List.drop,List.take] at K L N O Q R S T V X M;have M0:=L0 i;have M1:=L1 i;have M3:=L3 i;have M4:=L4 i;have M7:=L7 m;obtain⟨s0,w,rfl,z0⟩:=DataW.trod_string u9 K;obtain⟨s1,x,rfl,z1⟩:=DataW.trod_string u9 L;obtain⟨i2,C,_⟩:=DataW.trod_int u3 N;obtain⟨s3,D,rfl,z3⟩:=DataW.trod_string u9 O;obtain⟨s4,E,rfl,z4⟩:=DataW.trod_string u9 Q;obtain⟨b5,F,_⟩:=DataW.trod_bool u4 R;obtain⟨s6,G,rfl,z6⟩:=DataW.trod_string u9 S;obtain⟨s7,I,rfl,z7⟩:=DataW.trod_string u9 T;obtain⟨i8,J,_⟩:=DataW.trod_int u3 V;obtain⟨a,n,c,gs,rfl,hF,hS⟩:=X7 X (L9 m);obtain⟨av,y,rfl,aU⟩:=DataW.trod_string u9 M;obtain⟨ay,z,rfl,a0⟩:=DataW.trod_string u9 Z;obtain⟨ao,A,_⟩:=DataW.trod_int u3 ti;obtain⟨ap,B,_⟩:=DataW.trod_int u3 Y;simp only[Xy,and_true] at w x C D E F G I J y z A B;subst w;subst x;subst C;subst D;subst E;subst F;subst G;subst I;subst J;subst y;subst z;subst A;subst B;have hn:n=gs.length:=by
   rcases hF with⟨_,_,e,rfl⟩|⟨_,_,_,e,_⟩
   ·injection e
   ·injection e
  subst hn;exact⟨⟨s0.data.toList,s1.data.toList,i2,s3.data.toList,s4.data.toList,b5⟩,_,_,_,a,c,_,_,_,_,gs,rfl,hF,hS,⟨Xp M0,Xp M1,Xp M3,Xp M4⟩,by rw[←bj];exact Xp M7,by rw[←bj];exact Xp o⟩
end
theorem Yd:wv (Tryz.prog.underlying 31)=some [(0,29),(1,5),(2,24)]:=by kernel_rfl
theorem Z7:Tryz.prog.cellsOf 31=3:=by kernel_rfl
theorem aai:Tryz.prog.cellsOf 5=1:=by kernel_rfl
section
variable{H:Type}{enc:TypeId×Value→H}{W:World}{held:Bool}
theorem Y3{r:Reach}{B:Nat}{v:Value}{d:DataW H}{p:List MemPlace}(K:Value.okWide Tryz.prog W r B 31 v)(h:DataW.Trod enc Tryz.prog W 0 (fun _=>true) held 31 v d p)(q:Xw 31 d):
 ∃(b:Option Addr) (i:Nat) (fZ:List j5) (k:Nat) (t:Option Addr) (u:Nat) (os:List dQ),v=.agg #[.slice b fZ.length i,.int .u8 (k:Int),.slice t os.length u]∧k<256∧fZ.length≤i∧Xz W b fZ∧ZQ fZ∧aZ W (.slice t os.length u) os∧Small os:=by
 obtain⟨l,rfl,G⟩:=Yw Yd Z7 K
 match l,G with
 |[M,N,O],_=>
  obtain⟨S,j⟩:=h;obtain⟨Y,X,w,z⟩:=wq Yd j 0 0 _ rfl Z8;obtain⟨Z,n1,x,L⟩:=wq Yd j 1 1 _ rfl aai;obtain⟨y2,n2,y,A⟩:=wq Yd j 2 2 _ rfl ZI;simp only[Value.cells,List.drop,List.take] at w x y;obtain⟨b,i,fZ,rfl,F,C,D⟩:=Y4 w (z q);obtain⟨a,n,c,gs,rfl,hF,E⟩:=X7 y (A q);obtain⟨o,s,_,m⟩:=DataW.trod_int u5 x;simp only[Xy,and_true] at s;subst s;have I:n=gs.length:=by
   rcases hF with⟨_,_,e,rfl⟩|⟨_,_,_,e,_⟩
   ·injection e
   ·injection e
  subst I;have J:0≤o∧o<256:=by simp only[Lit.wf,cW] at m;have T:=dv m.1;have V:=dv m.2;have Q:IntKind.u8.min=0:=rfl;have R:IntKind.u8.max=255:=rfl;omega
  exact⟨b,i,fZ,o.toNat,a,c,gs,by rw[Int.toNat_of_nonneg J.1],by omega,F,C,D,hF,E⟩
end
end Go.Proofs.YtlemddnecmmfgaaGreatDoor
namespace Go.Proofs.YtlemddnecmmfgaaGreatDoor.pageAsks
open Go.RowKit Go.ChangeShapes Go.WideShapes Go.ChangeAt
theorem lifted(os:Os)(ac:os.Started)(H:Type)(enc:TypeId×aaL→H)(F:Stop.Interp):
 ReturnsInHanded {} Tryz.checked os 3 .any ((OpenSpec.ofChange Rows.pageAsksSpec).preRow enc Tryz.prog Tryz.f3 Rows.pageAsksRow.domain false Rows.pageAsksRow.laid)
  (((OpenSpec.ofChange Rows.pageAsksSpec).at F).post enc Tryz.prog Tryz.f3 false true false false):=by
 refine returnsInHanded_of_row (C:=Tryz.checked) (s:=OpenSpec.ofChange Rows.pageAsksSpec) own ac (by kernel_rfl) Tryz.func3
  (EE (enc:=enc) (C:=Tryz.checked) (World.laidAll Tryz.prog os lj) #[.string ⟨#[]⟩,.agg #[.string ⟨#[]⟩,.string ⟨#[]⟩,.int .i64 0,.string ⟨#[]⟩,.string ⟨#[]⟩,.bool false,.string ⟨#[]⟩,.string ⟨#[]⟩,.int .i64 0,.slice none 0 0,.string ⟨#[]⟩,.string ⟨#[]⟩,.int .i64 0,.int .i64 0],.agg #[.slice none 0 0,.int .u8 0,.slice none 0 0]]
   (World.laidAll_os _ _ _) (EF os _) (by kernel_rfl)
   (OpenSpec.preRow_of_B rfl 8 (by kernel_rfl) (by kernel_rfl) (O0 os _))) ?_
 intro W base args o gs before E A _ _ D O aa _;have d:(DataW.weightsEach Tryz.prog (Tryz.f3.params.toList++(OpenSpec.ofChange Rows.pageAsksSpec).bare.plain.varTypes Tryz.prog) (o++gs)).all (·≤reachBytes)=true:=D;clear D;have i:∀(j:Nat) t v,Tryz.f3.params[j]? =some t→args[j]? =some v→Value.okWide Tryz.prog W .any base t v:=E;have B:=A;obtain⟨p,q,hA0,S,rfl,ai,al⟩:=A;have z:DataW.TrodAll enc Tryz.prog W 0 (fun _=>true) true Tryz.f3.params.toList args.toList o p:=hA0;rw[Tryz.params3] at z i d;obtain⟨v0,v1,v2,d0,d1,d2,p0,p1,p2,rfl,rfl,rfl,r,w,y⟩:=trodAll_three z;obtain⟨rfl,rfl⟩:=trodVars_none S;have n:∀x∈p0++(p1++p2),x.block<W.heap.size:=fun x b=>by simpa using B.lt x (by simpa using b)
 obtain⟨s,rfl,T⟩:=ZG (i 0 _ v0 rfl rfl) r (X1 d (j:=0) rfl rfl);obtain⟨sl,rfl⟩:∃l:Bs,s=⟨l.toArray⟩:=⟨_,dn rfl⟩;obtain⟨u,ab,t,mn,a,c,G,host,J,I,fs,rfl,hF,Q,R,ht,Z⟩:=Y6 (i 1 _ v1 rfl rfl) w (X1 d (j:=1) rfl rfl);obtain⟨tl,rfl⟩:∃l:Bs,t=⟨l.toArray⟩:=⟨_,dn rfl⟩;obtain⟨hl,rfl⟩:∃l:Bs,host=⟨l.toArray⟩:=⟨_,dn rfl⟩;obtain⟨K,L,fZ,k,oa,oc,fo,rfl,hk,Y,M,N,hO,af⟩:=Y3 (i 2 _ v2 rfl rfl) y (X1 d (j:=2) rfl rfl);have X:=EH aa O;clear hA0 E;refine(YL sl u ab tl mn a c G hl J I fs K L fZ k oa _ oc W X hF Q M N Y R (by simpa[ByteArray.size] using ht) (by simpa[ByteArray.size] using Z) (by simpa[ByteArray.size] using T) hk).m fun e W' ⟨V,JV⟩=> ?_;subst V;exact⟨_,rfl,_,_,_,[],_,[],B,trodAll_mk1 (shut_bool u4 _),trodAll_mk3 (Below.trod laidOut (by kernel_rfl) (dv (by kernel_rfl)) r JV (fun x b=>n x (by simp[b]))) (Below.trod laidOut (by kernel_rfl) (dv (by kernel_rfl)) w JV (fun x b=>n x (by simp[b]))) (Below.trod laidOut (by kernel_rfl) (dv (by kernel_rfl)) y JV (fun x b=>n x (by simp[b]))),rfl,JV.frame _,fun h=>by cases h⟩
