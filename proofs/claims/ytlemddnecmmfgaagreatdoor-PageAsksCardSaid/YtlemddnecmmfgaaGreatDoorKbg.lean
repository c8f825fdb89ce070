/- The walk of the maker's include. -/
import Derived.Test.YtlemddnecmmfgaaGreatDoorKbf
set_option linter.unusedVariables false
set_option maxRecDepth 100000
set_option maxHeartbeats 4000000
namespace Go.Proofs.YtlemddnecmmfgaaGreatDoor
open Go.RowKit
variable{a:Nat}{A:Obj}{b:U}{d:aaK}{N:fx}
def Ju(E:ME)(deep:Deep)(dp:Nat):Prop:=(deep=none∧E.dep≤dp)∨∃d2,deep=some (fun u t S a=>bT E.env d2 u t false S a)∧dp<E.dep∧∀u n,DO u→sy n→kl E d2 u (dp+1) n
def Jv(deep:Deep)(S:PS)(k:(U→Nd→PS→Nat→PS×Oc)→PS×Oc):PS×Oc:=match deep with|none=>(S,.no)|some f=>k f
theorem KT(P:fx)(deep:Deep)(base:U)(S:PS)(a:Nat)(s:Bs):gB P deep base S a s=if(eA P.h P.t P.fs s).2=0 then
 (if(eW base (eA P.h P.t P.fs s).1).2≠0∨P.inc≤(S.read (dd s)).aU then(S.read (dd s),.no) else Jv deep (S.read (dd s)) fun f=>zw P f (eW base (eA P.h P.t P.fs s).1).1 {S.read (dd s) with aU:=(S.read (dd s)).aU+1} a)
 else(S.read (dd s),.no):=by
 unfold gB BR;dsimp only;by_cases h:(eA P.h P.t P.fs s).2=0
 ·rw[ah h,ah h];rfl
 ·rw[ae h,ae h]
structure TS (E:ME) (W:aaK) (M0:List Nat) (wx:aaK) (M:List Nat) (S:PS) (out:Bs) (bm bp:Nat) (base:U) (dp:Nat) (vs:Bool):Prop where
 mx:MX E wx M S out
 st:bC M0 W M wx
 hm:wx.heap[bm]? =some (.cells #[.pointer (some ⟨E.mb,0,none⟩)] 81)
 hp:wx.heap[bp]? =some (.cells (zv base dp vs).toArray 109)
 nm:bm∉M
 np:bp∉M
section
variable{E:ME}{W wx wy:aaK}{M0 M M':List Nat}{S S':PS}{out out':Bs}{bm bp:Nat}{base:U}{dp:Nat}{vs:Bool}
theorem TS.stay(h:TS E W M0 wx M S out bm bp base dp vs)(d:MX E wy M' S' out')(a:bC M wx M' wy):TS E W M0 wy M' S' out' bm bp base dp vs:=by have b:=a.cO bm (aB.1 h.hm).1 h.nm;have c:=a.cO bp (aB.1 h.hp).1 h.np;exact⟨d,h.st.t a,b.2.t h.hm,c.2.t h.hp,b.1,c.1⟩
theorem TS.next(h:TS E W M0 wx M S out bm bp base dp vs)(a:Below wx.heap.size wx wy):TS E W M0 wy M S out bm bp base dp vs:=h.stay (h.mx.next a) (bC.ai a)
theorem T9(H:MX E W M S out)(A B:Obj)(d:A=.cells #[.pointer (some ⟨E.mb,0,none⟩)] 81)(e:B=.cells (zv base dp vs).toArray 109):TS E W M ((W.alloc A).alloc B) M S out W.heap.size (W.heap.size+1) base dp vs:=by
 have a:Below W.heap.size W ((W.alloc A).alloc B):=(az W A).alloc (by rw[aO];omega) B;have c:∀b,W.heap.size≤b→b∉M:=fun b h i=>by have:=(H.mlt b i).2;omega
 subst d e;exact⟨H.next a,bC.ai a,jX W _ _,iT W _ _,c _ (ag _),c _ (fB _)⟩
theorem TS.no(h:TS E W M0 wx M S out bm bp base dp vs){a:Bs}(c:out=a){R:PS×Oc}(b:R=(S,.no)):fy E M0 W a R (.returned (.bool false)) wx:=by subst c b;exact⟨rfl,M,h.mx,h.st⟩
theorem TS.ret(h:TS E W M0 wx M S out bm bp base dp vs){R:PS×Oc}{a:Ending}(b:fy E M wx out R a wy):fy E M0 W out R a wy:=fy.pre h.st b
end
def KX(M:List Nat)(w:aaK)(b:Nat)(O:Obj):Prop:=w.heap[b]? =some O∧b∉M
theorem KX.stay{M M':List Nat}{w':aaK}(h:KX M d a A)(e:bC M d M' w'):KX M' w' a A:=by have c:=e.cO a (aB.1 h.1).1 h.2;exact⟨c.2.t h.1,c.1⟩
theorem KX.next{M:List Nat}{w w':aaK}(h:KX M w a A)(c:Below w.heap.size w w'):KX M w' a A:=h.stay (bC.ai c)
theorem rk{E:ME}{M:List Nat}{S:PS}{out:Bs}(H:MX E d M S out)(O:Obj):KX M (d.alloc O) d.heap.size O:=⟨au d O,fun a=>by have:=(H.mlt _ a).2;omega⟩
theorem MX.more{E:ME}{w:aaK}{M:List Nat}{S:PS}{out:Bs}(H:MX E w M S out):MX E (w.setCell ⟨E.mb,4,none⟩ (.int .i64 ((S.aU:Int)+1))) M {S with aU:=S.aU+1} out∧bC M w M (w.setCell ⟨E.mb,4,none⟩ (.int .i64 ((S.aU:Int)+1))):=by obtain⟨av,rv,b,a,rfl⟩:=H;have h:=a.more;rw[show((S.aU+1:Nat):Int)=(S.aU:Int)+1 by omega] at h;exact⟨⟨av,rv,b,h.1,rfl⟩,h.2⟩
theorem KU{l:List (Bs×Bs)}{k t:Bs}(h:Xr l k=some t):∃x∈l,x.2=t:=by unfold Xr at h;obtain⟨x,a,b⟩:=qG.1 h;exact⟨x,List.mem_reverse.1 (List.mem_of_find?_eq_some a),b⟩
theorem KV{S d:PS}{i:Option j5}{r:Nat}(h:bq a S r)(e:S.asked.length+1≤S.aU)(c:sx N b S=(d,i)):bq a d r:=by
 unfold sx at c;split at c
 ·cases c;exact h
 ·cases c;exact⟨h.reads,h.work,h.inl,by show(S.asked++[b]).length≤S.aU;rw[bB];exact e,h.aU⟩
theorem KW{S c:PS}{g:j5}(h:∀x∈S.inl,x.2.length≤65536)(d:∀g∈N.fZ,g.body.length≤1000000)(a:sx N b S=(c,some g)):g.body.length≤1000000:=by
 unfold sx at a;split at a
 ·rename_i t e;cases a;obtain⟨x,i,rfl⟩:=KU e;have:=h x i;show x.2.length≤_;omega
 ·injection a with _ a;exact d g (eQ a)
theorem Ua{E:ME}{deep:Deep}{base:U}{dp:Nat}(HE:QQ E)(HD:Ju E deep dp)(hb:DO base)(b8:dp≤1000){W:aaK}{M:List Nat}{S:PS}{out:Bs}(bk:MX E W M S out)(s:Bs)(hs:s.length≤1000000)(hw:bq E.inc S (s.length+1))(ho:out.length≤262144)(vs:Bool):
 Calls Tryz.prog 99 #[.pointer (some ⟨E.mb,0,none⟩),.string ⟨s.toArray⟩,Tp base dp vs] W (fy E M W out (gB E.env deep base S out.length s)):=by
 have HT:=ad (T9 (base:=base) (dp:=dp) (vs:=vs) bk _ _ rfl rfl);have bg:=KT E.env deep base S out.length s;obtain⟨R,hR⟩:∃R,gB E.env deep base S out.length s=R:=⟨_,rfl⟩;rw[hR] at bg⊢;have HR:=ad bg;have D:=ad HE;have bn:=ad HD;have cd:=ad hb;have ce:=ad b8;have an:=ad (show bq E.inc (S.read (dd s)) 0 from bq.read (hw.less (by have:=nD s;omega)));obtain⟨c,a7⟩:∃c,S.read (dd s)=c:=⟨_,rfl⟩;rw[a7] at HR an;have cl:=ad a7;have bv:=ad (show S.reads.length≤90000000 by have:=hw.reads;omega);have bx:=ad hs;have ay:=ad ho;clear bk bg hR HE HD hb b8 hs hw ho a7;go_enter Tryz.func99,Tryz.ntmps99;go_upto_region 1 with fail;generalize(W.alloc (.cells #[.pointer (some ⟨E.mb,0,none⟩)] 81)).alloc (.cells (zv base dp vs).toArray 109)=W1 at*;generalize W.heap.size=bm at*;have k:=aj HT.o.hm 0;have ab:=ad (DH D.o HT.o.mx s bx.o bv.o);rw[cl.o] at ab;have a6:=ad (xt E.h E.t E.fs s);obtain⟨V,hV⟩:∃V,eA E.h E.t E.fs s=V:=⟨_,rfl⟩;have a1:=ad (show R=if V.2=0 then(if(eW base V.1).2≠0∨E.inc≤c.aU then(c,.no) else Jv deep c fun f=>zw E.env f (eW base V.1).1 {c with aU:=c.aU+1} out.length) else(c,.no) by rw[←hV];exact HR.o);rw[hV] at ab a6;obtain⟨O,e⟩:=V;clear hV HR bx bv;go_wp2_with fail;refine ab.o.m ?_;rintro K w2⟨rfl,M2,cc,cb⟩;have H:=ad (HT.o.stay cc cb);clear cc cb k ab HT;by_cases he:e=0
 ·subst he;have aN:=ad (DP base O w2 (D.o.gl.gx.next H.o.mx.up) cd.o (by have h:O.length≤262144:=a6.o;omega));have F:=ad (show R=(if(eW base O).2≠0∨E.inc≤c.aU then(c,.no) else Jv deep c fun f=>zw E.env f (eW base O).1 {c with aU:=c.aU+1} out.length) from a1.o);have a0:=ad (fun h:(eW base O).2=0=>pZ ((eC _).1 (Jd h)));obtain⟨Q,r⟩:∃Q,eW base O=Q:=⟨_,rfl⟩;rw[r] at aN F a0;obtain⟨u,e2⟩:=Q;clear r a1 a6;obtain⟨p0,p1,p2,p3,p4,p5⟩:=qX6 (aj H.o.hp) 0 1 2 3 4 5;go_wp2_with fail;refine aN.o.m ?_;rintro K w3⟨rfl,a9⟩;clear p0 p1 p2 p3 p4 p5 aN;have b2:Hid (KX M2 (w3.alloc (.cells #[.string ⟨u.scheme.toArray⟩,.string ⟨u.host.toArray⟩,.int .i64 u.port,.string ⟨u.path.toArray⟩,.string ⟨u.query.toArray⟩,.bool u.hq] 23)) w3.heap.size (.cells (qz u).toArray 23)):=ad (rk (H.o.next a9).mx (.cells (qz u).toArray 23));have p:=ad ((H.o.next a9).next (az w3 (.cells #[.string ⟨u.scheme.toArray⟩,.string ⟨u.host.toArray⟩,.int .i64 u.port,.string ⟨u.path.toArray⟩,.string ⟨u.query.toArray⟩,.bool u.hq] 23)));clear a9 H;go_upto_region 5 with fail;generalize w3.alloc (.cells #[.string ⟨u.scheme.toArray⟩,.string ⟨u.host.toArray⟩,.int .i64 u.port,.string ⟨u.path.toArray⟩,.string ⟨u.query.toArray⟩,.bool u.hq] 23)=z at*;generalize w3.heap.size=T at*;have k:=aj p.o.hm 0;have p6:=aj p.o.hp 6;have b4:z.cell? ⟨E.mb,4,none⟩=some (.int .i64 (c.aU:Int)):=by obtain⟨av,rv,ov,j,_⟩:=p.o.mx;exact tH _ _ 4 _ _ _ j.box
  have cn:z.cell? ⟨E.mb,11,none⟩=some (.int .i64 (E.inc:Int)):=by obtain⟨av,rv,ov,j,_⟩:=p.o.mx;exact tH _ _ 11 _ _ _ j.box
  have co:z.cell? ⟨E.mb,12,none⟩=some (.int .i64 (E.dep:Int)):=by obtain⟨av,rv,ov,j,_⟩:=p.o.mx;exact tH _ _ 12 _ _ _ j.box
  by_cases bd:e2=0
  ·subst bd;by_cases ap:E.inc≤c.aU
   ·have G:=ad (show R=(c,.no) by rw[F.o];exact ah (.inr ap));have d:=ad (fun n=>(p.o.next (ax z n)).no rfl G.o);have i1:(E.inc:Int)≤(c.aU:Int):=by omega
    clear ap
    go_quiet (fail)
    go_wp2_with fail;go_ret;exact d.o _
   ·have i1:¬(E.inc:Int)≤(c.aU:Int):=by omega
    have bp:=ad ap;have G:=ad (show R=(Jv deep c fun f=>zw E.env f u {c with aU:=c.aU+1} out.length) by rw[F.o];exact ae (by rintro(h|h);exact h rfl;exact bp.o h));clear ap;by_cases bb:E.dep≤dp
    ·have af:=ad (show R=(c,.no) by
      rw[G.o];rcases bn.o with⟨h,_⟩|⟨d2,_,h,_⟩
      ·rw[h];rfl
      ·omega)
     have d:=ad (fun n=>(p.o.next (ax z n)).no rfl af.o);have i2:(E.dep:Int)≤(dp:Int):=by omega
     clear bb
     go_quiet (fail)
     go_wp2_with fail;go_ret;exact d.o _
    ·have i2:¬(E.dep:Int)≤(dp:Int):=by omega
     have cs:=bn.o;rcases cs with⟨_,h⟩|⟨d2,b7,ct,b9⟩
     ·exact absurd h bb
     have ch:=ad b9;have af:=ad (show R=zw E.env (fun u t S a=>bT E.env d2 u t false S a) u {c with aU:=c.aU+1} out.length by rw[G.o,b7];rfl);have i3:(c.aU:Int)≤64:=by have:=an.o.aU;have:=D.o.i1;omega
     have i4:(0:Int)≤(c.aU:Int):=by omega
     have a2:=ad (bq.more an.o (by have:=bp.o;omega));have bl:=ad (show({c with aU:=c.aU+1}:PS).asked.length+1≤({c with aU:=c.aU+1}:PS).aU by have h:=an.o.asked;show c.asked.length+1≤c.aU+1;omega);clear bb b7 b9 ct G F
     go_quiet (fail)
     go_upto_region 7 with fail;have I:=ad (p.o.next (ax z nq));have b3:=ad (b2.o.next (ax z nq));generalize z.drewN nq=W5 at*;clear k p6 b4 cn co p b2;have ao:=ad I.o.mx.more;have X:=ad (I.o.stay ao.o.1 ao.o.2);have B:=ad (b3.o.stay ao.o.2);have k:=aj I.o.hm 0;have b4:W5.cell? ⟨E.mb,4,none⟩=some (.int .i64 (c.aU:Int)):=by obtain⟨av,rv,ov,j,_⟩:=I.o.mx;exact tH _ _ 4 _ _ _ j.box
     have f4:W5.frozen? ⟨E.mb,4,none⟩=false:=by obtain⟨av,rv,ov,j,_⟩:=I.o.mx;exact aA j.box
     go_upto_region 8 with fail;generalize W5.setCell ⟨E.mb,4,none⟩ (.int .i64 ((c.aU:Int)+1))=J at*;generalize({c with aU:=c.aU+1}:PS)=S3 at*;clear k b4 f4 I b3 ao i1 i2 i3 i4;have k:=aj X.o.hm 0;have u0:J.cell? ⟨T,0,none⟩=some (.string ⟨u.scheme.toArray⟩):=tH _ _ 0 _ _ _ B.o.1;have u1:J.cell? ⟨T,1,none⟩=some (.string ⟨u.host.toArray⟩):=tH _ _ 1 _ _ _ B.o.1;have u2:J.cell? ⟨T,2,none⟩=some (.int .i64 u.port):=tH _ _ 2 _ _ _ B.o.1;have u3:J.cell? ⟨T,3,none⟩=some (.string ⟨u.path.toArray⟩):=tH _ _ 3 _ _ _ B.o.1;have u4:J.cell? ⟨T,4,none⟩=some (.string ⟨u.query.toArray⟩):=tH _ _ 4 _ _ _ B.o.1;have u5:J.cell? ⟨T,5,none⟩=some (.bool u.hq):=tH _ _ 5 _ _ _ B.o.1;have aq:=ad (T8 D.o X.o.mx u (a0.o rfl) (by have:=bl.o;have:=a2.o.aU;have:=D.o.i1;omega));obtain⟨Q,r⟩:∃Q,sx E.env u S3=Q:=⟨_,rfl⟩;have bs:=ad r;have ai:=ad (af.o.t (N0 E.env _ u S3 out.length));rw[r] at aq ai;obtain⟨C,og⟩:=Q;have ck:=ad (KV a2.o bl.o r);clear r af;go_wp2_with fail;refine aq.o.m ?_;intro K w8 L;clear k u0 u1 u2 u3 u4 u5;cases og with
     |none=>
      obtain⟨rfl,M8,aa,N⟩:=L;have H8:=ad (show fy E M W out R (.panicked [gA]) w8 by rw[ai.o];exact⟨rfl,M8,[],by rw[jm];exact aa,X.o.st.t N⟩)
      clear aa N;go_wp2_with fail;exact⟨rfl,H8.o⟩
     |some g=>
      obtain⟨rfl,M8,aa,N⟩:=L;have al:=ad (show R=zx (fun u t S a=>bT E.env d2 u t false S a) u C out.length g from ai.o);have bo:=ad (KW a2.o.inl D.o.Vd bs.o);have a4:=ad (X.o.stay aa N);have b5:=ad (B.o.stay N);clear aa N ai aq X B;go_upto_region 9 with fail;have ac:=ad (rk a4.o.mx (.cells #[.string ⟨g.body.toArray⟩,.bool g.F3,.bool g.ok] 62));have y:=ad (a4.o.next (az w8 (.cells #[.string ⟨g.body.toArray⟩,.bool g.F3,.bool g.ok] 62)));have b6:=ad (b5.o.next (az w8 (.cells #[.string ⟨g.body.toArray⟩,.bool g.F3,.bool g.ok] 62)));generalize w8.alloc (.cells #[.string ⟨g.body.toArray⟩,.bool g.F3,.bool g.ok] 62)=w9 at*;generalize w8.heap.size=gb at*;clear a4 b5 bs;obtain⟨body,F3,ok⟩:=g;have g0:w9.cell? ⟨gb,0,none⟩=some (.string ⟨body.toArray⟩):=tH _ _ 0 _ _ _ ac.o.1;have g1:w9.cell? ⟨gb,1,none⟩=some (.bool F3):=tH _ _ 1 _ _ _ ac.o.1;have g2:w9.cell? ⟨gb,2,none⟩=some (.bool ok):=tH _ _ 2 _ _ _ ac.o.1;have k:=aj y.o.hm 0;cases ok
      ·have d:=ad (y.o.no rfl (show R=(C,.no) from al.o));go_wp2_with fail;go_ret;exact d.o
      ·cases F3
       ·have x:=ad (show R=(C,jq body out.length) from al.o);have HW:=ad (xq y.o.mx body (by have h:body.length≤1000000:=bo.o;omega) (by have:=ay.o;omega));rcases xr body out.length with Z|Z
        ·rw[Z] at HW x;clear Z;go_wp2_with fail;refine HW.o.m ?_;rintro K A⟨rfl,i⟩;have d:=ad (show fy E M W out R (.returned (.bool false)) A by rw[x.o];exact y.o.ret ⟨rfl,i⟩);clear i;go_wp2_with fail;go_ret;exact d.o
        ·rw[Z] at HW x;clear Z;go_wp2_with fail;refine HW.o.m ?_;rintro K A⟨rfl,i⟩;have d:=ad (show fy E M W out R (.returned (.bool true)) A by rw[x.o];exact y.o.ret ⟨rfl,i⟩);clear i;go_wp2_with fail;go_ret;exact d.o
       ·have HP:=ad (Am w9 (D.o.gl.next y.o.mx.up) body bo.o);have a5:=ad (fun h:(gW body).2.2=0=>sA h);have x:=ad (show R=if(gW body).2.2≠0 then(C,.no) else bT E.env d2 u (gW body).1 false C out.length from al.o);obtain⟨Q,r⟩:∃Q,gW body=Q:=⟨_,rfl⟩;rw[r] at HP a5 x;obtain⟨t,pl,e3⟩:=Q;clear r al;go_wp2_with fail;refine HP.o.m ?_;rintro K A⟨a8,v,rfl,bf⟩;obtain⟨na,nc,ka,kc,rfl,-,-⟩:=bf.shape;have a3:=ad (y.o.next a8);have b0:=ad (b6.o.next a8);have Y:=az A (.cells #[.int .i64 t.kind,.int .i64 t.place,.string ⟨t.text.toArray⟩,.slice na t.attrs.length nc,.slice ka t.kids.length kc] 37);have br:Hid (KX M8 (A.alloc (.cells #[.int .i64 t.kind,.int .i64 t.place,.string ⟨t.text.toArray⟩,.slice na t.attrs.length nc,.slice ka t.kids.length kc] 37)) A.heap.size (.cells (eH t.kind t.place t.text (.slice na t.attrs.length nc) (.slice ka t.kids.length kc)).toArray 37)):=ad (rk a3.o.mx (.cells (eH t.kind t.place t.text (.slice na t.attrs.length nc) (.slice ka t.kids.length kc)).toArray 37));have l:=ad (a3.o.next Y);have b1:=ad (b0.o.next Y);have ci:=ad (eD (A':=fun b=>b∉M8) Y.size (fun b h1 i=>⟨fun j=>by have:=(y.o.mx.mlt b j).2;have h1:w9.heap.size≤b:=h1;omega,Y.block b i⟩) t _ bf);clear a8 bf Y g0 g1 g2 k y b6 a3 b0 ac;by_cases be:e3=0
        ·subst be;obtain⟨ca,cx⟩:=a5.o rfl;have am:=ad (show R=bT E.env d2 u t false C out.length from x.o);go_upto_region 14 with fail;generalize A.alloc (.cells #[.int .i64 t.kind,.int .i64 t.place,.string ⟨t.text.toArray⟩,.slice na t.attrs.length nc,.slice ka t.kids.length kc] 37)=cK at*;generalize A.heap.size=tb at*;have bJ:=ad (xu l.o.mx (by have:=ay.o;omega) _ _ (fun vs w=>cP Tryz.func138 (by kernel_rfl) rfl vs w) (Rq ce.o l.o.mx (ch.o u t (.inl (a0.o trivial)) ca) l.o.hm br.o.1 ci.o b1.o.1 l.o.hp (ck.o.less (by unfold ie;omega)) ay.o));obtain⟨q,hq⟩:∃q,bT E.env d2 u t false C out.length=q:=⟨_,rfl⟩;rw[hq] at bJ am;obtain⟨S5,oc⟩:=q;have k:=aj l.o.hm 0;clear hq ca cx x a5;go_wp2_with fail;refine bJ.o.m ?_;intro K bi L;clear k;cases oc with
         |yes t5=>obtain⟨rfl,i⟩:=L;have d:=ad (show fy E M W out R (.returned (.bool true)) bi by rw[am.o];exact l.o.ret ⟨rfl,i⟩);clear i;go_wp2_with fail;go_ret;exact d.o
         |no=>obtain⟨rfl,i⟩:=L;have d:=ad (show fy E M W out R (.returned (.bool false)) bi by rw[am.o];exact l.o.ret ⟨rfl,i⟩);clear i;go_wp2_with fail;go_ret;exact d.o
         |wait=>obtain⟨rfl,i⟩:=L;have d:=ad (show fy E M W out R (.panicked [gA]) bi by rw[am.o];exact l.o.ret ⟨rfl,i⟩);clear i;go_wp2_with fail;exact⟨rfl,d.o⟩
        ·have q1:=eS be;have d:=ad (l.o.no rfl (show R=(C,.no) by rw[x.o];exact ah be));clear l b1 br;go_wp2_with fail;go_ret;exact d.o
  ·have G:=ad (show R=(c,.no) by rw[F.o];exact ah (.inl bd));have q1:=eS bd;have d:=ad (fun n=>(p.o.next (ax z n)).no rfl G.o)
   go_quiet (fail)
   go_wp2_with fail;go_ret;exact d.o _
 ·have F:=ad (show R=(c,.no) by rw[a1.o];exact ae he);have q1:=eS he;have d:=ad (H.o.no rfl F.o);clear he;go_wp2_with fail;go_ret;exact d.o
variable{d:Bs}{y:List Bs}{b:Nat}
def lU(P:fx)(deep:Deep)(base:U)(a:List bQ)(n:Nat):List Bs→PS→PS×Oc
 |[],S=>(S,if(bG a dj).isSome then .yes [] else .no)
 |nm::r,S=>match DQ P deep base S n (bG a nm) with
  |(b,.no)=>lU P deep base a n r b
  |q=>q
theorem GD{P:fx}{deep:Deep}{base:U}{a:List bQ}{n:Nat}(k:y[b]? =some d)(S:PS):
 (bG a d=none→lU P deep base a n (y.drop b) S=lU P deep base a n (y.drop (b+1)) S)∧∀s,bG a d=some s→(∀c,gB P deep base S n s=(c,.no)→lU P deep base a n (y.drop b) S=lU P deep base a n (y.drop (b+1)) c)∧
  (∀c t,gB P deep base S n s=(c,.yes t)→lU P deep base a n (y.drop b) S=(c,.yes t))∧(∀c,gB P deep base S n s=(c,.wait)→lU P deep base a n (y.drop b) S=(c,.wait)):=by
 obtain⟨e,j⟩:=cH.1 k;rw[lG e,j];refine⟨fun h=> ?_,fun s h=>⟨fun c q=> ?_,fun c t q=> ?_,fun c q=> ?_⟩⟩
 ·rw[lU,h];rfl
 all_goals
  rw[lU,h];show(match gB P deep base S n s with|(c,.no)=>lU P deep base a n (y.drop (b+1)) c|q=>q)=_;rw[q]
def Tr(a:List bQ)(l:List Bs):Nat:=(l.map fun nm=>BS (bG a nm)).sum
theorem N1{a:List bQ}(h:y[b]? =some d):Tr a (y.drop b)=BS (bG a d)+Tr a (y.drop (b+1)):=by obtain⟨c,e⟩:=cH.1 h;rw[lG c,e];simp[Tr]
theorem tW{a:List bQ}{s:Bs}(h:bG a d=some s)(e:∀x∈a,x.val.length≤b):s.length≤b:=by unfold bG at h;obtain⟨x,c,rfl⟩:=qG.1 h;exact e x (List.mem_of_find?_eq_some c)
structure IS (E:ME) (W:aaK) (M0:List Nat) (wx:aaK) (M:List Nat) (S:PS) (out:Bs) (bn bp:Nat) (base:U) (dp:Nat) (vs:Bool) (k p:Int) (t:Bs) (a:List bQ) (aa:Option Addr) (ac:Nat) (kv:aaL):Prop where
 mx:MX E wx M S out
 st:bC M0 W M wx
 hn:KX M wx bn (.cells (eH k p t (.slice aa a.length ac) kv).toArray 37)
 hp:KX M wx bp (.cells (zv base dp vs).toArray 109)
 at_:aP (fun b=>b∉M) wx a (.slice aa a.length ac)
section
variable{E:ME}{W wx wy:aaK}{M0 M M':List Nat}{S S':PS}{out out':Bs}{bn bp:Nat}{base:U}{dp:Nat}{vs:Bool}{k p:Int}{t:Bs}{a:List bQ}{aa:Option Addr}{ac:Nat}{kv:aaL}
theorem IS.stay(h:IS E W M0 wx M S out bn bp base dp vs k p t a aa ac kv)(i:MX E wy M' S' out')(c:bC M wx M' wy):IS E W M0 wy M' S' out' bn bp base dp vs k p t a aa ac kv:=
 ⟨i,h.st.t c,h.hn.stay c,h.hp.stay c,h.at_.cO c.size fun b d e=>c.cO b e d⟩
theorem IS.next(h:IS E W M0 wx M S out bn bp base dp vs k p t a aa ac kv)(b:Below wx.heap.size wx wy):IS E W M0 wy M S out bn bp base dp vs k p t a aa ac kv:=h.stay (h.mx.next b) (bC.ai b)
theorem Ub(H:MX E W M S out)(m:aP (fun b=>b∉M) W a (.slice aa a.length ac))(A B:Obj)(j:A=.cells (eH k p t (.slice aa a.length ac) kv).toArray 37)(l:B=.cells (zv base dp vs).toArray 109):IS E W M ((W.alloc A).alloc B) M S out W.heap.size (W.heap.size+1) base dp vs k p t a aa ac kv:=by
 have c:Below W.heap.size W ((W.alloc A).alloc B):=(az W A).alloc (by rw[aO];omega) B;have d:∀b,W.heap.size≤b→b∉M:=fun b h n=>by have:=(H.mlt b n).2;omega
 subst j l;exact⟨H.next c,bC.ai c,⟨jX W _ _,d _ (ag _)⟩,⟨iT W _ _,d _ (fB _)⟩,m.cO c.size fun b e i=>⟨e,c.block b i⟩⟩
theorem IS.ret(h:IS E W M0 wx M S out bn bp base dp vs k p t a aa ac kv){R:PS×Oc}{b:Ending}(c:fy E M wx out R b wy):fy E M0 W out R b wy:=fy.pre h.st c
end
theorem GF{E:ME}{deep:Deep}{base:U}{dp:Nat}(HE:QQ E)(HD:Ju E deep dp)(HG:Rv E.env deep)(hb:DO base)(aU:dp≤1000){W:aaK}{M:List Nat}{S:PS}{out:Bs}(ab:MX E W M S out){k p:Int}{t:Bs}{a:List bQ}{aa ka:Option Addr}{ac kn kc:Nat}(ay:aP (fun b=>b∉M) W a (.slice aa a.length ac))(av:a.length≤1000000)(aN:∀x∈a,x.val.length≤65536)(hw:bq E.inc S (bV a))(ho:out.length≤262144)(vs:Bool):
 Calls Tryz.prog 49 #[.pointer (some ⟨E.mb,0,none⟩),wZ k p t (.slice aa a.length ac) (.slice ka kn kc),Tp base dp vs] W (fy E M W out (oQ E.env deep base a S out.length)):=by
 have K:=ad (Ub (base:=base) (dp:=dp) (vs:=vs) (k:=k) (p:=p) (t:=t) (kv:=.slice ka kn kc) ab ay _ _ rfl rfl);obtain⟨R,N⟩:∃R,oQ E.env deep base a S out.length=R:=⟨_,rfl⟩;rw[N];have ao:Hid (lU E.env deep base a out.length (([lC,lD]:List Bs).drop 0) S=R):=ad N;have aq:Hid (bq E.inc S (Tr a (([lC,lD]:List Bs).drop 0))):=ad (hw.less (by have:=N2 (n1:=lC) (n2:=lD) (by decide) a;show(BS (bG a lC)+(BS (bG a lD)+0))≤_;omega));have a5:=ad HE;have a3:=ad HD;have a6:=ad HG;have a2:=ad hb;have a4:=ad aU;have af:=ad av;have a1:=ad aN;have bb:=ad ho;clear ab ay av aN hw ho hb aU HE HD HG N;go_enter Tryz.func49,Tryz.ntmps49;go_upto_region 1 with fail;generalize(W.alloc (.cells #[.int .i64 k,.int .i64 p,.string ⟨t.toArray⟩,.slice aa a.length ac,.slice ka kn kc] 37)).alloc (.cells (zv base dp vs).toArray 109)=D at*;generalize W.heap.size=bn at*;have an:Hid (KX M (D.alloc (.cells #[.string ⟨#[115,114,99]⟩,.string ⟨#[97,108,116]⟩] 9)) D.heap.size (.cells #[.string ⟨#[115,114,99]⟩,.string ⟨#[97,108,116]⟩] 9)):=ad (rk K.o.mx (.cells #[.string ⟨#[115,114,99]⟩,.string ⟨#[97,108,116]⟩] 9));have ap:=ad (K.o.next (az D (.cells #[.string ⟨#[115,114,99]⟩,.string ⟨#[97,108,116]⟩] 9)));clear K;go_upto_region 2 with fail;generalize D.alloc (.cells #[.string ⟨#[115,114,99]⟩,.string ⟨#[97,108,116]⟩] 9)=W2 at*;generalize D.heap.size=nb at*
 go_loopw [15] (fun V wr=>∃(i:Nat) (M':List Nat) (S':PS),i≤2∧V=.int .i64 i∧Hid (IS E W M wr M' S' out bn (bn+1) base dp vs k p t a aa ac (.slice ka kn kc))∧Hid (KX M' wr nb (.cells #[.string ⟨#[115,114,99]⟩,.string ⟨#[97,108,116]⟩] 9))∧Hid (lU E.env deep base a out.length (([lC,lD]:List Bs).drop i) S'=R)∧Hid (bq E.inc S' (Tr a (([lC,lD]:List Bs).drop i)))) (fun V _=>2-(intOf V).toNat)
 case atStart=>exact⟨0,M,S,aH _,rfl,ap,an,ao,aq⟩
 case round=>
  obtain⟨i,M',S',hi,rfl,d,y,r,be⟩:=hrel;clear ap an ao aq;by_cases bk:i<2
  ·have i1:(i:Int)<2:=by omega
   have i0:(0:Int)≤(i:Int):=by omega
   obtain⟨nm,O,bi⟩:∃nm,([lC,lD]:List Bs)[i]? =some nm∧wr.cell? ⟨nb,i,none⟩=some (.string ⟨nm.toArray⟩):=by
    have:i=0∨i=1:=by omega
    rcases this with rfl|rfl
    ·exact⟨lC,rfl,tH _ _ 0 _ _ _ y.o.1⟩
    ·exact⟨lD,rfl,tH _ _ 1 _ _ _ y.o.1⟩
   have H:=ad (GD (P:=E.env) (deep:=deep) (base:=base) (a:=a) (n:=out.length) O S');have B:=ad (show bq E.inc S' (BS (bG a nm)+Tr a (([lC,lD]:List Bs).drop (i+1))) by rw[←N1 O];exact be.o);have ai:=ad (fun w=>pU (A:=fun b=>b∉M') k p t nm (aa:=aa) (ka:=ka) (ac:=ac) (kn:=kn) (kc:=kc) (l:=a) w);have j:=ad (ai.o wr d.o.at_ af.o);obtain⟨Y,Z,x2,x3,x4⟩:=qX5 (aj d.o.hn.1) 0 1 2 3 4;have J:=ad (fun s (h:bG a nm=some s)=>tW h a1.o);obtain⟨o,G⟩:∃o,bG a nm=o:=⟨_,rfl⟩;rw[G] at j H B J;clear ai O G;go_wp2_with fail;refine j.o.m ?_;rintro en X⟨rfl,u⟩;have c:=ad (d.o.next u);have am:=ad (y.o.next u);clear u Y Z x2 x3 x4 bi j d y;cases o with
   |none=>
    have z:Hid (lU E.env deep base a out.length (([lC,lD]:List Bs).drop (i+1)) S'=R):=ad ((H.o.1 rfl).symm.t r.o);have bg:=ad (B.o.less (w':=Tr a (([lC,lD]:List Bs).drop (i+1))) (Nat.le_add_left _ _));go_wp2_with fail
    go_roundw
    case rel=>exact⟨i+1,M',S',by omega,by go_num,c,am,z,bg⟩
    case measure=>(simp[intOf]<;>omega)
   |some s=>
    obtain⟨p0,p1,p2,p3,p4,p5,p6,p7⟩:=qX8 (aj c.o.hp.1) 0 1 2 3 4 5 6 7;have bf:=ad (J.o s rfl);have L:=ad (Ua a5.o a3.o a2.o a4.o c.o.mx s (by have:=bf.o;omega) (B.o.less (sd _ _)) bb.o vs);have al:=ad (DR a6.o base s S' out.length _ B.o);obtain⟨q,hq⟩:∃q,gB E.env deep base S' out.length s=q:=⟨_,rfl⟩;have I:=ad (H.o.2 s rfl);rw[hq] at L I;have a7:Hid (bq E.inc q.1 (Tr a (([lC,lD]:List Bs).drop (i+1)))):=ad (by rw[←hq];exact al.o);obtain⟨C,oc⟩:=q;clear hq H al B J;go_wp2_with fail;refine L.o.m ?_;intro en w6 Q;clear p0 p1 p2 p3 p4 p5 p6 p7 L;cases oc with
    |yes t5=>obtain⟨rfl,F⟩:=Q;have e:=ad (show fy E M W out R (.returned (.bool true)) w6 by rw[←r.o,I.o.2.1 C t5 rfl];exact c.o.ret ⟨rfl,F⟩);clear F;go_wp2_with fail;go_ret;exact e.o
    |no=>
     obtain⟨rfl,M6,a0,T⟩:=Q;have bd:Hid (lU E.env deep base a out.length (([lC,lD]:List Bs).drop (i+1)) C=R):=ad ((I.o.1 C rfl).symm.t r.o);have a8:=ad (c.o.stay a0 T);have a9:=ad (am.o.stay T);clear a0 T;go_wp2_with fail
     go_roundw
     case rel=>exact⟨i+1,M6,C,by omega,by go_num,a8,a9,bd,a7⟩
     case measure=>(simp[intOf]<;>omega)
    |wait=>obtain⟨rfl,F⟩:=Q;have e:=ad (show fy E M W out R (.panicked [gA]) w6 by rw[←r.o,I.o.2.2 C rfl];exact c.o.ret ⟨rfl,F⟩);clear F;go_wp2_with fail;exact⟨rfl,e.o⟩
  ·obtain rfl:i=2:=by omega
   have z:=ad (show R=(S',if(bG a dj).isSome then .yes [] else .no) from r.o.symm);have j:=ad (pU (A:=fun b=>b∉M') k p t dj (aa:=aa) (ka:=ka) (ac:=ac) (kn:=kn) (kc:=kc) (l:=a) wr d.o.at_ af.o);obtain⟨Y,Z,x2,x3,x4⟩:=qX5 (aj d.o.hn.1) 0 1 2 3 4;obtain⟨o,G⟩:∃o,bG a dj=o:=⟨_,rfl⟩;rw[G] at j z;clear G r;go_wp2_with fail;refine j.o.m ?_;rintro en X⟨rfl,u⟩;have c:=ad (d.o.next u);clear u Y Z x2 x3 x4 j d y;cases o with
   |none=>have e:=ad (show fy E M W out R (.returned (.bool false)) X by rw[z.o];exact⟨rfl,M',c.o.mx,c.o.st⟩);go_wp2_with fail;go_ret;exact e.o
   |some s=>have e:=ad (show fy E M W out R (.returned (.bool true)) X by rw[z.o];exact⟨rfl,M',by rw[jm];exact c.o.mx,c.o.st⟩);go_wp2_with fail;go_ret;exact e.o
