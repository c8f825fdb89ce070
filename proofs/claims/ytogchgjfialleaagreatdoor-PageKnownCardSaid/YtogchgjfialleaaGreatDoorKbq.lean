/- The walk of the maker's try. -/
import Derived.Test.YtogchgjfialleaaGreatDoorKbp
set_option linter.unusedVariables false
set_option maxRecDepth 100000
set_option maxHeartbeats 4000000
namespace Go.Proofs.YtogchgjfialleaaGreatDoor
open Go.RowKit
theorem Rq{E:ME}{deep:Deep}{u:U}{dp:Nat}(y:dp≤1000){W:World}{M:List Nat}{S:PS}{out:Bs}(H:MX E W M S out){n:Nd}(o:kl E deep u (dp+1) n){b1 b2 b3 b4:Nat}{aa ka:Option Addr}{ac kc:Nat}{b:U}{vs:Bool}
 (l:W.heap[b1]? =some (.cells #[.pointer (some ⟨E.mb,0,none⟩)] 61))(d:W.heap[b2]? =some (.cells (eH n.kind n.place n.text (.slice aa n.attrs.length ac) (.slice ka n.kids.length kc)).toArray 45))
 (r:fu (fun b=>b∉M) W n (wZ n.kind n.place n.text (.slice aa n.attrs.length ac) (.slice ka n.kids.length kc)))(c:W.heap[b3]? =some (.cells (qz u).toArray 34))(m:W.heap[b4]? =some (.cells (zv b dp vs).toArray 89))(w:bq E.inc S (wN n))(s:out.length≤262144):
 Calls Tryz.prog 110 #[.pointer (some ⟨b1,0,none⟩),.pointer (some ⟨b2,0,none⟩),.pointer (some ⟨b3,0,none⟩),.pointer (some ⟨b4,0,none⟩)] W (dk E M W out (bT E.env deep u n false S out.length)):=by
 have h:=ad (o W M S out false _ H r w s);obtain⟨q,hq⟩:∃q,bT E.env deep u n false S out.length=q:=⟨_,rfl⟩;rw[hq] at h⊢;obtain⟨d1,p⟩:∃d1,dp+1=d1:=⟨_,rfl⟩;rw[p] at h;have x:=ad (show((d1:Nat):Int)=(dp:Int)+1 by omega);rw[show Tp u d1 false=.agg #[.string ⟨u.scheme.toArray⟩,.string ⟨u.host.toArray⟩,.int .i64 u.port,.string ⟨u.path.toArray⟩,.string ⟨u.query.toArray⟩,.bool u.hq,.int .i64 ((dp:Int)+1),.bool false] by rw[←x.out]] at h;have z:=aj 0 l;have C:=aj 0 d;have D:=aj 1 d;have F:=aj 2 d;have G:=aj 3 d;have I:=aj 4 d;have u0:W.cell? ⟨b3,0,none⟩=some (.string ⟨u.scheme.toArray⟩):=aj 0 c;have u1:W.cell? ⟨b3,1,none⟩=some (.string ⟨u.host.toArray⟩):=aj 1 c;have u2:W.cell? ⟨b3,2,none⟩=some (.int .i64 u.port):=aj 2 c;have u3:W.cell? ⟨b3,3,none⟩=some (.string ⟨u.path.toArray⟩):=aj 3 c;have u4:W.cell? ⟨b3,4,none⟩=some (.string ⟨u.query.toArray⟩):=aj 4 c;have u5:W.cell? ⟨b3,5,none⟩=some (.bool u.hq):=aj 5 c;have B:=aj 6 m;have L:(dp:Int)≤1000:=by omega
 have K:(0:Int)≤(dp:Int):=by omega
 clear hq o H r l d c m w s p y;go_enter Tryz.func110,Tryz.ntmps110;go_wp2_with fail;refine h.out.mono ?_;rintro J k j;clear z C D F G I u0 u1 u2 u3 u4 u5 B;obtain⟨i,A⟩:=q;cases A with
 |yes t=>obtain⟨rfl,a⟩:=j;have e:=ad (show dk E M W out (i,.yes t) (.returned (.bool true)) k from⟨rfl,a⟩);clear a;go_wp2_with fail;go_ret;exact e.out
 |no=>obtain⟨rfl,a⟩:=j;have e:=ad (show dk E M W out (i,.no) (.returned (.bool false)) k from⟨rfl,a⟩);clear a;go_wp2_with fail;go_ret;exact e.out
 |wait=>obtain⟨rfl,a⟩:=j;have e:=ad (show dk E M W out (i,.wait) (.panicked [gA]) k from⟨rfl,a⟩);clear a;go_wp2_with fail;exact⟨rfl,e.out⟩
theorem NZ{E:ME}{deep:Deep}{base:U}{dp:Nat}{W:World}{M:List Nat}{S:PS}{out:Bs}(H:MX E W M S out){x:Nd}(u:kl E deep base dp x){b1 b2 b4 A B:Nat}{kn kc:Nat}(aa:1≤kn){n:Nd}{av:Value}{V Z:Option Addr}{X Y:Nat}{vs:Bool}
 (r:W.heap[b1]? =some (.cells #[.pointer (some ⟨E.mb,0,none⟩)] 61))(s:W.cell? ⟨b2,4,none⟩=some (.slice (some ⟨A,B,none⟩) kn kc))
 (w:fu (fun b=>b∉M) W x (wZ x.kind x.place x.text (.slice V x.attrs.length X) (.slice Z x.kids.length Y)))(d:∀(j:Nat) (v:Value),(eH x.kind x.place x.text (.slice V x.attrs.length X) (.slice Z x.kids.length Y))[j]? =some v→W.cell? ⟨A,B+j,none⟩=some v)(a:W.heap[b4]? =some (.cells (zv base dp vs).toArray 89))(z:bq E.inc S (wN x))(y:out.length≤262144):
 Calls Tryz.prog 31 #[.pointer (some ⟨b1,0,none⟩),.pointer (some ⟨b2,0,none⟩),.pointer (some ⟨b4,0,none⟩)] W (dk E M W out (bT E.env deep base x vs S out.length)):=by
 have h:=(ar W.heap.size W).drew;have l:=ad (bC.ai (M:=M) h);have e:=ad (u W.drew M S out vs _ (H.next h) (w.next h) z y);obtain⟨q,hq⟩:∃q,bT E.env deep base x vs S out.length=q:=⟨_,rfl⟩;rw[hq] at e⊢;have C:=aj 0 r;have m:=d 0 _ rfl;have O:=d 1 _ rfl;have Q:=d 2 _ rfl;have R:=d 3 _ rfl;have T:=d 4 _ rfl;rw[qF] at m;have D:=aj 0 a;have F:=aj 1 a;have G:=aj 2 a;have I:=aj 3 a;have J:=aj 4 a;have K:=aj 5 a;have L:=aj 6 a;have N:=aj 7 a;have i1:(0:Int)<(kn:Int):=by omega
 have i2:0<kn:=aa;clear hq u H w r a z y h d;obtain⟨o,oc⟩:=q;cases oc with
 |yes t=>
  go_enter Tryz.func31,Tryz.ntmps31;go_upto_region 1 with fail
  go_region_with (go_at_call 19;refine e.out.mono ?_;rintro p i⟨rfl,c⟩;have k:=ad (dk.pre l.out (show dk E M W.drew out (o,.yes t) (.returned (.bool true)) i from⟨rfl,c⟩));clear c)
  all_goals
   clear C m O Q R T D F G I J K L N s;go_wp2_with fail;go_ret;exact k.out
 |no=>
  go_enter Tryz.func31,Tryz.ntmps31;go_upto_region 1 with fail
  go_region_with (go_at_call 19;refine e.out.mono ?_;rintro p i⟨rfl,c⟩;have k:=ad (dk.pre l.out (show dk E M W.drew out (o,.no) (.returned (.bool false)) i from⟨rfl,c⟩));clear c)
  all_goals
   clear C m O Q R T D F G I J K L N s;go_wp2_with fail;go_ret;exact k.out
 |wait=>
  go_enter Tryz.func31,Tryz.ntmps31;go_upto_region 1 with fail
  go_region_dies
  all_goals
   refine e.out.mono ?_;rintro p i⟨rfl,c⟩;exact⟨rfl,dk.pre l.out ⟨rfl,c⟩⟩
end Go.Proofs.YtogchgjfialleaaGreatDoor
namespace Go.Proofs.YtogchgjfialleaaGreatDoor
open Go.Lib
structure Up (S:PS) (r:PS×Oc):Prop where
 asked:S.asked<+:r.1.asked
 work:S.work≤r.1.work
 aU:S.aU≤r.1.aU
def Cut(k:Nat)(r a:PS×Oc):Prop:=
 (r.1.asked.length≤k∧a=r)∨(k<r.1.asked.length∧a.2=.wait∧a.1.asked=r.1.asked.take (k+1)∧a.1.work≤r.1.work∧a.1.aU≤r.1.aU)
def RA(k:Nat)(c b:Cm):Prop:=∀S a,Up S (c S a)∧(S.asked.length≤k→Cut k (c S a) (b S a))
theorem zS{t:Bs}(h:(ju t).2=0):aQ (ju t).1=0:=by
 unfold ju at h⊢;split at h
 ·rename_i a;rw[ah a];have b:=qT (s:=t) (v:=(cZ t).1) (by rw[←a]);exact(eC _).2 (Jc b.ok)
 ·rename_i a;exact(a h).elim
theorem CY{u:U}(h:(hZ u).2=0):aQ (hZ u).1=0:=by
 unfold hZ at h⊢;split at h
 ·rename_i a;rw[ah a];exact(eC _).2 (Jc ((eC _).1 a))
 ·rename_i a;exact(a h).elim
theorem Jd{base:U}{s:Bs}(h:(eW base s).2=0):aQ (eW base s).1=0:=by
 unfold eW at h⊢;split at h
 ·exact absurd h (by decide)
 rename_i c;split at h
 ·rename_i d;rw[ae c,ah d];unfold wM at h⊢;split at h
  ·rename_i b;rw[ah b];split at h
   ·rename_i a;rw[ah a];exact zS h
   ·exact absurd h (by decide)
  ·rename_i b;rw[ae b];split at h
   ·rename_i a;rw[ah a];exact zS h
   ·rename_i a;rw[ae a];exact CY h
 ·exact absurd h (by decide)
end Go.Proofs.YtogchgjfialleaaGreatDoor
namespace Go.Proofs.YtogchgjfialleaaGreatDoor
open Go.RowKit
def Ju(E:ME)(deep:Deep)(dp:Nat):Prop:=(deep=none∧E.dep≤dp)∨∃d2,deep=some (fun u t S a=>bT E.env d2 u t false S a)∧dp<E.dep∧∀u n,DO u→sy n→kl E d2 u (dp+1) n
def Jv(deep:Deep)(S:PS)(k:(U→Nd→PS→Nat→PS×Oc)→PS×Oc):PS×Oc:=match deep with|none=>(S,.no)|some f=>k f
theorem KT(P:fx)(deep:Deep)(base:U)(S:PS)(a:Nat)(s:Bs):gB P deep base S a s=if(eA P.h P.t P.fs s).2=0 then
 (if(eW base (eA P.h P.t P.fs s).1).2≠0∨P.inc≤(S.read (dd s)).aU then(S.read (dd s),.no) else Jv deep (S.read (dd s)) fun f=>zw P f (eW base (eA P.h P.t P.fs s).1).1 {S.read (dd s) with aU:=(S.read (dd s)).aU+1} a)
 else(S.read (dd s),.no):=by
 unfold gB BR;dsimp only;by_cases h:(eA P.h P.t P.fs s).2=0
 ·rw[ah h,ah h];rfl
 ·rw[ae h,ae h]
structure TS (E:ME) (W:World) (M0:List Nat) (wx:World) (M:List Nat) (S:PS) (out:Bs) (bm bp:Nat) (base:U) (dp:Nat) (vs:Bool):Prop where
 mx:MX E wx M S out
 st:bC M0 W M wx
 hm:wx.heap[bm]? =some (.cells #[.pointer (some ⟨E.mb,0,none⟩)] 61)
 hp:wx.heap[bp]? =some (.cells (zv base dp vs).toArray 89)
 nm:bm∉M
 np:bp∉M
section
variable{E:ME}{W wx wy:World}{M0 M M':List Nat}{S S':PS}{out out':Bs}{bm bp:Nat}{base:U}{dp:Nat}{vs:Bool}
theorem TS.stay(h:TS E W M0 wx M S out bm bp base dp vs)(d:MX E wy M' S' out')(a:bC M wx M' wy):TS E W M0 wy M' S' out' bm bp base dp vs:=by have b:=a.cO bm (aB.1 h.hm).1 h.nm;have c:=a.cO bp (aB.1 h.hp).1 h.np;exact⟨d,h.st.trans a,b.2.trans h.hm,c.2.trans h.hp,b.1,c.1⟩
theorem TS.next(h:TS E W M0 wx M S out bm bp base dp vs)(a:Below wx.heap.size wx wy):TS E W M0 wy M S out bm bp base dp vs:=h.stay (h.mx.next a) (bC.ai a)
theorem T9(H:MX E W M S out)(A B:Obj)(d:A=.cells #[.pointer (some ⟨E.mb,0,none⟩)] 61)(e:B=.cells (zv base dp vs).toArray 89):TS E W M ((W.alloc A).alloc B) M S out W.heap.size (W.heap.size+1) base dp vs:=by
 have a:Below W.heap.size W ((W.alloc A).alloc B):=(az W A).alloc (by rw[aO];omega) B;have c:∀b,W.heap.size≤b→b∉M:=fun b h i=>by have:=(H.mlt b i).2;omega
 subst d e;exact⟨H.next a,bC.ai a,jX W _ _,iT W _ _,c _ (ag _),c _ (fB _)⟩
theorem TS.no(h:TS E W M0 wx M S out bm bp base dp vs){a:Bs}(c:out=a){R:PS×Oc}(b:R=(S,.no)):fy E M0 W a R (.returned (.bool false)) wx:=by subst c b;exact⟨rfl,M,h.mx,h.st⟩
theorem TS.ret(h:TS E W M0 wx M S out bm bp base dp vs){R:PS×Oc}{a:Ending}(b:fy E M wx out R a wy):fy E M0 W out R a wy:=fy.pre h.st b
end
def KX(M:List Nat)(w:World)(b:Nat)(O:Obj):Prop:=w.heap[b]? =some O∧b∉M
theorem KX.stay{M M':List Nat}{w w':World}{b:Nat}{O:Obj}(h:KX M w b O)(c:bC M w M' w'):KX M' w' b O:=by have a:=c.cO b (aB.1 h.1).1 h.2;exact⟨a.2.trans h.1,a.1⟩
theorem KX.next{M:List Nat}{w w':World}{b:Nat}{O:Obj}(h:KX M w b O)(a:Below w.heap.size w w'):KX M w' b O:=h.stay (bC.ai a)
theorem rk{E:ME}{w:World}{M:List Nat}{S:PS}{out:Bs}(H:MX E w M S out)(O:Obj):KX M (w.alloc O) w.heap.size O:=⟨au w O,fun a=>by have:=(H.mlt _ a).2;omega⟩
theorem MX.more{E:ME}{w:World}{M:List Nat}{S:PS}{out:Bs}(H:MX E w M S out):MX E (w.setCell ⟨E.mb,4,none⟩ (.int .i64 ((S.aU:Int)+1))) M {S with aU:=S.aU+1} out∧bC M w M (w.setCell ⟨E.mb,4,none⟩ (.int .i64 ((S.aU:Int)+1))):=by obtain⟨av,rv,b,a,rfl⟩:=H;have h:=a.more;rw[show((S.aU+1:Nat):Int)=(S.aU:Int)+1 by omega] at h;exact⟨⟨av,rv,b,h.1,rfl⟩,h.2⟩
theorem KU{l:List (Bs×Bs)}{k t:Bs}(h:fb l k=some t):∃x∈l,x.2=t:=by unfold fb at h;obtain⟨x,a,b⟩:=qG.1 h;exact⟨x,List.mem_reverse.1 (List.mem_of_find?_eq_some a),b⟩
theorem KV{P:fx}{u:U}{S b:PS}{e:Option j5}{c r:Nat}(h:bq c S r)(d:S.asked.length+1≤S.aU)(a:sx P u S=(b,e)):bq c b r:=by
 unfold sx at a;split at a
 ·cases a;exact h
 ·cases a;exact⟨h.reads,h.work,h.inl,by show(S.asked++[u]).length≤S.aU;rw[bB];exact d,h.aU⟩
theorem KW{P:fx}{u:U}{S b:PS}{g:j5}(h:∀x∈S.inl,x.2.length≤65536)(c:∀g∈P.fZ,g.body.length≤1000000)(a:sx P u S=(b,some g)):g.body.length≤1000000:=by
 unfold sx at a;split at a
 ·rename_i t d;cases a;obtain⟨x,e,rfl⟩:=KU d;have:=h x e;show x.2.length≤_;omega
 ·injection a with _ a;exact c g (eQ a)
theorem Ua{E:ME}{deep:Deep}{base:U}{dp:Nat}(HE:QQ E)(HD:Ju E deep dp)(hb:DO base)(b7:dp≤1000){W:World}{M:List Nat}{S:PS}{out:Bs}(bi:MX E W M S out)(s:Bs)(hs:s.length≤1000000)(hw:bq E.inc S (s.length+1))(ho:out.length≤262144)(vs:Bool):
 Calls Tryz.prog 63 #[.pointer (some ⟨E.mb,0,none⟩),.string ⟨s.toArray⟩,Tp base dp vs] W (fy E M W out (gB E.env deep base S out.length s)):=by
 have HT:=ad (T9 (base:=base) (dp:=dp) (vs:=vs) bi _ _ rfl rfl);have bf:=KT E.env deep base S out.length s;obtain⟨R,hR⟩:∃R,gB E.env deep base S out.length s=R:=⟨_,rfl⟩;rw[hR] at bf⊢;have HR:=ad bf;have D:=ad HE;have bl:=ad HD;have cc:=ad hb;have cd:=ad b7;have am:=ad (show bq E.inc (S.read (dd s)) 0 from bq.read (hw.less (by have:=nD s;omega)));obtain⟨c,a6⟩:∃c,S.read (dd s)=c:=⟨_,rfl⟩;rw[a6] at HR am;have ck:=ad a6;have bs:=ad (show S.reads.length≤90000000 by have:=hw.reads;omega);have bv:=ad hs;have aq:=ad ho;clear bi bf hR HE HD hb b7 hs hw ho a6;go_enter Tryz.func63,Tryz.ntmps63;go_upto_region 1 with fail;generalize(W.alloc (.cells #[.pointer (some ⟨E.mb,0,none⟩)] 61)).alloc (.cells (zv base dp vs).toArray 89)=W1 at*;generalize W.heap.size=bm at*;have l:=aj 0 HT.out.hm;have aa:=ad (DH D.out HT.out.mx s bv.out bs.out);rw[ck.out] at aa;have a5:=ad (xt E.h E.t E.fs s);obtain⟨V,hV⟩:∃V,eA E.h E.t E.fs s=V:=⟨_,rfl⟩;have a0:=ad (show R=if V.2=0 then(if(eW base V.1).2≠0∨E.inc≤c.aU then(c,.no) else Jv deep c fun f=>zw E.env f (eW base V.1).1 {c with aU:=c.aU+1} out.length) else(c,.no) by rw[←hV];exact HR.out);rw[hV] at aa a5;obtain⟨m,e⟩:=V;clear hV HR bv bs;go_wp2_with fail;refine aa.out.mono ?_;rintro J w2⟨rfl,M2,cb,ca⟩;have j:=ad (HT.out.stay cb ca);clear cb ca l aa HT;by_cases he:e=0
 ·subst he;have ay:=ad (DP base m w2 (D.out.gl.gx.next j.out.mx.up) cc.out (by have h:m.length≤262144:=a5.out;omega));have F:=ad (show R=(if(eW base m).2≠0∨E.inc≤c.aU then(c,.no) else Jv deep c fun f=>zw E.env f (eW base m).1 {c with aU:=c.aU+1} out.length) from a0.out);have aN:=ad (fun h:(eW base m).2=0=>pZ ((eC _).1 (Jd h)));obtain⟨Q,r⟩:∃Q,eW base m=Q:=⟨_,rfl⟩;rw[r] at ay F aN;obtain⟨u,e2⟩:=Q;clear r a0 a5;have p0:=aj 0 j.out.hp;have p1:=aj 1 j.out.hp;have p2:=aj 2 j.out.hp;have p3:=aj 3 j.out.hp;have p4:=aj 4 j.out.hp;have p5:=aj 5 j.out.hp;go_wp2_with fail;refine ay.out.mono ?_;rintro J w3⟨rfl,a8⟩;clear p0 p1 p2 p3 p4 p5 ay;have b1:Hid (KX M2 (w3.alloc (.cells #[.string ⟨u.scheme.toArray⟩,.string ⟨u.host.toArray⟩,.int .i64 u.port,.string ⟨u.path.toArray⟩,.string ⟨u.query.toArray⟩,.bool u.hq] 34)) w3.heap.size (.cells (qz u).toArray 34)):=ad (rk (j.out.next a8).mx (.cells (qz u).toArray 34));have p:=ad ((j.out.next a8).next (az w3 (.cells #[.string ⟨u.scheme.toArray⟩,.string ⟨u.host.toArray⟩,.int .i64 u.port,.string ⟨u.path.toArray⟩,.string ⟨u.query.toArray⟩,.bool u.hq] 34)));clear a8 j;go_upto_region 5 with fail;generalize w3.alloc (.cells #[.string ⟨u.scheme.toArray⟩,.string ⟨u.host.toArray⟩,.int .i64 u.port,.string ⟨u.path.toArray⟩,.string ⟨u.query.toArray⟩,.bool u.hq] 34)=z at*;generalize w3.heap.size=N at*;have l:=aj 0 p.out.hm;have p6:=aj 6 p.out.hp;have b4:z.cell? ⟨E.mb,4,none⟩=some (.int .i64 (c.aU:Int)):=by obtain⟨av,rv,ov,k,_⟩:=p.out.mx;exact aj 4 k.box
  have cl:z.cell? ⟨E.mb,11,none⟩=some (.int .i64 (E.inc:Int)):=by obtain⟨av,rv,ov,k,_⟩:=p.out.mx;exact aj 11 k.box
  have cn:z.cell? ⟨E.mb,12,none⟩=some (.int .i64 (E.dep:Int)):=by obtain⟨av,rv,ov,k,_⟩:=p.out.mx;exact aj 12 k.box
  by_cases bb:e2=0
  ·subst bb;by_cases ao:E.inc≤c.aU
   ·have G:=ad (show R=(c,.no) by rw[F.out];exact ah (.inr ao));have d:=ad (fun n=>(p.out.next (ax z n)).no rfl G.out);have i1:(E.inc:Int)≤(c.aU:Int):=by omega
    clear ao
    go_quiet (fail)
    go_wp2_with fail;go_ret;exact d.out _
   ·have i1:¬(E.inc:Int)≤(c.aU:Int):=by omega
    have bo:=ad ao;have G:=ad (show R=(Jv deep c fun f=>zw E.env f u {c with aU:=c.aU+1} out.length) by rw[F.out];exact ae (by rintro(h|h);exact h rfl;exact bo.out h));clear ao;by_cases a9:E.dep≤dp
    ·have ac:=ad (show R=(c,.no) by
      rw[G.out];rcases bl.out with⟨h,_⟩|⟨d2,_,h,_⟩
      ·rw[h];rfl
      ·omega)
     have d:=ad (fun n=>(p.out.next (ax z n)).no rfl ac.out);have i2:(E.dep:Int)≤(dp:Int):=by omega
     clear a9
     go_quiet (fail)
     go_wp2_with fail;go_ret;exact d.out _
    ·have i2:¬(E.dep:Int)≤(dp:Int):=by omega
     have co:=bl.out;rcases co with⟨_,h⟩|⟨d2,b6,cs,b8⟩
     ·exact absurd h a9
     have ce:=ad b8;have ac:=ad (show R=zw E.env (fun u t S a=>bT E.env d2 u t false S a) u {c with aU:=c.aU+1} out.length by rw[G.out,b6];rfl);have i3:(c.aU:Int)≤64:=by have:=am.out.aU;have:=D.out.i1;omega
     have i4:(0:Int)≤(c.aU:Int):=by omega
     have a1:=ad (bq.more am.out (by have:=bo.out;omega));have bk:=ad (show({c with aU:=c.aU+1}:PS).asked.length+1≤({c with aU:=c.aU+1}:PS).aU by have h:=am.out.asked;show c.asked.length+1≤c.aU+1;omega);clear a9 b6 b8 cs G F
     go_quiet (fail)
     go_upto_region 7 with fail;have H:=ad (p.out.next (ax z nq));have b2:=ad (b1.out.next (ax z nq));generalize z.drewN nq=W5 at*;clear l p6 b4 cl cn p b1;have an:=ad H.out.mx.more;have O:=ad (H.out.stay an.out.1 an.out.2);have B:=ad (b2.out.stay an.out.2);have l:=aj 0 H.out.hm;have b4:W5.cell? ⟨E.mb,4,none⟩=some (.int .i64 (c.aU:Int)):=by obtain⟨av,rv,ov,k,_⟩:=H.out.mx;exact aj 4 k.box
     have f4:W5.frozen? ⟨E.mb,4,none⟩=false:=by obtain⟨av,rv,ov,k,_⟩:=H.out.mx;exact aA k.box
     go_upto_region 8 with fail;generalize W5.setCell ⟨E.mb,4,none⟩ (.int .i64 ((c.aU:Int)+1))=I at*;generalize({c with aU:=c.aU+1}:PS)=S3 at*;clear l b4 f4 H b2 an i1 i2 i3 i4;have l:=aj 0 O.out.hm;have u0:I.cell? ⟨N,0,none⟩=some (.string ⟨u.scheme.toArray⟩):=aj 0 B.out.1;have u1:I.cell? ⟨N,1,none⟩=some (.string ⟨u.host.toArray⟩):=aj 1 B.out.1;have u2:I.cell? ⟨N,2,none⟩=some (.int .i64 u.port):=aj 2 B.out.1;have u3:I.cell? ⟨N,3,none⟩=some (.string ⟨u.path.toArray⟩):=aj 3 B.out.1;have u4:I.cell? ⟨N,4,none⟩=some (.string ⟨u.query.toArray⟩):=aj 4 B.out.1;have u5:I.cell? ⟨N,5,none⟩=some (.bool u.hq):=aj 5 B.out.1;have ap:=ad (T8 D.out O.out.mx u (aN.out rfl) (by have:=bk.out;have:=a1.out.aU;have:=D.out.i1;omega));obtain⟨Q,r⟩:∃Q,sx E.env u S3=Q:=⟨_,rfl⟩;have br:=ad r;have af:=ad (ac.out.trans (N0 E.env _ u S3 out.length));rw[r] at ap af;obtain⟨C,og⟩:=Q;have ci:=ad (KV a1.out bk.out r);clear r ac;go_wp2_with fail;refine ap.out.mono ?_;intro J w8 K;clear l u0 u1 u2 u3 u4 u5;cases og with
     |none=>
      obtain⟨rfl,M8,Y,L⟩:=K;have H8:=ad (show fy E M W out R (.panicked [gA]) w8 by rw[af.out];exact⟨rfl,M8,[],by rw[jm];exact Y,O.out.st.trans L⟩)
      clear Y L;go_wp2_with fail;exact⟨rfl,H8.out⟩
     |some g=>
      obtain⟨rfl,M8,Y,L⟩:=K;have ai:=ad (show R=zx (fun u t S a=>bT E.env d2 u t false S a) u C out.length g from af.out);have bn:=ad (KW a1.out.inl D.out.Vd br.out);have a3:=ad (O.out.stay Y L);have b3:=ad (B.out.stay L);clear Y L af ap O B;go_upto_region 9 with fail;have ab:=ad (rk a3.out.mx (.cells #[.string ⟨g.body.toArray⟩,.bool g.F3,.bool g.ok] 24));have y:=ad (a3.out.next (az w8 (.cells #[.string ⟨g.body.toArray⟩,.bool g.F3,.bool g.ok] 24)));have b5:=ad (b3.out.next (az w8 (.cells #[.string ⟨g.body.toArray⟩,.bool g.F3,.bool g.ok] 24)));generalize w8.alloc (.cells #[.string ⟨g.body.toArray⟩,.bool g.F3,.bool g.ok] 24)=w9 at*;generalize w8.heap.size=gb at*;clear a3 b3 br;obtain⟨body,F3,ok⟩:=g;have g0:w9.cell? ⟨gb,0,none⟩=some (.string ⟨body.toArray⟩):=aj 0 ab.out.1;have g1:w9.cell? ⟨gb,1,none⟩=some (.bool F3):=aj 1 ab.out.1;have g2:w9.cell? ⟨gb,2,none⟩=some (.bool ok):=aj 2 ab.out.1;have l:=aj 0 y.out.hm;cases ok
      ·have d:=ad (y.out.no rfl (show R=(C,.no) from ai.out));go_wp2_with fail;go_ret;exact d.out
      ·cases F3
       ·have x:=ad (show R=(C,jq body out.length) from ai.out);have HW:=ad (xq y.out.mx body (by have h:body.length≤1000000:=bn.out;omega) (by have:=aq.out;omega));rcases xr body out.length with X|X
        ·rw[X] at HW x;clear X;go_wp2_with fail;refine HW.out.mono ?_;rintro J A⟨rfl,i⟩;have d:=ad (show fy E M W out R (.returned (.bool false)) A by rw[x.out];exact y.out.ret ⟨rfl,i⟩);clear i;go_wp2_with fail;go_ret;exact d.out
        ·rw[X] at HW x;clear X;go_wp2_with fail;refine HW.out.mono ?_;rintro J A⟨rfl,i⟩;have d:=ad (show fy E M W out R (.returned (.bool true)) A by rw[x.out];exact y.out.ret ⟨rfl,i⟩);clear i;go_wp2_with fail;go_ret;exact d.out
       ·have HP:=ad (Am w9 (D.out.gl.next y.out.mx.up) body bn.out);have a4:=ad (fun h:(gW body).2.2=0=>sA h);have x:=ad (show R=if(gW body).2.2≠0 then(C,.no) else bT E.env d2 u (gW body).1 false C out.length from ai.out);obtain⟨Q,r⟩:∃Q,gW body=Q:=⟨_,rfl⟩;rw[r] at HP a4 x;obtain⟨t,pl,e3⟩:=Q;clear r ai;go_wp2_with fail;refine HP.out.mono ?_;rintro J A⟨a7,v,rfl,be⟩;obtain⟨Z,nc,ka,kc,rfl,-,-⟩:=be.shape;have a2:=ad (y.out.next a7);have bJ:=ad (b5.out.next a7);have T:=az A (.cells #[.int .i64 t.kind,.int .i64 t.place,.string ⟨t.text.toArray⟩,.slice Z t.attrs.length nc,.slice ka t.kids.length kc] 45);have bp:Hid (KX M8 (A.alloc (.cells #[.int .i64 t.kind,.int .i64 t.place,.string ⟨t.text.toArray⟩,.slice Z t.attrs.length nc,.slice ka t.kids.length kc] 45)) A.heap.size (.cells (eH t.kind t.place t.text (.slice Z t.attrs.length nc) (.slice ka t.kids.length kc)).toArray 45)):=ad (rk a2.out.mx (.cells (eH t.kind t.place t.text (.slice Z t.attrs.length nc) (.slice ka t.kids.length kc)).toArray 45));have o:=ad (a2.out.next T);have b0:=ad (bJ.out.next T);have ch:=ad (eD (A':=fun b=>b∉M8) T.size (fun b h1 i=>⟨fun k=>by have:=(y.out.mx.mlt b k).2;have h1:w9.heap.size≤b:=h1;omega,T.block b i⟩) t _ be);clear a7 be T g0 g1 g2 l y b5 a2 bJ ab;by_cases bd:e3=0
        ·subst bd;obtain⟨b9,ct⟩:=a4.out rfl;have al:=ad (show R=bT E.env d2 u t false C out.length from x.out);go_upto_region 14 with fail;generalize A.alloc (.cells #[.int .i64 t.kind,.int .i64 t.place,.string ⟨t.text.toArray⟩,.slice Z t.attrs.length nc,.slice ka t.kids.length kc] 45)=cx at*;generalize A.heap.size=tb at*;have bx:=ad (xu o.out.mx (by have:=aq.out;omega) _ _ (fun vs w=>cP Tryz.func110 (by kernel_rfl) rfl vs w) (Rq cd.out o.out.mx (ce.out u t (.inl (aN.out trivial)) b9) o.out.hm bp.out.1 ch.out b0.out.1 o.out.hp (ci.out.less (by unfold ie;omega)) aq.out));obtain⟨q,hq⟩:∃q,bT E.env d2 u t false C out.length=q:=⟨_,rfl⟩;rw[hq] at bx al;obtain⟨S5,oc⟩:=q;have l:=aj 0 o.out.hm;clear hq b9 ct x a4;go_wp2_with fail;refine bx.out.mono ?_;intro J bg K;clear l;cases oc with
         |yes t5=>obtain⟨rfl,i⟩:=K;have d:=ad (show fy E M W out R (.returned (.bool true)) bg by rw[al.out];exact o.out.ret ⟨rfl,i⟩);clear i;go_wp2_with fail;go_ret;exact d.out
         |no=>obtain⟨rfl,i⟩:=K;have d:=ad (show fy E M W out R (.returned (.bool false)) bg by rw[al.out];exact o.out.ret ⟨rfl,i⟩);clear i;go_wp2_with fail;go_ret;exact d.out
         |wait=>obtain⟨rfl,i⟩:=K;have d:=ad (show fy E M W out R (.panicked [gA]) bg by rw[al.out];exact o.out.ret ⟨rfl,i⟩);clear i;go_wp2_with fail;exact⟨rfl,d.out⟩
        ·have q1:=eS bd;have d:=ad (o.out.no rfl (show R=(C,.no) by rw[x.out];exact ah bd));clear o b0 bp;go_wp2_with fail;go_ret;exact d.out
  ·have G:=ad (show R=(c,.no) by rw[F.out];exact ah (.inl bb));have q1:=eS bb;have d:=ad (fun n=>(p.out.next (ax z n)).no rfl G.out)
   go_quiet (fail)
   go_wp2_with fail;go_ret;exact d.out _
 ·have F:=ad (show R=(c,.no) by rw[a0.out];exact ae he);have q1:=eS he;have d:=ad (j.out.no rfl F.out);clear he;go_wp2_with fail;go_ret;exact d.out
