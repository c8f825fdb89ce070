/- The walk of the maker's node. -/
import Derived.Test.YtlemddnecmmfgaaGreatDoorJbc
set_option linter.unusedVariables false
set_option maxRecDepth 100000
set_option maxHeartbeats 4000000
namespace Go.Proofs.YtlemddnecmmfgaaGreatDoor
open Go.RowKit
variable{K:Ex}{q k:Nat}{j:Nd}{d i:Option Addr}
theorem KY(val:bc→Bs×Bool)(x:Ex):tE x→∀u∈(bt val x).2,u.key.length≤100000:=by
 refine Ex.ind (P:=fun x=>tE x→∀u∈(bt val x).2,u.key.length≤100000) (fun k t u l z m=> ?_) x;unfold tE at m;obtain⟨_,_,q,_,s⟩:=m;have o:∀y,y∈l→∀u∈(bt val y).2,u.key.length≤100000:=fun y n=>z y n (xw s n);rw[kz];unfold qI;by_cases d:fG k≠((ig val l).length:Int)
 ·rw[ah d];intro u h;cases h
 rw[ae d];by_cases e:k=10∨k=11
 ·rw[ah e];intro u h;cases h
 rw[ae e];by_cases i:k=12
 ·rw[ah i];intro v h;rw[fj.1 h];exact q
 rw[ae i]
 match l with
 |[]=>rw[ig];intro u h;cases h
 |a::r=>
  have c:=o a (by simp);rw[ig];dsimp only;split
  ·exact c
  split
  ·exact c
  split
  ·exact c
  match r with
  |[]=>rw[ig];intro u h;cases h
  |b::A=>
   have p:=o b (by simp);rw[ig];dsimp only;have j:∀u∈(bt val a).2++(bt val b).2,u.key.length≤100000:=fun u w=>(gZ.1 w).elim (c u) (p u);split
   ·exact j
   ·exact j
theorem dR.stay{M M':List Nat}{W W':aaK}{v:aaL}(h:dR (fun b=>b∉M) W K v)(d:bC M W M' W'):dR (fun b=>b∉M') W' K v:=by have a:dR (fun b=>b∉M∧b<W.heap.size) W K v:=jJ (fun b a c=>⟨c,a⟩) K v h;have c:=kG d.size (fun b a _=>(d.cO b a.2 a.1).2) K v a;exact jJ (fun b _ c=>(d.cO b c.2 c.1).1) K v c
theorem fu.parts{A:Nat→Prop}{W:aaK}(h:fu A W j (wZ j.kind j.place j.text (.slice d j.attrs.length q) (.slice i j.kids.length k))):aP A W j.attrs (.slice d j.attrs.length q)∧fC A W j.kids (.slice i j.kids.length k):=by obtain⟨m,o,n,p,e,t,u⟩:=h.shape;have r:(Value.slice d j.attrs.length q)=.slice m j.attrs.length o:=iS (congrArg (fun v:aaL=>match v with|.agg l=>l[3]? |_=>none) e);have s:(Value.slice i j.kids.length k)=.slice n j.kids.length p:=iS (congrArg (fun v:aaL=>match v with|.agg l=>l[4]? |_=>none) e);rw[r,s];exact⟨t,u⟩
theorem MX.work{E:ME}{w:aaK}{M:List Nat}{S:PS}{out:Bs}(H:MX E w M S out):MX E (w.setCell ⟨E.mb,5,none⟩ (.int .i64 ((S.work:Int)+1))) M S.step out∧bC M w M (w.setCell ⟨E.mb,5,none⟩ (.int .i64 ((S.work:Int)+1))):=by obtain⟨av,rv,b,a,rfl⟩:=H;have h:=a.step;rw[show((S.work+1:Nat):Int)=(S.work:Int)+1 by omega] at h;exact⟨⟨av,rv,b,h.1,rfl⟩,h.2⟩
theorem GG{P:fx}{deep:Deep}{base:U}{l:List Nd}(m:l[q]? =some j)(vs:Bool)(S:PS)(n:Nat):
 eK P deep base (l.drop q) vs S n=if j.kind=12 then bT P deep base j vs S n else if(gd j.attrs).2.2≠0 then eK P deep base (l.drop (q+1)) vs S.step n
  else if oz (bt (gr P.h P.t P.fs) (gd j.attrs).1).1=true then dJ P deep base j.kids vs (S.step.read (cT (bt (gr P.h P.t P.fs) (gd j.attrs).1).2)) n
  else eK P deep base (l.drop (q+1)) vs (S.step.read (cT (bt (gr P.h P.t P.fs) (gd j.attrs).1).2)) n:=by
 obtain⟨d,e⟩:=cH.1 m;rw[lG d,e,eK];by_cases b:j.kind=12
 ·rw[ah b,ah b]
 ·rw[ae b,ae b];by_cases c:(gd j.attrs).2.2≠0
  ·rw[ah c,ah c]
  ·rw[ae c,ae c];obtain⟨k,p,t,a,o⟩:=j;dsimp only;rw[xx];rfl
structure CH (E:ME) (W:aaK) (M0:List Nat) (wx:aaK) (M:List Nat) (S:PS) (out:Bs) (bp:Nat) (base:U) (dp:Nat) (vs:Bool) (l:List Nd) (v:aaL):Prop where
 mx:MX E wx M S out
 st:bC M0 W M wx
 hp:KX M wx bp (.cells (zv base dp vs).toArray 109)
 kd:fC (fun b=>b∉M) wx l v
section
variable{E:ME}{W wx wy:aaK}{M0 M M':List Nat}{S S':PS}{out out':Bs}{bp:Nat}{base:U}{dp:Nat}{vs:Bool}{l:List Nd}{v:aaL}
theorem CH.stay(h:CH E W M0 wx M S out bp base dp vs l v)(b:MX E wy M' S' out')(a:bC M wx M' wy):CH E W M0 wy M' S' out' bp base dp vs l v:=⟨b,h.st.t a,h.hp.stay a,h.kd.stay a⟩
theorem CH.next(h:CH E W M0 wx M S out bp base dp vs l v)(a:Below wx.heap.size wx wy):CH E W M0 wy M S out bp base dp vs l v:=h.stay (h.mx.next a) (bC.ai a)
theorem Uc(H:MX E W M S out)(d:fC (fun b=>b∉M) W l v)(A B:Obj)(c:B=.cells (zv base dp vs).toArray 109):CH E W M ((W.alloc A).alloc B) M S out (W.heap.size+1) base dp vs l v:=by have a:Below W.heap.size W ((W.alloc A).alloc B):=(az W A).alloc (by rw[aO];omega) B;subst c;exact⟨H.next a,bC.ai a,⟨iT W _ _,fun e=>by have:=(H.mlt _ e).2;omega⟩,d.next a⟩
theorem CH.ret(h:CH E W M0 wx M S out bp base dp vs l v){R:PS×Oc}{a:Ending}(b:dk E M wx out R a wy):dk E M0 W out R a wy:=dk.pre h.st b
end
theorem kR.shape{W:aaK}{v:aaL}{b:List (Bs×Bs×Bool)}(h:kR W v b):∃a c,v=.slice a b.length c:=by
 rcases h with⟨rfl,rfl⟩|⟨g,c,rfl,_⟩
 ·exact⟨none,0,rfl⟩
 ·exact⟨_,c,rfl⟩
theorem DS(h:sy j):j.kids.length≤1000000∧DN j.kids:=by obtain⟨k,p,t,a,l⟩:=j;rw[sy] at h;exact⟨h.2.2.2.1,h.2.2.2.2.2⟩
structure WH (w:aaK) (M:List Nat) (xb eb:Nat) (x:Nd) (xa xk:Option Addr) (xc xd:Nat) (k0:Int) (tx:Ex) (ek:Int) (et:Bs) (eu:bc) (ea:Option Addr) (en ec:Nat):Prop where
 hx:KX M w xb (.cells (eH k0 x.place x.text (.slice xa x.attrs.length xc) (.slice xk x.kids.length xd)).toArray 37)
 kd:fC (fun b=>b∉M) w x.kids (.slice xk x.kids.length xd)
 he:KX M w eb (.cells (dC ek et eu (.slice ea en ec)).toArray 171)
 ex:dR (fun b=>b∉M) w tx (dY ek et eu (.slice ea en ec))
theorem WH.stay{w w':aaK}{M M':List Nat}{o c:Nat}{x:Nd}{n r:Option Addr}{p q:Nat}{l:Int}{m:Ex}{e:Int}{j:Bs}{k:bc}{b:Option Addr}{i d:Nat}(h:WH w M o c x n r p q l m e j k b i d)(a:bC M w M' w'):WH w' M' o c x n r p q l m e j k b i d:=
 ⟨h.hx.stay a,h.kd.stay a,h.he.stay a,h.ex.stay a⟩
theorem WH.next{w w':aaK}{M:List Nat}{o p:Nat}{n:Int}{c:Int}{l:Bs}{m:bc}{a:Option Addr}{e b:Nat}(h:WH w M q k j d i o p n K c l m a e b)(r:Below w.heap.size w w'):WH w' M q k j d i o p n K c l m a e b:=h.stay (bC.ai r)
theorem K0{E:ME}{deep:Deep}{base:U}{dp:Nat}(HE:QQ E)(HG:Rv E.env deep)(HK:DM E.env deep base){W:aaK}{M:List Nat}{S:PS}{out:Bs}(cl:MX E W M S out){l:List Nd}(hN:∀x∈l,kl E deep base dp x∧∀y∈x.kids,kl E deep base dp y){k p:Int}{t:Bs}{av:aaL}{kc an ac:Nat}{aa:Option Addr}(fl:av=.slice aa an ac)(hk:fC (fun b=>b∉M) W l (.slice d l.length kc))(ec:DN l)(hl:l.length≤1000000)(hw:bq E.inc S (wL l))(ho:out.length≤262144)(vs:Bool):
 Calls Tryz.prog 52 #[.pointer (some ⟨E.mb,0,none⟩),wZ k p t av (.slice d l.length kc),Tp base dp vs] W (dk E M W out (eK E.env deep base l vs S out.length)):=by
 subst fl;have HT:=ad (Uc (base:=base) (dp:=dp) (vs:=vs) cl hk (.cells (eH k p t (.slice aa an ac) (.slice d l.length kc)).toArray 37) _ rfl);obtain⟨R,hR⟩:∃R,eK E.env deep base l vs S out.length=R:=⟨_,rfl⟩;rw[hR];have d1:Hid (eK E.env deep base (l.drop 0) vs S out.length=R):=ad hR;have d5:Hid (bq E.inc S (wL (l.drop 0))):=ad hw;have F:=ad HE;have fZ:=ad HG;have en:=ad HK;have er:=ad hN;have et:=ad ec;have d0:=ad ho;obtain⟨N,b4⟩:∃N,l.length=N:=⟨_,rfl⟩;have dq:=ad b4;rw[b4] at HT hl⊢;clear cl hk hN ec hw ho hR HE HG HK b4;have n0:(0:Int)≤(N:Int):=by omega
 go_enter Tryz.func52,Tryz.ntmps52;go_upto_region 1 with fail;have I:((W.alloc (.cells #[.int .i64 k,.int .i64 p,.string ⟨t.toArray⟩,.slice aa an ac,.slice d N kc] 37)).alloc (.cells (zv base dp vs).toArray 109)).cell? ⟨W.heap.size,4,none⟩=some (.slice d N kc):=tH _ _ 4 _ _ _ (jX W _ _);generalize(W.alloc (.cells #[.int .i64 k,.int .i64 p,.string ⟨t.toArray⟩,.slice aa an ac,.slice d N kc] 37)).alloc (.cells (zv base dp vs).toArray 109)=W1 at*;generalize W.heap.size=bn at*;go_upto_region 2 with fail;clear I
 go_loopw [17] (fun iv wr=>∃(i:Nat) (M':List Nat) (S':PS),i≤N∧iv=.int .i64 i∧Hid (CH E W M wr M' S' out (bn+1) base dp vs l (.slice d N kc))∧Hid (eK E.env deep base (l.drop i) vs S' out.length=R)∧Hid (bq E.inc S' (wL (l.drop i)))) (fun iv _=>N-(intOf iv).toNat)
 case atStart=>exact⟨0,M,S,aH _,rfl,HT,d1,d5⟩
 case round=>
  obtain⟨i,M',S',hi,rfl,HM,bs,d3⟩:=hrel;clear HT d1 d5;by_cases fr:i<N
  ·have i1:(i:Int)<(N:Int):=by omega
   have i0:(0:Int)≤(i:Int):=by omega
   obtain⟨x,hx⟩:∃x,l[i]? =some x:=⟨_,cA (by rw[dq.o];exact fr)⟩;have a0:=ad (bs.o.symm.t (GG (P:=E.env) (deep:=deep) (base:=base) hx vs S' out.length));have ay:=ad (show bq E.inc S' (wN x+wL (l.drop (i+1))) by rw[←Js hx];exact d3.o);have ds:=ad (er.o x (eQ hx));have bp:=ad (et.o.get (eQ hx));obtain⟨kb,ko,O,T,X,V,rfl,fp,bm,ai⟩:=HM.o.kd.get hx;have cc:=bm.parts;obtain⟨D,ea⟩:∃D,x.kind=D:=⟨_,rfl⟩;rw[ea] at bm ai a0;have x0:=ai 0 _ rfl;have x1:=ai 1 _ rfl;have x2:=ai 2 _ rfl;have x3:=ai 3 _ rfl;have I:=ai 4 _ rfl;rw[qF] at x0;have hA5:=az wr (.cells (eH D x.place x.text (.slice O x.attrs.length T) (.slice X x.kids.length V)).toArray 37);have b2:Hid (KX M' (wr.alloc (.cells #[.int .i64 D,.int .i64 x.place,.string ⟨x.text.toArray⟩,.slice O x.attrs.length T,.slice X x.kids.length V] 37)) wr.heap.size (.cells (eH D x.place x.text (.slice O x.attrs.length T) (.slice X x.kids.length V)).toArray 37)):=ad (rk HM.o.mx (.cells (eH D x.place x.text (.slice O x.attrs.length T) (.slice X x.kids.length V)).toArray 37));have H:=ad (HM.o.next hA5);have c9:=ad (bm.next hA5);have br:=ad (And.intro (cc.1.next hA5) (cc.2.next hA5));clear hx bm ai hA5 fp HM bs d3 ea cc;go_upto_region 4 with fail;generalize wr.alloc (.cells #[.int .i64 D,.int .i64 x.place,.string ⟨x.text.toArray⟩,.slice O x.attrs.length T,.slice X x.kids.length V] 37)=W5 at*;generalize wr.heap.size=xb at*;clear x0 x1 x2 x3 I;obtain⟨x0,x1,x2,x3,I⟩:=qX5 (aj b2.o.1) 0 1 2 3 4;by_cases bl:D=12
   ·subst bl;have Z:=ad (a0.o.t (ah rfl));have HC:=ad (ds.o.1 W5 M' S' out vs _ H.o.mx c9.o (ay.o.less (sd _ _)) d0.o);obtain⟨q,hq⟩:∃q,bT E.env deep base x vs S' out.length=q:=⟨_,rfl⟩;rw[hq] at HC Z;obtain⟨S1,oc⟩:=q;obtain⟨p0,p1,p2,p3,p4,p5,p6,p7⟩:=qX8 (aj H.o.hp.1) 0 1 2 3 4 5 6 7;clear hq a0;go_wp2_with fail;refine HC.o.m ?_;intro j w6 am;clear x0 x1 x2 x3 I p0 p1 p2 p3 p4 p5 p6 p7 HC;cases oc with
    |yes t5=>obtain⟨rfl,c⟩:=am;have r:=ad (show dk E M W out R (.returned (.bool true)) w6 by rw[Z.o];exact H.o.ret ⟨rfl,c⟩);clear c;go_wp2_with fail;go_ret;exact r.o
    |no=>obtain⟨rfl,c⟩:=am;have r:=ad (show dk E M W out R (.returned (.bool false)) w6 by rw[Z.o];exact H.o.ret ⟨rfl,c⟩);clear c;go_wp2_with fail;go_ret;exact r.o
    |wait=>obtain⟨rfl,c⟩:=am;have r:=ad (show dk E M W out R (.panicked [gA]) w6 by rw[Z.o];exact H.o.ret ⟨rfl,c⟩);clear c;go_wp2_with fail;exact⟨rfl,r.o⟩
   ·have Z:=ad (a0.o.t (ae bl));have q1:(D==12)=false:=eS bl;have b5:W5.cell? ⟨E.mb,5,none⟩=some (.int .i64 (S'.work:Int)):=by obtain⟨av,rv,ov,n,_⟩:=H.o.mx;exact tH _ _ 5 _ _ _ n.box
    have f5:W5.frozen? ⟨E.mb,5,none⟩=false:=by obtain⟨av,rv,ov,n,_⟩:=H.o.mx;exact aA n.box
    have i3:(S'.work:Int)≤90000000:=by have:=ay.o.work;omega
    have i4:(0:Int)≤(S'.work:Int):=by omega
    have af:=ad H.o.mx.work;have c8:=ad (H.o.stay af.o.1 af.o.2);have b3:=ad (b2.o.stay af.o.2);have ct:=ad (br.o.1.cO af.o.2.size fun b h1 c=>af.o.2.cO b c h1);have c2:=ad (br.o.2.stay af.o.2);have ek:((bG x.attrs gT).getD []).length≤65536:=by
     cases ha:bG x.attrs gT with
     |none=>exact aH _
     |some v=>refine tW ha ?_;have:=bp.o;obtain⟨k1,p1,t1,a1,l1⟩:=x;rw[sy] at this;exact this.2.2.1
    have a4:=ad ek;have c6:=ad (show x.attrs.length≤1000000 by have:=bp.o;obtain⟨k1,p1,t1,a1,l1⟩:=x;rw[sy] at this;exact this.2.1)
    clear bl ek a0 af;go_upto_region 7 with fail;generalize W5.setCell ⟨E.mb,5,none⟩ (.int .i64 ((S'.work:Int)+1))=W6 at*;clear x0 x1 x2 x3 I b5 f5 H b2 c9 br q1 i3 i4;obtain⟨x0,x1,x2,x3,I⟩:=qX5 (aj b3.o.1) 0 1 2 3 4;have bf:=ad (pU (A:=fun b=>b∉M') D x.place x.text gT (aa:=O) (ka:=X) (ac:=T) (kn:=x.kids.length) (kc:=V) (l:=x.attrs) W6 ct.o c6.o);have aU:=ad (show R=if(ew ((bG x.attrs gT).getD [])).2.2≠0 then eK E.env deep base (l.drop (i+1)) vs S'.step out.length
     else if oz (bt (gr E.h E.t E.fs) (ew ((bG x.attrs gT).getD [])).1).1=true then dJ E.env deep base x.kids vs (S'.step.read (cT (bt (gr E.h E.t E.fs) (ew ((bG x.attrs gT).getD [])).1).2)) out.length
     else eK E.env deep base (l.drop (i+1)) vs (S'.step.read (cT (bt (gr E.h E.t E.fs) (ew ((bG x.attrs gT).getD [])).1).2)) out.length from Z.o)
    have d4:=ad (fun h:(ew ((bG x.attrs gT).getD [])).2.2=0=>As E.env x.attrs h);have a3:Hid ((ew ((bG x.attrs gT).getD [])).2.2=0→(cT (bt (gr E.h E.t E.fs) (ew ((bG x.attrs gT).getD [])).1).2).length≤bV x.attrs):=ad d4.o;have be:=ad (fun h:(ew ((bG x.attrs gT).getD [])).2.2=0=>(At h).2);obtain⟨s,hs⟩:∃s,(bG x.attrs gT).getD []=s:=⟨_,rfl⟩;rw[hs] at bf aU a4 a3 be;have em:∃b,(bG x.attrs gT).isSome=b:=⟨_,rfl⟩;obtain⟨f0,d9⟩:=em;rw[d9] at bf;have bd:=ad (K1 s (by have:=a4.o;omega));have ez:=ad (show s.length≤65536 from a4.o);clear hs d9 d4 Z;go_wp2_with fail;refine bf.o.m ?_;rintro j w7⟨rfl,bi⟩;have a8:=ad (c8.o.next bi);have d6:=ad (b3.o.next bi);have c3:=ad (c2.o.next bi);have bv:=ad (GH w7 s (by have:=a4.o;omega) (F.o.gl.gx.aq.next a8.o.mx.up));obtain⟨Q,hQ⟩:∃Q,ew s=Q:=⟨_,rfl⟩;rw[hQ] at bv aU a3 be bd;obtain⟨G,pl,e⟩:=Q;clear bi x0 x1 x2 x3 I hQ bf c8 b3 c2 ct a4 c6;go_wp2_with fail;refine bv.o.m ?_;rintro j w8⟨v,rfl,bk,hex⟩;obtain⟨B,C,a,w,j,z,rfl⟩:=hex.out.F4;have hA9:=az w8 (.cells (dC B C a (.slice w j z)).toArray 171);have bo:=ad (a8.o.next bk);have d7:=ad ((d6.o.next bk).next hA9);have c4:=ad ((c3.o.next bk).next hA9);have cx:Hid (KX M' (w8.alloc (.cells #[.int .i64 B,.string ⟨C.toArray⟩,.int .i64 a.src,.int .i64 a.bJ,.string ⟨a.name.toArray⟩,.string ⟨a.key.toArray⟩,.string ⟨a.cK.toArray⟩,.bool a.hk,.bool a.hd,.slice w j z] 171)) w8.heap.size (.cells (dC B C a (.slice w j z)).toArray 171)):=ad (rk bo.o.mx (.cells (dC B C a (.slice w j z)).toArray 171));have ao:=ad (bo.o.next hA9);have c0:Hid (dR (fun b=>b∉M') (w8.alloc (.cells #[.int .i64 B,.string ⟨C.toArray⟩,.int .i64 a.src,.int .i64 a.bJ,.string ⟨a.name.toArray⟩,.string ⟨a.key.toArray⟩,.string ⟨a.cK.toArray⟩,.bool a.hk,.bool a.hd,.slice w j z] 171)) G (dY B C a (.slice w j z))):=ad ((jJ (fun b h1 c n=>by have:=(a8.o.mx.mlt b n).2;have c:w7.heap.size≤b:=c;omega) G _ hex.out).next hA9);clear bk hex hA9 a8 d6 c3 bo bv;go_upto_region 9 with fail;generalize w8.alloc (.cells #[.int .i64 B,.string ⟨C.toArray⟩,.int .i64 a.src,.int .i64 a.bJ,.string ⟨a.name.toArray⟩,.string ⟨a.key.toArray⟩,.string ⟨a.cK.toArray⟩,.bool a.hk,.bool a.hd,.slice w j z] 171)=W9 at*;generalize w8.heap.size=eb at*;by_cases he:e=0
    ·subst he;have ap:=ad (aU.o.t (ae (fun h=>h rfl)));have a7:=ad (show∀u∈cT (bt (gr E.h E.t E.fs) G).2,u.2.1.length≤1000000 from fun u hu=>by obtain⟨v,hv,rfl⟩:=qE.1 hu;have:=KY _ G bd.o v hv;show v.key.length≤_;omega)
     have dl:=ad (show cC G≤1000000000 by have:=Jw G;have:=be.o rfl;have h:=a3;have:=ez.o;omega);have a2:=ad (a3.o rfl);have b1:=ad (WH.mk d7.o c4.o cx.o c0.o);obtain⟨A,hA⟩:∃A,bt (gr E.h E.t E.fs) G=A:=⟨_,rfl⟩;have cn:=ad hA;rw[hA] at ap a7 a2;obtain⟨us,ch⟩:∃us,cT A.2=us:=⟨_,rfl⟩;obtain⟨bb,cb⟩:∃bb,oz A.1=bb:=⟨_,rfl⟩;have fb:=ad ch;have el:=ad cb;rw[ch] at ap a7 a2;rw[cb] at ap;have bx:=ad (show bq E.inc (S'.step.read us) (wL x.kids+wL (l.drop (i+1))) from bq.read (bq.step (ay.o.less (by have:=Jy x;have:=a2.o;omega))));have d2:=ad (show S'.step.reads.length+us.length≤100000000 by have:=ay.o.reads;have:=Jy x;have:=a2.o;show S'.reads.length+us.length≤_;omega);obtain⟨L,b6⟩:∃L,S'.step.read us=L:=⟨_,rfl⟩;have ev:=ad b6;rw[b6] at ap bx;clear hA ch cb b6 aU a3 be d7 c4 cx c0 ay a2;go_upto_region 10 with fail;have al:=ax W9 1;have aN:=ad (ao.o.next al);have ab:=ad (b1.o.next al);have co:Hid (Calls Tryz.prog 102 #[dY B C a (.slice w j z),.agg #[.string ⟨E.h.toArray⟩,.string ⟨E.t.toArray⟩,.slice E.fa E.fn E.fc]] (W9.drewN 1) (DT (W9.drewN 1) us)):=ad (by have h:=K2 G (dY B C a (.slice w j z)) ⟨E.h.toArray⟩ ⟨E.t.toArray⟩ E.fa E.fn E.fc E.fs (W9.drewN 1) (F.o.gl.gx.aq.next aN.o.mx.up) ab.o.ex.any (F.o.Vr.below aN.o.mx.up) F.o.Vs (by show E.h.toArray.size≤_;rw[oC];exact F.o.h1) (by show E.t.toArray.size≤_;rw[oC];exact F.o.t1) bd.o dl.o;rw[←fb.o,←cn.o];exact h)
     obtain⟨e0,e1,e2,e3,e4,e5,e6,e7,e8,e9⟩:=aM b1.o.he.1;have b8:W9.cell? ⟨E.mb,8,none⟩=some (.string ⟨E.h.toArray⟩):=by obtain⟨av,rv,ov,n,_⟩:=ao.o.mx;exact tH _ _ 8 _ _ _ n.box
     have b9:W9.cell? ⟨E.mb,9,none⟩=some (.string ⟨E.t.toArray⟩):=by obtain⟨av,rv,ov,n,_⟩:=ao.o.mx;exact tH _ _ 9 _ _ _ n.box
     have a6:W9.cell? ⟨E.mb,10,none⟩=some (.slice E.fa E.fn E.fc):=by obtain⟨av,rv,ov,n,_⟩:=ao.o.mx;exact tH _ _ 10 _ _ _ n.box
     clear al ao b1
     go_cut [] (fun wx=>∃M2,Hid (CH E W M wx M2 L out (bn+1) base dp vs l (.slice (some ⟨kb,ko,none⟩) N kc))∧Hid (WH wx M2 xb eb x O X T V D G B C a w j z))
     case first=>
      go_region_with (first
       |(go_at_call 102;refine co.o.m ?_;rintro j f1⟨va,rfl,ce,b7,d8⟩;obtain⟨ua,uc,rfl⟩:=ce.shape;have c7:=ad (aN.o.next b7);have fi:=ad (ab.o.next b7);have eu:=ad (Jr c7.o.mx ce (fun g hg n=>by have:=d8 g hg;have:=(aN.o.mx.mlt g n).2;omega) a7.o d2.o);clear ce b7 d8)
       |(go_at_call 101;refine eu.o.m ?_;rintro j f2⟨rfl,fk,ci,cd⟩;rw[ev.o] at ci;have Y:=ad (c7.o.stay ci cd);have a5:=ad (fi.o.stay cd);clear ci cd))
      all_goals
       clear e0 e1 e2 e3 e4 e5 e6 e7 e8 e9 b8 b9 a6;go_wp2_with fail
       go_meet
       exact⟨fk,Y,a5⟩
     case rest=>
      obtain⟨M2,Y,a5⟩:=hcut;clear co aN ab e0 e1 e2 e3 e4 e5 e6 e7 e8 e9 b8 b9 a6 a7 d2;have al:=ax wc 1;have a9:=ad (Y.o.next al);have ab:=ad (a5.o.next al);have c1:Hid (Calls Tryz.prog 103 #[dY B C a (.slice w j z),.agg #[.string ⟨E.h.toArray⟩,.string ⟨E.t.toArray⟩,.slice E.fa E.fn E.fc]] (wc.drewN 1) (cN (wc.drewN 1) (.bool bb))):=ad (by have h:=Ud G (dY B C a (.slice w j z)) ⟨E.h.toArray⟩ ⟨E.t.toArray⟩ E.fa E.fn E.fc E.fs (wc.drewN 1) (F.o.gl.gx.aq.next a9.o.mx.up) ab.o.ex.any (F.o.Vr.below a9.o.mx.up) F.o.Vs (by show E.h.toArray.size≤_;rw[oC];exact F.o.h1) (by show E.t.toArray.size≤_;rw[oC];exact F.o.t1) bd.o dl.o;rw[←el.o,←cn.o];exact h)
      obtain⟨e0,e1,e2,e3,e4,e5,e6,e7,e8,e9⟩:=aM a5.o.he.1;have b8:wc.cell? ⟨E.mb,8,none⟩=some (.string ⟨E.h.toArray⟩):=by obtain⟨av,rv,ov,n,_⟩:=Y.o.mx;exact tH _ _ 8 _ _ _ n.box
      have b9:wc.cell? ⟨E.mb,9,none⟩=some (.string ⟨E.t.toArray⟩):=by obtain⟨av,rv,ov,n,_⟩:=Y.o.mx;exact tH _ _ 9 _ _ _ n.box
      have a6:wc.cell? ⟨E.mb,10,none⟩=some (.slice E.fa E.fn E.fc):=by obtain⟨av,rv,ov,n,_⟩:=Y.o.mx;exact tH _ _ 10 _ _ _ n.box
      clear al Y a5;go_upto_region 11 with fail;obtain⟨w9,ft⟩:∃w9,w9=wc:=⟨_,rfl⟩;subst ft
      go_cut [63] (fun fv wx=>fv=.bool bb∧Hid (CH E W M wx M2 L out (bn+1) base dp vs l (.slice (some ⟨kb,ko,none⟩) N kc))∧Hid (WH wx M2 xb eb x O X T V D G B C a w j z))
      case first=>
       go_region_with (go_at_call 103;refine c1.o.m ?_;rintro j f3⟨rfl,ca⟩;have J:=ad (a9.o.next ca);have bg:=ad (ab.o.next ca);clear ca)
       all_goals
        clear e0 e1 e2 e3 e4 e5 e6 e7 e8 e9 b8 b9 a6;go_wp2_with fail
        go_meet
        exact⟨rfl,J,bg⟩
      case rest=>
       obtain⟨rfl,J,bg⟩:=hcut;clear c1 a9 ab e0 e1 e2 e3 e4 e5 e6 e7 e8 e9 b8 b9 a6;cases bb
       ·have K:Hid (eK E.env deep base (l.drop (i+1)) vs L out.length=R):=ad ap.o.symm;have b0:=ad (bx.o.less (w':=wL (l.drop (i+1))) (Nat.le_add_left _ _));go_wp2_with fail
        go_roundw
        case rel=>exact⟨i+1,M2,L,by omega,by go_num,J,K,b0⟩
        case measure=>(simp[intOf]<;>omega)
       ·have K:Hid (R=dJ E.env deep base x.kids vs L out.length):=ad ap.o;have c5:=ad (DS bp.o);have cs:=ad (GC en.o J.o.mx ds.o.2 bg.o.kd c5.o.2 c5.o.1 (bx.o.less (sd _ _)) d0.o vs);obtain⟨q,hq⟩:∃q,dJ E.env deep base x.kids vs L out.length=q:=⟨_,rfl⟩;rw[hq] at cs K;obtain⟨S5,oc⟩:=q;have I:=aj bg.o.hx.1 4;obtain⟨p0,p1,p2,p3,p4,p5,p6,p7⟩:=qX8 (aj J.o.hp.1) 0 1 2 3 4 5 6 7;clear hq;go_wp2_with fail;refine cs.o.m ?_;intro j ck am;clear I p0 p1 p2 p3 p4 p5 p6 p7;cases oc with
        |yes t5=>obtain⟨rfl,c⟩:=am;have r:=ad (show dk E M W out R (.returned (.bool true)) ck by rw[K.o];exact J.o.ret ⟨rfl,c⟩);clear c;go_wp2_with fail;go_ret;exact r.o
        |no=>obtain⟨rfl,c⟩:=am;have r:=ad (show dk E M W out R (.returned (.bool false)) ck by rw[K.o];exact J.o.ret ⟨rfl,c⟩);clear c;go_wp2_with fail;go_ret;exact r.o
        |wait=>obtain⟨rfl,c⟩:=am;have r:=ad (show dk E M W out R (.panicked [gA]) ck by rw[K.o];exact J.o.ret ⟨rfl,c⟩);clear c;go_wp2_with fail;exact⟨rfl,r.o⟩
    ·have q2:=eS he;have K:Hid (eK E.env deep base (l.drop (i+1)) vs S'.step out.length=R):=ad (aU.o.t (ah he)).symm;have b0:Hid (bq E.inc S'.step (wL (l.drop (i+1)))):=ad (bq.step (ay.o.less (by have:=Jy x;omega)));clear he;go_wp2_with fail
     go_roundw
     case rel=>exact⟨i+1,M',S'.step,by omega,by go_num,ao,K,b0⟩
     case measure=>(simp[intOf]<;>omega)
  ·obtain rfl:i=N:=by omega
   have r:=ad (show dk E M W out R (.returned (.bool true)) wr by rw[←bs.o,qA (by rw[dq.o];exact ag _),eK];exact⟨rfl,M',by rw[jm];exact HM.o.mx,HM.o.st⟩)
   go_wp2_with fail;go_ret;exact r.o
theorem gG(p:Bs×aaL)(l:List (Bs×aaL))(q:Bs):assoc (p::l) q=if(p.1==q)=true then some p.2 else assoc l q:=by unfold assoc;rw[uH];cases p.1==q<;>rfl
theorem G3(l:List (Bs×aaL))(k:Bs)(v:aaL)(a:assoc l k=none)(q:Bs):assoc (l++[(k,v)]) q=if(k==q)=true then some v else assoc l q:=by
 induction l with
 |nil=>exact gG (k,v) [] q
 |cons p r c=>
  rw[gG] at a;by_cases b:(p.1==k)=true
  ·rw[ah b] at a;cases a
  ·rw[ae b] at a;rw[di,gG,gG,c a];by_cases hq:(k==q)=true
   ·have:¬(p.1==q)=true:=by rw[←bZ.1 hq];exact b
    rw[ae this,ah hq,ah hq]
   ·rw[ae hq,ae hq]
theorem vm(k:aaM)(v:aaL):∀(es:List MapEntry) (l:List (Bs×aaL)) (i:Nat),es.map (fun e=>(e.key,e.val))=ML l→∀(j:Nat) (w:aaL),Instr.findNow .string (.string k) es i=some (some (j,w))→
 ∃n c e,j=i+n∧es[n]? =some e∧e.key=.string k∧(es.modify n fun e=>{e with key:=.string k,val:=v}).map (fun e=>(e.key,e.val))=ML c∧∀q,assoc c q=if(k.data.toList==q)=true then some v else assoc l q
 |[],_,i,_,j,w,h=>by injection h with h;cases h
 |e::es,[],i,h,_,_,_=>by simp[ML] at h
 |e::es,p::l,i,h,j,w,a=>by
  simp only[ML,kg,Xy,kj] at h;obtain⟨⟨d,A⟩,r⟩:=h;have z:Instr.sameNow .string (.string k) e.key=some (p.1==k.data.toList):=by rw[d];show some (k==(⟨p.1.toArray⟩:aaM))=_;rw[AM];congr 1;rw[gf];simp only[bZ];exact⟨Eq.symm,Eq.symm⟩
  unfold Instr.findNow at a;rw[z] at a;cases b:(p.1==k.data.toList)
  ·rw[b] at a;obtain⟨n,c,s,t,m,u,x,y⟩:=vm k v es l (i+1) r j w a;refine⟨n+1,p::c,s,by omega,by simpa using m,u, ?_,fun q=> ?_⟩
   ·rw[List.modify_succ_cons,kg,x];simp[ML,d,A]
   ·rw[gG,gG,y];by_cases hq:(k.data.toList==q)=true
    ·have:¬(p.1==q)=true:=by rw[←bZ.1 hq,b];exact Bool.false_ne_true
     rw[ae this,ah hq,ah hq]
    ·rw[ae hq,ae hq]
  ·rw[b] at a;injection a with a;injection a with a;injection a with t m;have o:p.1=k.data.toList:=bZ.1 b;refine⟨0,(k.data.toList,v)::l,e,by omega,rfl,by rw[d,o], ?_,fun q=> ?_⟩
   ·rw[List.modify_zero_cons,kg,r];simp[ML]
   ·rw[gG,gG,o];by_cases hq:(k.data.toList==q)=true
    ·rw[ah hq,ah hq]
    ·rw[ae hq,ae hq,ae hq]
theorem map_set{W:aaK}{b:Nat}{l:List (Bs×aaL)}(h:gg W b l)(T e:TypeId)(o:Tryz.prog.underlying T=some (.map 9 e))(k:aaM)(v:aaL):
 ∃W' d,(Instr.mapUpdate T (.map (some b)) (.string k) v).run Tryz.prog W=.ok () W'∧gg W' b d∧(∀q,assoc d q=if(k.data.toList==q)=true then some v else assoc l q)∧QP b W W':=by
 cases m:assoc l k.data.toList with
 |none=>obtain⟨W',a,c,u⟩:=JM h T e o k v m;exact⟨W',_,a,c,G3 l _ v m,u⟩
 |some x=>
  obtain⟨es,clock,i,p⟩:=h;obtain⟨r,a,c⟩:=nM k es.toList l 0 p;rw[m] at c;cases r with
  |none=>cases c
  |some D=>
   obtain⟨j,w⟩:=D;obtain⟨n,d,t,s,E,F,G,H⟩:=vm k v es.toList l 0 p j w a;rw[dH] at s;subst s;have y:=MapKept.run_checkKey (P:=Tryz.prog) (w:=W) u9 (k:=.string k) trivial false 9999;have B:es[j]? =some t:=by rw[←Array.getElem?_toList];exact E
   have C:Instr.sameBits 10000 (.string k) (.string k)=true:=by unfold Instr.sameBits;exact(MapKept.bytes_beq k k).2 rfl
   have A:(Instr.keyThatStays (.string k) (.string k)).run Tryz.prog W=.ok (.string k) W:=by unfold Instr.keyThatStays;rw[C];rfl
   refine⟨W.putObj b (.map (es.modify j fun e=>{e with key:=.string k,val:=v}) clock),d, ?_,⟨_,_,wK ((aB.1 i).1), ?_⟩,H, ?_⟩
   ·unfold Instr.mapUpdate;simp[run_underlying o,MapKept.run_getObj_map i,y,MapKept.run_findKey u9 a,MapKept.run_setObj_map _ i,Result.andThen,World.putObj,B,F,A]
   ·rw[Array.toList_modify];exact G
   ·exact⟨rfl,rfl,rfl,by simp,fun j z=>Xv z⟩
variable{G:Deep}{d:Ending}{b z:Nd}{i:aaK}
theorem GI(l:List (Bs×Bs))(k t q:Bs):Xr (l++[(k,t)]) q=if(k==q)=true then some t else Xr l q:=by unfold Xr;rw[List.reverse_append,List.reverse_singleton,List.singleton_append,uH];cases k==q<;>rfl
theorem MX.map{E:ME}{w:aaK}{M:List Nat}{S:PS}{out:Bs}(H:MX E w M S out):∃l,gg w E.im l∧∀q,assoc l q=(Xr S.inl q).map fun t=>.agg #[.string ⟨t.toArray⟩]:=by obtain⟨av,rv,b,a,_⟩:=H;exact a.inl
theorem MX.Ue{E:ME}{w':aaK}{M:List Nat}{S:PS}{out:Bs}(H:MX E i M S out){l j:List (Bs×aaL)}(o:∀q,assoc l q=(Xr S.inl q).map fun t=>.agg #[.string ⟨t.toArray⟩])(r:gg w' E.im j)(k:aaM)(t:Bs)(p:∀q,assoc j q=if(k.data.toList==q)=true then some (.agg #[.string ⟨t.toArray⟩]) else assoc l q)(a:QP E.im i w'):
 MX E w' M {S with inl:=S.inl++[(k.data.toList,t)]} out∧bC M i M w':=by
 obtain⟨av,rv,m,h,rfl⟩:=H;obtain⟨n1,n2,s⟩:=h.apart;have d:∀v g,v.ownBlock=some g→v∈[av,rv,m]→w'.heap[g]? =i.heap[g]? :=fun v g n c=>a.block g (n2 g (cQ.2 ⟨v,c,n⟩)).2;refine⟨⟨av,rv,m,⟨h.up.t (a.below h.far.2),(a.block _ n1).t h.box,bw h.asked fun g q=>d av g q (by simp),bw h.reads fun g q=>d rv g q (by simp),bw h.lE fun g q=>d m g q (by simp),⟨j,r,fun q=> ?_⟩,h.vW,h.far⟩,rfl⟩,⟨Nat.le_of_eq a.size.symm,fun b n c=>⟨c,a.block b fun e=>c (by rw[e];exact bY _ eF)⟩⟩⟩;rw[p,o];show _=(Xr (S.inl++[(k.data.toList,t)]) q).map _;rw[GI];by_cases hq:(k.data.toList==q)=true
 ·rw[ah hq,ah hq];rfl
 ·rw[ae hq,ae hq]
structure NX (E:ME) (W:aaK) (M0:List Nat) (wx:aaK) (M:List Nat) (S:PS) (out:Bs) (bm:Nat) (base:U) (dp:Nat) (vs:Bool) (k p:Int) (t:Bs) (a:List bQ) (aa:Option Addr) (ac:Nat) (l:List Nd) (ka:Option Addr) (kc:Nat):Prop where
 mx:MX E wx M S out
 st:bC M0 W M wx
 hm:KX M wx bm (.cells #[.pointer (some ⟨E.mb,0,none⟩)] 81)
 hn:KX M wx (bm+1) (.cells (eH k p t (.slice aa a.length ac) (.slice ka l.length kc)).toArray 37)
 hp:KX M wx (bm+1+1) (.cells (zv base dp vs).toArray 109)
 at_:aP (fun b=>b∉M) wx a (.slice aa a.length ac)
 kd:fC (fun b=>b∉M) wx l (.slice ka l.length kc)
section
variable{E:ME}{W wx wy:aaK}{M0 M M':List Nat}{S S':PS}{out out':Bs}{bm:Nat}{base:U}{dp:Nat}{vs:Bool}{k p:Int}{t:Bs}{a:List bQ}{aa:Option Addr}{ac:Nat}{l:List Nd}{ka:Option Addr}{kc:Nat}
theorem NX.stay(h:NX E W M0 wx M S out bm base dp vs k p t a aa ac l ka kc)(i:MX E wy M' S' out')(c:bC M wx M' wy):NX E W M0 wy M' S' out' bm base dp vs k p t a aa ac l ka kc:=
 ⟨i,h.st.t c,h.hm.stay c,h.hn.stay c,h.hp.stay c,h.at_.cO c.size fun b d e=>c.cO b e d,h.kd.stay c⟩
theorem NX.next(h:NX E W M0 wx M S out bm base dp vs k p t a aa ac l ka kc)(b:Below wx.heap.size wx wy):NX E W M0 wy M S out bm base dp vs k p t a aa ac l ka kc:=h.stay (h.mx.next b) (bC.ai b)
theorem Uf(H:MX E W M S out)(q:aP (fun b=>b∉M) W a (.slice aa a.length ac))(r:fC (fun b=>b∉M) W l (.slice ka l.length kc))(A B C:Obj)(m:A=.cells #[.pointer (some ⟨E.mb,0,none⟩)] 81)(n:B=.cells (eH k p t (.slice aa a.length ac) (.slice ka l.length kc)).toArray 37)(o:C=.cells (zv base dp vs).toArray 109):
 NX E W M (((W.alloc A).alloc B).alloc C) M S out W.heap.size base dp vs k p t a aa ac l ka kc:=by
 have c:Below W.heap.size W (((W.alloc A).alloc B).alloc C):=((az W A).alloc (by rw[aO];omega) B).alloc (by rw[aO,aO];omega) C;have d:∀b,W.heap.size≤b→b∉M:=fun b h s=>by have:=(H.mlt b s).2;omega
 have e:=au ((W.alloc A).alloc B) C;rw[aO,aO] at e;subst m n o;exact⟨H.next c,bC.ai c,⟨aG (jX W _ _) _,d _ (ag _)⟩,⟨aG (iT W _ _) _,d _ (fB _)⟩,⟨e,d _ (by omega)⟩,q.cO c.size fun b i j=>⟨i,c.block b j⟩,r.next c⟩
theorem NX.work(h:NX E W M0 wx M S out bm base dp vs k p t a aa ac l ka kc):NX E W M0 (wx.setCell ⟨E.mb,5,none⟩ (.int .i64 ((S.work:Int)+1))) M S.step out bm base dp vs k p t a aa ac l ka kc:=h.stay h.mx.work.1 h.mx.work.2
theorem NX.ret(h:NX E W M0 wx M S out bm base dp vs k p t a aa ac l ka kc){R:PS×Oc}(b:dk E M wx out R d wy):dk E M0 W out R d wy:=dk.pre h.st b
theorem NX.yes(h:NX E W M0 wx M S out bm base dp vs k p t a aa ac l ka kc){R:PS×Oc}(b:R=(S,.yes [])):dk E M0 W out R (.returned (.bool true)) wx:=by subst b;exact⟨rfl,M,by rw[jm];exact h.mx,h.st⟩
theorem NX.vars(h:NX E W M0 wx M S out bm base dp vs k p t a aa ac l ka kc)(o:E.w0.heap.size≤bm+1+1)(r:W.heap.size≤bm)(n:aP (fun b=>b∉M0) W a (.slice aa a.length ac))(q:fC (fun b=>b∉M0) W l (.slice ka l.length kc)):
 NX E W M0 (wx.setCell ⟨bm+1+1,7,none⟩ (.bool true)) M S out bm base dp true k p t a aa ac l ka kc:=by
 have d:ak (bm+1+1) wx (wx.setCell ⟨bm+1+1,7,none⟩ (.bool true)):=(ak.refl _ _).set;have c:=h.st.off (p:=bm+1+1) (by omega) d;refine⟨h.mx.off h.hp.2 o d,c,⟨(d.block _ (aB.1 h.hm.1).1 (by intro e;injection e with e;omega)).t h.hm.1,h.hm.2⟩,⟨(d.block _ (aB.1 h.hn.1).1 (by intro e;injection e with e;omega)).t h.hn.1,h.hn.2⟩,⟨aw (j:=7) h.hp.1,h.hp.2⟩,n.cO c.size fun b i m=>c.cO b m i,q.stay c⟩
end
theorem GJ{E:ME}{M:List Nat}{W:aaK}{out:Bs}{r:PS×Oc}(h:dk E M W out r d i):(∃b,d=.returned (.bool b)∧dk E M W out r (.returned (.bool b)) i)∨(d=.panicked [gA]∧dk E M W out r (.panicked [gA]) i):=by
 obtain⟨S,o⟩:=r;cases o with
 |yes t=>exact .inl ⟨true,h.1,rfl,h.2⟩
 |no=>exact .inl ⟨false,h.1,rfl,h.2⟩
 |wait=>exact .inr ⟨h.1,rfl,h.2⟩
theorem K3{P:fx}{base:U}{l:List Nd}(a:l[0]? =some b)(c:l[1]? =some z)(vs:Bool)(S:PS)(n:Nat):ot P G base l vs S n=Au (bT P G base b vs S n) fun d=>bT P G base z vs d n:=by
 match l,a,c with
 |y0::e::r,a,c=>simp at a c;subst a c;rw[ot];congr 1;try(funext d;rw[qJ])
theorem Ug{l:List Nd}(a:l[0]? =some b)(c:l[1]? =some z):wN b+wN z≤wL l:=by
 match l,a,c with
 |y0::d::r,a,c=>simp at a c;subst a c;rw[wL,wL];omega
theorem Rw{E:ME}{base:U}{dp:Nat}(HE:QQ E)(HD:Ju E G dp)(HG:Rv E.env G)(HK:DM E.env G base)(hb:DO base)(b6:dp≤1000)(k p:Int)(t:Bs)(a:List bQ)(l:List Nd)(ok:sy (.mk k p t a l))(hN:∀x∈l,kl E G base dp x∧∀y∈x.kids,kl E G base dp y):kl E G base dp (.mk k p t a l):=by
 intro W M S out vs v a6 cb hw ho;obtain⟨aa,ac,ka,kc,rfl,bJ,b8⟩:=cb.shape;have be:Hid (aP (fun b=>b∉M) W a (.slice aa a.length ac)):=ad bJ;have bl:Hid (fC (fun b=>b∉M) W l (.slice ka l.length kc)):=ad b8;have bi:=ad (show E.w0.heap.size≤W.heap.size from a6.up.size);have HT:=ad (Uf (base:=base) (dp:=dp) (vs:=vs) (k:=k) (p:=p) (t:=t) a6 be.o bl.o _ _ _ rfl rfl rfl);obtain⟨R,hR⟩:∃R,bT E.env G base (.mk k p t a l) vs S out.length=R:=⟨_,rfl⟩;rw[hR];rw[xy] at hR;have D:=ad hR.symm;rw[sy] at ok;have H:=ad ok;have br:=ad (show bq E.inc S (t.length+3+bV a+wL l) by rw[wN] at hw;exact hw);have al:=ad (show bq E.inc S.step (t.length+2+bV a+wL l) from bq.step (br.o.less (by omega)));have ap:=ad HE;have cn:=ad HD;have bk:=ad HG;have a0:=ad HK;have bf:=ad hb;have co:=ad b6;have aq:=ad hN;have ab:=ad ho;have i3:(S.work:Int)≤90000000:=by have:=br.o.work;omega
 have i4:(0:Int)≤(S.work:Int):=by omega
 show Calls Tryz.prog 25 #[.pointer (some ⟨E.mb,0,none⟩),wZ k p t (.slice aa a.length ac) (.slice ka l.length kc),Tp base dp vs] W (dk E M W out R);clear a6 cb hw ho bJ b8 hR ok HE HD HG HK hb b6 hN;go_enter Tryz.func25,Tryz.ntmps25;go_upto_region 1 with fail;generalize((W.alloc (.cells #[.pointer (some ⟨E.mb,0,none⟩)] 81)).alloc (.cells #[.int .i64 k,.int .i64 p,.string ⟨t.toArray⟩,.slice aa a.length ac,.slice ka l.length kc] 37)).alloc (.cells (zv base dp vs).toArray 109)=W1 at*;have F:=aj HT.o.hm.1 0;have b5:W1.cell? ⟨E.mb,5,none⟩=some (.int .i64 (S.work:Int)):=by obtain⟨av,rv,ov,hm,_⟩:=HT.o.mx;exact tH _ _ 5 _ _ _ hm.box
 have f5:W1.frozen? ⟨E.mb,5,none⟩=false:=by obtain⟨av,rv,ov,hm,_⟩:=HT.o.mx;exact aA hm.box
 have i:=ad HT.o.work;have a7:=ad (show E.w0.heap.size≤W.heap.size+1+1∧W.heap.size≤W.heap.size by have:=bi.o;omega);generalize b3:W.heap.size=bm at HT i a7 F⊢;have bg:Hid (E.w0.heap.size≤bm+1+1∧W.heap.size≤bm):=ad ⟨a7.o.1,Nat.le_of_eq b3⟩;clear b3 a7 bi;go_upto_region 2 with fail;generalize W1.setCell ⟨E.mb,5,none⟩ (.int .i64 ((S.work:Int)+1))=W2 at*;clear F b5 f5 HT i3 i4;have F:=aj i.o.hm.1 0;obtain⟨x0,x1,x2,x3,x4⟩:=qX5 (aj i.o.hn.1) 0 1 2 3 4;obtain⟨K,L,O,T,V,X,Y,Z⟩:=qX8 (aj i.o.hp.1) 0 1 2 3 4 5 6 7;by_cases c:k=2
 ·subst c;have e:=ad (D.o.t (ah rfl));have C:=ad (Ro ap.o i.o.mx t (by have:=H.o.1;omega) (by have:=al.o.reads;omega) (by have:=ab.o;omega) base dp vs);obtain⟨q,hq⟩:∃q,lS E.env vs t S.step out.length=q:=⟨_,rfl⟩;rw[hq] at C e;obtain⟨S1,oc⟩:=q;clear hq D;go_wp2_with fail;refine C.o.m ?_;intro en z r;have r:=r.Xa;clear F x0 x1 x2 x3 x4 K L O T V X Y Z C;cases oc with
  |yes t5=>obtain⟨rfl,c⟩:=r;have d:=ad (show dk E M W out R (.returned (.bool true)) z by rw[e.o];exact i.o.ret ⟨rfl,c⟩);clear c;go_wp2_with fail;go_ret;exact d.o
  |no=>obtain⟨rfl,c⟩:=r;have d:=ad (show dk E M W out R (.returned (.bool false)) z by rw[e.o];exact i.o.ret ⟨rfl,c⟩);clear c;go_wp2_with fail;go_ret;exact d.o
  |wait=>obtain⟨rfl,c⟩:=r;have d:=ad (show dk E M W out R (.panicked [gA]) z by rw[e.o];exact i.o.ret ⟨rfl,c⟩);clear c;go_wp2_with fail;exact⟨rfl,d.o⟩
 by_cases h4:k=4
 ·subst h4;have e:Hid (R=(lV base a t S.step,.yes [])):=ad D.o;have a3:=ad (pU (A:=fun b=>b∉M) 4 p t kO (aa:=aa) (ka:=ka) (ac:=ac) (kn:=l.length) (kc:=kc) (l:=a) W2 i.o.at_ H.o.2.1);have ch:((bG a kO).getD []).length≤65536:=by
   cases ha:bG a kO with
   |none=>exact aH _
   |some v=>exact tW ha H.o.2.2.1
  have a9:=ad ch;have a1:=ad (show R=(if(eW base ((bG a kO).getD [])).2=0 then({S.step with inl:=S.step.inl++[(nE (eW base ((bG a kO).getD [])).1,t)]}:PS) else S.step,.yes []) from e.o);obtain⟨s,hs⟩:∃s,(bG a kO).getD []=s:=⟨_,rfl⟩;obtain⟨d1,b7⟩:∃b,(bG a kO).isSome=b:=⟨_,rfl⟩;rw[hs] at a3 a9 a1;rw[b7] at a3;clear hs b7 ch D e;go_wp2_with fail;refine a3.o.m ?_;rintro en w3⟨rfl,b0⟩;have I:=ad (i.o.next b0);have a8:=ad (DP base s w3 (ap.o.gl.gx.next I.o.mx.up) bf.o (by have:=a9.o;omega));have bo:=ad (fun h:(eW base s).2=0=>pZ ((eC _).1 (Jd h)));obtain⟨Q,hQ⟩:∃Q,eW base s=Q:=⟨_,rfl⟩;rw[hQ] at a8 a1 bo;obtain⟨u,e2⟩:=Q;clear b0 hQ a9 F x0 x1 x2 x3 x4 K L O T V X Y Z a3;obtain⟨K,L,O,T,V,X,Y,Z⟩:=qX8 (aj I.o.hp.1) 0 1 2 3 4 5 6 7;go_wp2_with fail;refine a8.o.m ?_;rintro en w4⟨rfl,bb⟩;clear K L O T V X Y Z a8;have hA5:=az w4 (.cells (qz u).toArray 23);have af:Hid (KX M (w4.alloc (.cells #[.string ⟨u.scheme.toArray⟩,.string ⟨u.host.toArray⟩,.int .i64 u.port,.string ⟨u.path.toArray⟩,.string ⟨u.query.toArray⟩,.bool u.hq] 23)) w4.heap.size (.cells (qz u).toArray 23)):=ad (rk (I.o.next bb).mx (.cells (qz u).toArray 23));have ay:Hid (NX E W M (w4.alloc (.cells #[.string ⟨u.scheme.toArray⟩,.string ⟨u.host.toArray⟩,.int .i64 u.port,.string ⟨u.path.toArray⟩,.string ⟨u.query.toArray⟩,.bool u.hq] 23)) M S.step out bm base dp vs 4 p t a aa ac l ka kc):=ad ((I.o.next bb).next hA5);clear bb hA5;go_upto_region 8 with fail;generalize w4.alloc (.cells #[.string ⟨u.scheme.toArray⟩,.string ⟨u.host.toArray⟩,.int .i64 u.port,.string ⟨u.path.toArray⟩,.string ⟨u.query.toArray⟩,.bool u.hq] 23)=W5 at*;generalize w4.heap.size=ub at*;by_cases he:e2=0
  ·subst he;have cK:=ad (show R=({S.step with inl:=S.step.inl++[(nE u,t)]},.yes []) by rw[a1.o];rfl);go_upto_region 9 with fail;have J:=ad (ay.o.next (ax W5 1));have dq:=ad (af.o.next (ax W5 1));have cx:=ad (wa u (W5.drewN 1) (ap.o.gl.gx.next J.o.mx.up) (bo.o rfl));have F:=aj ay.o.hm.1 0;have x2:=aj ay.o.hn.1 2;have u0:W5.cell? ⟨ub,0,none⟩=some (.string ⟨u.scheme.toArray⟩):=tH _ _ 0 _ _ _ af.o.1;have u1:W5.cell? ⟨ub,1,none⟩=some (.string ⟨u.host.toArray⟩):=tH _ _ 1 _ _ _ af.o.1;have u2:W5.cell? ⟨ub,2,none⟩=some (.int .i64 u.port):=tH _ _ 2 _ _ _ af.o.1;have u3:W5.cell? ⟨ub,3,none⟩=some (.string ⟨u.path.toArray⟩):=tH _ _ 3 _ _ _ af.o.1;have u4:W5.cell? ⟨ub,4,none⟩=some (.string ⟨u.query.toArray⟩):=tH _ _ 4 _ _ _ af.o.1;have u5:W5.cell? ⟨ub,5,none⟩=some (.bool u.hq):=tH _ _ 5 _ _ _ af.o.1;have c1:=ay.o.mx.Tq
   go_region_with (go_at_call 34;refine cx.o.m ?_;rintro en z⟨rfl,b1⟩;have B:=ad (J.o.next b1);obtain⟨l6,b9,bv⟩:=B.o.mx.map;obtain⟨w7,l7,c7,ca,bx,b2⟩:=map_set b9 82 _ Vt ⟨(nE u).toArray⟩ (.agg #[.string ⟨t.toArray⟩]);have bn:=ad (B.o.mx.Ue bv ca _ t bx b2);have cO:=ad (B.o.stay bn.o.1 bn.o.2);have H7:=ad (cO.o.yes cK.o);have n0:=tH _ _ 0 _ _ _ B.o.hm.1;have n2:=tH _ _ 2 _ _ _ B.o.hn.1;have c8:=B.o.mx.Tq;clear b1 b9 bv ca bx b2)
   all_goals
    clear F x2 u0 u1 u2 u3 u4 u5 c1 n0 n2 c8 c7;go_wp2_with fail;go_ret;exact H7.o
  ·have q2:=eS he;have d:=ad (ay.o.yes (show R=(S.step,.yes []) by rw[a1.o];show((if e2=0 then _ else S.step:PS),Oc.yes [])=_;rw[ae he]));clear he;go_wp2_with fail;go_ret;exact d.o
 by_cases h5:k=5
 ·subst h5;have d:=ad (i.o.yes (D.o:R=(S.step,.yes [])));go_wp2_with fail;go_ret;exact d.o
 by_cases h6:k=6
 ·subst h6;have d:=ad (i.o.yes (D.o:R=(S.step,.yes [])));go_wp2_with fail;go_ret;exact d.o
 by_cases h3:k=3
 ·subst h3;have e:Hid (R=oQ E.env G base a S.step out.length):=ad D.o;have C:=ad (GF ap.o cn.o bk.o bf.o co.o i.o.mx (k:=3) (p:=p) (t:=t) (ka:=ka) (kn:=l.length) (kc:=kc) i.o.at_ H.o.2.1 H.o.2.2.1 (al.o.less (by omega)) ab.o vs);obtain⟨q,hq⟩:∃q,oQ E.env G base a S.step out.length=q:=⟨_,rfl⟩;rw[hq] at C e;obtain⟨S1,oc⟩:=q;clear hq D;go_wp2_with fail;refine C.o.m ?_;intro en z r;have r:=r.Xa;clear F x0 x1 x2 x3 x4 K L O T V X Y Z C;cases oc with
  |yes t5=>obtain⟨rfl,c⟩:=r;have d:=ad (show dk E M W out R (.returned (.bool true)) z by rw[e.o];exact i.o.ret ⟨rfl,c⟩);clear c;go_wp2_with fail;go_ret;exact d.o
  |no=>obtain⟨rfl,c⟩:=r;have d:=ad (show dk E M W out R (.returned (.bool false)) z by rw[e.o];exact i.o.ret ⟨rfl,c⟩);clear c;go_wp2_with fail;go_ret;exact d.o
  |wait=>obtain⟨rfl,c⟩:=r;have d:=ad (show dk E M W out R (.panicked [gA]) z by rw[e.o];exact i.o.ret ⟨rfl,c⟩);clear c;go_wp2_with fail;exact⟨rfl,d.o⟩
 by_cases h7:k=7
 ·subst h7;have e:Hid (R=ot E.env G base l vs S.step out.length):=ad D.o;have c6:2≤l.length:=H.o.2.2.2.2.1 rfl;obtain⟨y0,ao⟩:∃y,l[0]? =some y:=⟨_,cA (by omega)⟩;obtain⟨y1,aN⟩:∃y,l[1]? =some y:=⟨_,cA (by omega)⟩;have a2:=ad (e.o.t (K3 ao aN vs S.step out.length));have bs:=ad (show bq E.inc S.step (wN y0+wN y1) from al.o.less (by have:=Ug ao aN;omega));have ct:=ad (H.o.2.2.2.2.2.get (eQ ao));have ck:=ad (aq.o y0 (eQ ao)).1;have cl:=ad (aq.o y1 (eQ aN)).1;have c0:=ad aN;have J:=ad (i.o.next (ax W2 1));obtain⟨kb,ko,xa,xc,xk,xd,rfl,c2,cc,b4⟩:=J.o.kd.get ao;have aU:=ad (xu J.o.mx (by have:=ab.o;omega) _ _ (fun vs w=>cP Tryz.func50 (by kernel_rfl) rfl vs w) (NZ (n:=ny) (av:=undef) J.o.mx ck.o (kn:=l.length) (kc:=kc) (by omega) J.o.hm.1 (tH _ _ 4 _ _ _ J.o.hn.1) cc (fun j v hv=>by have:=b4 j v hv;rwa [Nat.zero_mul,qF] at this) J.o.hp.1 (bs.o.less (sd _ _)) ab.o));have bp:=ad (a0.o.room y0 ct.o vs S.step out.length _ bs.o);obtain⟨q,hq⟩:∃q,bT E.env G base y0 vs S.step out.length=q:=⟨_,rfl⟩;rw[hq] at aU a2 bp;have ds:(1:Int)<(l.length:Int):=by omega
  have d0:1<l.length:=by omega
  obtain⟨N,hN⟩:∃N,l.length=N:=⟨_,rfl⟩;obtain⟨S1,oc⟩:=q;clear hq D e ao aN c2 cc b4 c6;go_upto_region 18 with fail;cases oc with
  |yes t5=>
   have ai:Hid (R=(S1,.yes t5)):=ad a2.o;first|go_region_with (go_at_call 51;refine aU.o.m ?_;rintro en z⟨rfl,h6⟩;have H6:=ad (show dk E M W out R (.returned (.bool true)) z by rw[ai.o];exact J.o.ret ⟨rfl,h6⟩);clear h6)|fail
   all_goals
    clear F x0 x1 x2 x3 x4 K L O T V X Y Z;go_wp2_with fail;go_ret;exact H6.o
  |wait=>
   have ai:Hid (R=(S1,.wait)):=ad a2.o
   go_region_dies
   all_goals
    refine aU.o.m ?_;rintro en z⟨rfl,h6⟩;exact⟨rfl,by rw[ai.o];exact J.o.ret (R:=(S1,.wait)) ⟨rfl,h6⟩⟩
  |no=>
   have ai:Hid (R=bT E.env G base y1 vs S1 out.length):=ad a2.o
   go_region_with (first
    |(go_at_call 51;refine aU.o.m ?_;rintro en z⟨rfl,M6,ci,ce⟩;have B:=ad (J.o.stay ci ce);obtain⟨d2,d3,ya,yc,yk,yd,bd,c3,cd,am⟩:=B.o.kd.get c0.o;injection bd with bd;injection bd with c4 c5;subst c4;subst c5;have cs:=ad (cl.o z M6 S1 out vs _ B.o.mx cd bp.o ab.o);have y0:=am 0 _ rfl;have y1:=am 1 _ rfl;have y2:=am 2 _ rfl;have y3:=am 3 _ rfl;have y4:=am 4 _ rfl;have n0:=tH _ _ 0 _ _ _ B.o.hm.1;have n4:=tH _ _ 4 _ _ _ B.o.hn.1;have r0:=tH _ _ 0 _ _ _ B.o.hp.1;have r1:=tH _ _ 1 _ _ _ B.o.hp.1;have r2:=tH _ _ 2 _ _ _ B.o.hp.1;have r3:=tH _ _ 3 _ _ _ B.o.hp.1;have r4:=tH _ _ 4 _ _ _ B.o.hp.1;have r5:=tH _ _ 5 _ _ _ B.o.hp.1;have r6:=tH _ _ 6 _ _ _ B.o.hp.1;have r7:=tH _ _ 7 _ _ _ B.o.hp.1;clear ci ce c3 cd am)
    |(go_at_call 25;go_must (refine cs.o.m ?_;intro en w7 r;refine(GJ r).elim ?_ ?_;rotate_left;(focus (rintro⟨rfl,h7⟩;refine⟨rfl, ?_⟩;rw[ai.o];exact B.o.ret h7));rintro⟨b,rfl,h7⟩;have H7:=ad (show dk E M W out R (.returned (.bool b)) w7 by rw[ai.o];exact B.o.ret h7);clear h7 r)))
   all_goals
    clear F x0 x1 x2 x3 x4 K L O T V X Y Z;go_wp2_with fail;go_ret;exact H7.o
 by_cases a4:k=10
 ·subst a4;have e:Hid (R=eK E.env G base l vs S.step out.length):=ad D.o;have C:=ad (K0 ap.o bk.o a0.o i.o.mx aq.o (k:=10) (p:=p) (t:=t) (aa:=aa) (an:=a.length) (ac:=ac) rfl i.o.kd H.o.2.2.2.2.2 H.o.2.2.2.1 (al.o.less (by omega)) ab.o vs);obtain⟨q,hq⟩:∃q,eK E.env G base l vs S.step out.length=q:=⟨_,rfl⟩;rw[hq] at C e;obtain⟨S1,oc⟩:=q;clear hq D;go_wp2_with fail;refine C.o.m ?_;intro en z r;clear F x0 x1 x2 x3 x4 K L O T V X Y Z C;cases oc with
  |yes t5=>obtain⟨rfl,c⟩:=r;have d:=ad (show dk E M W out R (.returned (.bool true)) z by rw[e.o];exact i.o.ret ⟨rfl,c⟩);clear c;go_wp2_with fail;go_ret;exact d.o
  |no=>obtain⟨rfl,c⟩:=r;have d:=ad (show dk E M W out R (.returned (.bool false)) z by rw[e.o];exact i.o.ret ⟨rfl,c⟩);clear c;go_wp2_with fail;go_ret;exact d.o
  |wait=>obtain⟨rfl,c⟩:=r;have d:=ad (show dk E M W out R (.panicked [gA]) z by rw[e.o];exact i.o.ret ⟨rfl,c⟩);clear c;go_wp2_with fail;exact⟨rfl,d.o⟩
 by_cases a5:k=13
 ·subst a5;have e:Hid (R=dJ E.env G base l (vs||true) S.step out.length):=ad D.o;rw[Bool.or_true] at e;have I:=ad (i.o.vars bg.o.1 bg.o.2 be.o bl.o);have f7:W2.frozen? ⟨bm+1+1,7,none⟩=false:=aA i.o.hp.1;have C:=ad (GC a0.o I.o.mx (fun x hx=>(aq.o x hx).1) I.o.kd H.o.2.2.2.2.2 H.o.2.2.2.1 (al.o.less (by omega)) ab.o true);obtain⟨q,hq⟩:∃q,dJ E.env G base l true S.step out.length=q:=⟨_,rfl⟩;rw[hq] at C e;obtain⟨S1,oc⟩:=q;clear hq D;go_upto_region 23 with fail;generalize W2.setCell ⟨bm+1+1,7,none⟩ (.bool true)=W3 at*;clear F x0 x1 x2 x3 x4 K L O T V X Y Z f7;have F:=aj I.o.hm.1 0;have x4:=aj I.o.hn.1 4;obtain⟨K,L,O,T,V,X,Y,Z⟩:=qX8 (aj I.o.hp.1) 0 1 2 3 4 5 6 7;go_wp2_with fail;refine C.o.m ?_;intro en z r;clear F x4 K L O T V X Y Z C;cases oc with
  |yes t5=>obtain⟨rfl,c⟩:=r;have d:=ad (show dk E M W out R (.returned (.bool true)) z by rw[e.o];exact I.o.ret ⟨rfl,c⟩);clear c;go_wp2_with fail;go_ret;exact d.o
  |no=>obtain⟨rfl,c⟩:=r;have d:=ad (show dk E M W out R (.returned (.bool false)) z by rw[e.o];exact I.o.ret ⟨rfl,c⟩);clear c;go_wp2_with fail;go_ret;exact d.o
  |wait=>obtain⟨rfl,c⟩:=r;have d:=ad (show dk E M W out R (.panicked [gA]) z by rw[e.o];exact I.o.ret ⟨rfl,c⟩);clear c;go_wp2_with fail;exact⟨rfl,d.o⟩
 have e:Hid (R=dJ E.env G base l vs S.step out.length):=ad (by have h:=D.o;rw[ae c,ae h4,ae (by rintro(h|h);exact h5 h;exact h6 h),ae h3,ae h7,ae a4,cL a5,Bool.or_false] at h;exact h)
 have C:=ad (GC a0.o i.o.mx (fun x hx=>(aq.o x hx).1) i.o.kd H.o.2.2.2.2.2 H.o.2.2.2.1 (al.o.less (by omega)) ab.o vs);obtain⟨q,hq⟩:∃q,dJ E.env G base l vs S.step out.length=q:=⟨_,rfl⟩;rw[hq] at C e;obtain⟨S1,oc⟩:=q;have q2:=eS c;have q4:=eS h4;have q5:=eS h5;have q6:=eS h6;have q3:=eS h3;have q7:=eS h7;have c9:=eS a4;have dl:=eS a5;clear hq D c h3 h4 h5 h6 h7 a4 a5;go_wp2_with fail;refine C.o.m ?_;intro en z r;clear F x0 x1 x2 x3 x4 K L O T V X Y Z C q2 q3 q4 q5 q6 q7 c9 dl;cases oc with
 |yes t5=>obtain⟨rfl,c⟩:=r;have d:=ad (show dk E M W out R (.returned (.bool true)) z by rw[e.o];exact i.o.ret ⟨rfl,c⟩);clear c;go_wp2_with fail;go_ret;exact d.o
 |no=>obtain⟨rfl,c⟩:=r;have d:=ad (show dk E M W out R (.returned (.bool false)) z by rw[e.o];exact i.o.ret ⟨rfl,c⟩);clear c;go_wp2_with fail;go_ret;exact d.o
 |wait=>obtain⟨rfl,c⟩:=r;have d:=ad (show dk E M W out R (.panicked [gA]) z by rw[e.o];exact i.o.ret ⟨rfl,c⟩);clear c;go_wp2_with fail;exact⟨rfl,d.o⟩
