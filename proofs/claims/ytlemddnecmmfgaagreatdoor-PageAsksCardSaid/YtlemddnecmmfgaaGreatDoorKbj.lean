/- A statement whose order is open. -/
import Derived.Test.YtlemddnecmmfgaaGreatDoorKbi
set_option linter.unusedVariables false
set_option maxRecDepth 100000
set_option maxHeartbeats 4000000
namespace Go.Proofs.YtlemddnecmmfgaaGreatDoor
open Go.RowKit
variable{n:ME}{d:Nat}{b:Nd}{a q:aaK}
structure WK (w:aaK) (h t:Bs) (fs:List dQ) (fa:Option Addr) (fn fc:Nat) (ga:Option Addr) (fZ:List j5):Prop where
 gl:GL w
 Vr:aZ w (.slice fa fn fc) fs
 Vs:rX fs
 t1:t.length≤100000
 h1:h.length≤100002000
 Vc:fZ.length≤100000000
 Vx:∀(i:Nat) (g:j5),fZ[i]? =some g→∃b o,ga=some ⟨b,o,none⟩∧b<w.heap.size∧w.cell? ⟨b,o+i*3,none⟩=some (.string ⟨g.body.toArray⟩)∧w.cell? ⟨b,o+i*3+1,none⟩=some (.bool g.F3)∧w.cell? ⟨b,o+i*3+2,none⟩=some (.bool g.ok)
 Vd:∀g∈fZ,g.body.length≤1000000
def mO(n:Int)(m:Nat):Nat:=(max 0 (min n m)).toNat
theorem Jz(n:Int)(m:Nat):mO n m≤m:=by unfold mO;omega
theorem Zy(n:Int)(m:Nat):((mO n m:Nat):Int)=max 0 (min n m):=by unfold mO;omega
theorem N5(w:aaK)(A B C D F:Obj):(((((w.alloc A).alloc B).alloc C).alloc D).alloc F).heap[w.heap.size]? =some A∧(((((w.alloc A).alloc B).alloc C).alloc D).alloc F).heap[w.heap.size+1]? =some B∧(((((w.alloc A).alloc B).alloc C).alloc D).alloc F).heap[w.heap.size+1+1]? =some C∧
 (((((w.alloc A).alloc B).alloc C).alloc D).alloc F).heap[w.heap.size+1+1+1]? =some D∧(((((w.alloc A).alloc B).alloc C).alloc D).alloc F).heap[w.heap.size+1+1+1+1]? =some F∧Below w.heap.size w (((((w.alloc A).alloc B).alloc C).alloc D).alloc F):=by
 have e:(w.alloc A).heap.size=w.heap.size+1:=aO _ _;have a1:=au w A;have k:=az w A;generalize w.alloc A=a at*;have h:(a.alloc B).heap.size=w.heap.size+1+1:=by rw[aO,e]
 have a2:(a.alloc B).heap[w.heap.size+1]? =some B:=by rw[←e];exact au a B
 have a1:=aG a1 B;have l:Below w.heap.size w (a.alloc B):=k.alloc (by omega) B;generalize a.alloc B=b at*;have i:(b.alloc C).heap.size=w.heap.size+1+1+1:=by rw[aO,h]
 have a3:(b.alloc C).heap[w.heap.size+1+1]? =some C:=by rw[←h];exact au b C
 have a1:=aG a1 C;have a2:=aG a2 C;have m:Below w.heap.size w (b.alloc C):=l.alloc (by omega) C;generalize b.alloc C=c at*;have o:(c.alloc D).heap.size=w.heap.size+1+1+1+1:=by rw[aO,i]
 have a4:(c.alloc D).heap[w.heap.size+1+1+1]? =some D:=by rw[←i];exact au c D
 have a1:=aG a1 D;have a2:=aG a2 D;have a3:=aG a3 D;have n:Below w.heap.size w (c.alloc D):=m.alloc (by omega) D;generalize c.alloc D=d at*;have j:(d.alloc F).heap[w.heap.size+1+1+1+1]? =some F:=by rw[←o];exact au d F
 exact⟨aG a1 F,aG a2 F,aG a3 F,aG a4 F,j,n.alloc (by omega) F⟩
theorem bz{O:Obj}(h:a.heap[d]? =some O)(c:Below a.heap.size a q):q.heap[d]? =some O:=(c.block _ (aB.1 h).1).t h
theorem kS{T:TypeId}{v0 v1 v2 k i e c:aaL}(u0 u1 u2 u3 u4 u5 u6:aaL)(h:a.heap[d]? =some (.cells #[v0,v1,v2,k,i,e,c] T)):
 (((((((a.setCell ⟨d,0,none⟩ u0).setCell ⟨d,1,none⟩ u1).setCell ⟨d,2,none⟩ u2).setCell ⟨d,3,none⟩ u3).setCell ⟨d,4,none⟩ u4).setCell ⟨d,5,none⟩ u5).setCell ⟨d,6,none⟩ u6).heap[d]? =some (.cells #[u0,u1,u2,u3,u4,u5,u6] T):=by
 have r:(a.setCell ⟨d,0,none⟩ u0).heap[d]? =some (.cells #[u0,v1,v2,k,i,e,c] T):=aw (j:=0) h;generalize a.setCell ⟨d,0,none⟩ u0=l at*;have s:(l.setCell ⟨d,1,none⟩ u1).heap[d]? =some (.cells #[u0,u1,v2,k,i,e,c] T):=aw (j:=1) r;generalize l.setCell ⟨d,1,none⟩ u1=m at*;have t:(m.setCell ⟨d,2,none⟩ u2).heap[d]? =some (.cells #[u0,u1,u2,k,i,e,c] T):=aw (j:=2) s;generalize m.setCell ⟨d,2,none⟩ u2=n at*;have u:(n.setCell ⟨d,3,none⟩ u3).heap[d]? =some (.cells #[u0,u1,u2,u3,i,e,c] T):=aw (j:=3) t;generalize n.setCell ⟨d,3,none⟩ u3=o at*;have w:(o.setCell ⟨d,4,none⟩ u4).heap[d]? =some (.cells #[u0,u1,u2,u3,u4,e,c] T):=aw (j:=4) u;generalize o.setCell ⟨d,4,none⟩ u4=p at*;have x:(p.setCell ⟨d,5,none⟩ u5).heap[d]? =some (.cells #[u0,u1,u2,u3,u4,u5,c] T):=aw (j:=5) w;generalize p.setCell ⟨d,5,none⟩ u5=q at*;have y:(q.setCell ⟨d,6,none⟩ u6).heap[d]? =some (.cells #[u0,u1,u2,u3,u4,u5,u6] T):=aw (j:=6) x;exact y
theorem jy(W:aaK)(b:Nat)(u0 u1 u2 u3 u4 u5 u6:aaL):ak b W (((((((W.setCell ⟨b,0,none⟩ u0).setCell ⟨b,1,none⟩ u1).setCell ⟨b,2,none⟩ u2).setCell ⟨b,3,none⟩ u3).setCell ⟨b,4,none⟩ u4).setCell ⟨b,5,none⟩ u5).setCell ⟨b,6,none⟩ u6):=(((((((ak.refl b W).set).set).set).set).set).set).set
theorem ja{fn:Func}{tmps:Array aaL}{c:Nat}{v0 v1 v2 e i j k:aaL}(h:fn.results=#[.cell c 44])(m:tmps.getD c undef=.pointer (some ⟨d,0,none⟩))(l:a.heap[d]? =some (.cells #[v0,v1,v2,e,i,j,k] 44)):
 (results fn tmps).run Tryz.prog a=.ok (.agg #[v0,v1,v2,e,i,j,k]) a:=by
 obtain⟨o,p,q,r,s,t,u⟩:=qX7 (aj l) 0 1 2 3 4 5 6;have n:tmps[c]?.getD undef=.pointer (some ⟨d,0,none⟩):=by rw[←m];simp
 simp[results,h,go_sem,n,o,p,q,r,s,t,u]
theorem BT.all{M:List Nat}{r:PS×Oc}{j:Ending}(h:BT n M a [] r j q):∃b ok d out,bC M a b q∧j=.returned (.bool d)∧MZ n q b ok r.1 out∧N6 r=⟨bif ok then out else[],ok,d,r.1.asked,r.1.aU,r.1.work,r.1.reads⟩:=by
 obtain⟨S,o⟩:=r;obtain⟨b,i,h⟩:=h;cases o with
 |yes t=>exact⟨b,true,true,_,i,h.1,h.2,rfl⟩
 |no=>obtain⟨c,g,e⟩:=h;exact⟨b,false,true,_,i,c,e,rfl⟩
 |wait=>obtain⟨c,g,e⟩:=h;exact⟨b,false,false,_,i,c,e,rfl⟩
theorem KZ.aN{ok:Bool}{S:PS}{out:Bs}{av rv c:aaL}(H:KZ n a ok S out av rv c)(d:ak n.mb a q):
 q.ownsRow n.w0.heap.size 23 6 av S.asked.length (nB S.asked)∧q.ownsRow n.w0.heap.size 9 1 rv S.reads.length (cM S.reads)∧q.ownsRow n.w0.heap.size 5 1 c out.length (da out)∧Below n.w0.heap.size n.w0 q:=by
 obtain⟨n1,n2,p,r⟩:=fF.1 H.vW;obtain⟨l,m,o⟩:=n2 n.mb (.inl rfl);have b:∀v:aaL,v.ownBlock≠some n.mb→∀g,v.ownBlock=some g→g<a.heap.size→q.heap[g]? =a.heap[g]? :=fun v k g i j=>d.block g j (by intro e;injection e with e;exact k (e▸i));exact⟨bw H.asked fun g h=>b av l g h (H.asked.lt g h).2,bw H.reads fun g h=>b rv m g h (H.reads.lt g h).2,bw H.lE fun g h=>b c o g h (H.lE.lt g h).2,H.up.t (d.below H.far H.up.size)⟩
abbrev Vy(E:ME)(o:Bs)(ok d:Bool)(S:PS)(av rv a:aaL):List aaL:=[.string ⟨o.toArray⟩,.bool ok,.bool d,av,.int .i64 S.aU,.int .i64 S.work,rv,a,.string ⟨E.h.toArray⟩,.string ⟨E.t.toArray⟩,.slice E.fa E.fn E.fc,.int .i64 E.inc,.int .i64 E.dep,.slice E.ga E.fZ.length E.gc,.map (some E.im)]
theorem K4(P:fx)(d:Nat)(base:U)(h:¬xe b=0):qK P d base b=⟨[],false,true,[],0,0,[]⟩:=by unfold qK;rw[ae h]
theorem N7(P:fx)(d:Nat)(base:U)(h:xe b=0):qK P d base b=N6 (bT P (rl P d) base b false N8 0):=by unfold qK;rw[ah h]
theorem Av(n:Nd)(v:aaL)(base:U)(h t:Bs)(fs:List dQ)(F:Option Addr)(fn G:Nat)(S:Option Addr)(Y:Nat)(fZ:List j5)(c0 c5:Bs)(ca:Option Addr)(cn cc:Nat)(c1 c2 u s:Int)(w:aaK)(HI:WK w h t fs F fn G S fZ)(hb:DO base)(A:Nat→Prop)(a7:fu A w n v)(ce:MH n)(bJ:sy n)(ci:wN n≤20000000):
 Calls Tryz.prog 9 #[v,uV base,.agg #[.string ⟨h.toArray⟩,.string ⟨t.toArray⟩,.slice F fn G],.agg #[.string ⟨c0.toArray⟩,.int .i64 c1,.int .i64 c2,.int .i64 u,.int .i64 s,.string ⟨c5.toArray⟩,.slice ca cn cc],.slice S fZ.length Y] w (qb w (qK ⟨h,t,fs,mO u 64,fZ⟩ (mO s 8) base n)):=by
 obtain⟨aa,ac,ka,kc,rfl,-,-⟩:=a7.shape;obtain⟨R,hR⟩:∃R,qK ⟨h,t,fs,mO u 64,fZ⟩ (mO s 8) base n=R:=⟨_,rfl⟩;rw[hR];have HR:=ad hR.symm;have D:=ad HI;have ck:=ad hb;have bd:=ad a7;have c7:=ad ce;have cK:=ad bJ;have bo:=ad ci;clear hR HI hb a7 ce bJ ci;go_enter Tryz.func9,Tryz.ntmps9;go_upto_region 1 with fail;have B:=ad (N5 w (.cells #[.int .i64 n.kind,.int .i64 n.place,.string ⟨n.text.toArray⟩,.slice aa n.attrs.length ac,.slice ka n.kids.length kc] 37) (.cells #[.string ⟨base.scheme.toArray⟩,.string ⟨base.host.toArray⟩,.int .i64 base.port,.string ⟨base.path.toArray⟩,.string ⟨base.query.toArray⟩,.bool base.hq] 23) (.cells #[.string ⟨h.toArray⟩,.string ⟨t.toArray⟩,.slice F fn G] 47) (.cells #[.string ⟨c0.toArray⟩,.int .i64 c1,.int .i64 c2,.int .i64 u,.int .i64 s,.string ⟨c5.toArray⟩,.slice ca cn cc] 50) (.cells #[.string ⟨#[]⟩,.bool false,.bool false,.slice none 0 0,.int .i64 0,.int .i64 0,.slice none 0 0] 44));generalize(((((w.alloc (.cells #[.int .i64 n.kind,.int .i64 n.place,.string ⟨n.text.toArray⟩,.slice aa n.attrs.length ac,.slice ka n.kids.length kc] 37)).alloc (.cells #[.string ⟨base.scheme.toArray⟩,.string ⟨base.host.toArray⟩,.int .i64 base.port,.string ⟨base.path.toArray⟩,.string ⟨base.query.toArray⟩,.bool base.hq] 23)).alloc (.cells #[.string ⟨h.toArray⟩,.string ⟨t.toArray⟩,.slice F fn G] 47)).alloc (.cells #[.string ⟨c0.toArray⟩,.int .i64 c1,.int .i64 c2,.int .i64 u,.int .i64 s,.string ⟨c5.toArray⟩,.slice ca cn cc] 50)).alloc (.cells #[.string ⟨#[]⟩,.bool false,.bool false,.slice none 0 0,.int .i64 0,.int .i64 0,.slice none 0 0] 44))=W5 at*;have ap:=ad (Gc n c7.o A W5 _ (D.o.gl.gx.aq.next B.o.2.2.2.2.2) (bd.o.next B.o.2.2.2.2.2));obtain⟨x0,x1,x2,x3,x4⟩:=qX5 (aj B.o.1) 0 1 2 3 4;obtain⟨e,he⟩:∃e,xe n=e:=⟨_,rfl⟩;have HE:=ad he;rw[he] at ap;clear he;go_wp2_with fail;refine ap.o.m ?_;rintro en a⟨rfl,T⟩;have ab:=ad (B.o.2.2.2.2.2.t (T.m B.o.2.2.2.2.2.size));have p:=ad (And.intro (bz B.o.1 T) (And.intro (bz B.o.2.1 T) (And.intro (bz B.o.2.2.1 T) (And.intro (bz B.o.2.2.2.1 T) (bz B.o.2.2.2.2.1 T)))));clear T B x0 x1 x2 x3 x4 ap;by_cases h0:e=0
 ·subst h0;obtain⟨v0,v1,v2⟩:=qX3 (aj p.o.2.2.1) 0 1 2;obtain⟨k3,k4⟩:=qX2 (aj p.o.2.2.2.1) 3 4;have dl:=@run_makeMap Tryz.prog;go_upto_region 4 with fail;have hA8:Below a.heap.size a ((a.alloc (.map #[] 0)).alloc (.cells #[.string ⟨#[]⟩,.bool false,.bool false,.slice none 0 0,.int .i64 0,.int .i64 0,.slice none 0 0,.slice none 0 0,.string ⟨h.toArray⟩,.string ⟨t.toArray⟩,.slice F fn G,.int .i64 (max 0 (min u 64)),.int .i64 (max 0 (min s 8)),.slice S fZ.length Y,.map (some a.heap.size)] 85)):=(az a _).alloc (by rw[aO];omega) _;have a5:=iT a (.map #[] 0) (.cells #[.string ⟨#[]⟩,.bool false,.bool false,.slice none 0 0,.int .i64 0,.int .i64 0,.slice none 0 0,.slice none 0 0,.string ⟨h.toArray⟩,.string ⟨t.toArray⟩,.slice F fn G,.int .i64 (max 0 (min u 64)),.int .i64 (max 0 (min s 8)),.slice S fZ.length Y,.map (some a.heap.size)] 85);have bv:=(Aw a).next (az (a.alloc (.map #[] 0)) (.cells #[.string ⟨#[]⟩,.bool false,.bool false,.slice none 0 0,.int .i64 0,.int .i64 0,.slice none 0 0,.slice none 0 0,.string ⟨h.toArray⟩,.string ⟨t.toArray⟩,.slice F fn G,.int .i64 (max 0 (min u 64)),.int .i64 (max 0 (min s 8)),.slice S fZ.length Y,.map (some a.heap.size)] 85))
  generalize(a.alloc (.map #[] 0)).alloc (.cells #[.string ⟨#[]⟩,.bool false,.bool false,.slice none 0 0,.int .i64 0,.int .i64 0,.slice none 0 0,.slice none 0 0,.string ⟨h.toArray⟩,.string ⟨t.toArray⟩,.slice F fn G,.int .i64 (max 0 (min u 64)),.int .i64 (max 0 (min s 8)),.slice S fZ.length Y,.map (some a.heap.size)] 85)=W8 at*;have Z:=ad (And.intro (bz p.o.1 hA8) (And.intro (bz p.o.2.1 hA8) (bz p.o.2.2.2.2 hA8)));have ao:=ad (ab.o.t (hA8.m ab.o.size));have dp:=(aB.1 p.o.2.2.2.2).1;have a2:=ab.o.size;obtain⟨E,M⟩:∃E:ME,E=⟨w,a.heap.size+1,a.heap.size,h,t,fs,F,fn,G,mO u 64,mO s 8,S,Y,fZ⟩:=⟨_,rfl⟩;have ay:=ad (show QQ E by rw[M];exact⟨D.o.gl,D.o.Vr,D.o.Vs,D.o.t1,D.o.h1,Jz _ _,Jz _ _,D.o.Vc,D.o.Vx,D.o.Vd⟩);have e1:max 0 (min u 64)=((mO u 64:Nat):Int):=by unfold mO;omega
  have e2:max 0 (min s 8)=((mO s 8:Nat):Int):=by unfold mO;omega
  rw[e1,e2] at a5;clear e1 e2;have bx:MX E W8 [a.heap.size+1,a.heap.size] N8 []:=by rw[M];exact⟨.slice none 0 0,.slice none 0 0,.slice none 0 0,⟨ao.o,a5,jO _ _ _ _,jO _ _ _ _,jO _ _ _ _,⟨[],bv,fun k=>rfl⟩,fF.2 ⟨by show a.heap.size+1≠a.heap.size;omega,fun g _=>⟨by simp[Value.ownBlock],by simp[Value.ownBlock],by simp[Value.ownBlock]⟩,fun g h=>by simp[Value.ownBlock] at h,fun g h=>by simp[Value.ownBlock] at h⟩,⟨by show w.heap.size≤a.heap.size+1;omega,a2⟩⟩,rfl⟩
  have cs:=ad bx;have cl:=ad M;have cx:=ad (show w.heap.size+1+1+1+1∉[a.heap.size+1,a.heap.size] from fun H=>by
   rcases bL.1 H with e|H
   ·omega
   ·have e:=fj.1 H;omega)
  clear bx hA8 a5 bv v0 v1 v2 k3 k4 dl;have a6:E.mb=a.heap.size+1:=by rw[M]
  have ch:E.w0=w:=by rw[M]
  have br:E.env=⟨h,t,fs,mO u 64,fZ⟩:=by rw[M];rfl
  have bp:0+mO s 8=E.dep:=by rw[M];exact dH _
  have c4:=ad (show bq E.inc N8 (wN n) from⟨by have:=ay.o.i1;have:=bo.o;show 0+wN n+(E.inc-0)*ie≤_;unfold ie;omega,by have:=ay.o.i1;have:=bo.o;show 0+wN n+(E.inc-0)*ie≤_;unfold ie;omega,fun x hx=>by(cases hx),ag _,aH _⟩);have bs:∀b∈[a.heap.size+1,a.heap.size],a.heap.size≤b:=fun b H=>by
   rcases bL.1 H with e|H
   ·omega
   ·have e:=fj.1 H;omega
  have ct:=ad (eD (A':=fun b=>b∉[a.heap.size+1,a.heap.size]) ao.o.size (fun b h1 h2=>⟨fun H=>by have:=bs b H;have:=a2;omega,ao.o.block b h2⟩) n _ bd.o);have a8:=Ui cs.o (N3 ay.o (mO s 8) 0 bp base ck.o n cK.o) ct.o c4.o (aH _);rw[a6,br] at a8;have bk:=ad a8;have bf:=ad (HR.o.t (N7 _ _ _ HE.o));obtain⟨q,hq⟩:∃q,bT ⟨h,t,fs,mO u 64,fZ⟩ (rl ⟨h,t,fs,mO u 64,fZ⟩ (mO s 8)) base n false N8 0=q:=⟨_,rfl⟩;have bl:Hid (Calls Tryz.prog 24 #[.pointer (some ⟨a.heap.size+1,0,none⟩),.func (.func 25) #[.pointer (some ⟨a.heap.size+1,0,none⟩)] #[],wZ n.kind n.place n.text (.slice aa n.attrs.length ac) (.slice ka n.kids.length kc),uV base] W8 (BT E [a.heap.size+1,a.heap.size] W8 [] q)):=ad (by rw[←hq];exact bk.o);rw[hq] at bf;obtain⟨c,oc⟩:=q;have al:=ad a6;have bn:=ad ch;have co:=ad (show w.heap.size+1+1+1+1<W8.heap.size from(aB.1 Z.o.2.2).1);have bg:=ad (show w.heap.size≤w.heap.size+1+1+1+1 by omega);obtain⟨x0,x1,x2,x3,x4⟩:=qX5 (aj Z.o.1) 0 1 2 3 4;obtain⟨u0,u1,u2,u3,u4,u5⟩:=qX6 (aj Z.o.2.1) 0 1 2 3 4 5;clear M a6 ch br bp bs a8 hq bk cl a2 dp;generalize a.heap.size+1=C at*;generalize w.heap.size+1+1+1+1=l at*;go_wp2_with fail;refine bl.o.m ?_;intro en w9 cb;obtain⟨M9,ok,d,o1,cd,rfl,⟨av,rv,ov,af,a3⟩,b9⟩:=cb.all;obtain⟨I,J,rfl⟩:=aX af.asked;obtain⟨K,L,rfl⟩:=aX af.reads;have bi:=ad (bf.o.t b9);have an:=cd.cO l co.o cx.o;have a0:=ad (show w9.heap[l]? =some (.cells #[.string ⟨#[]⟩,.bool false,.bool false,.slice none 0 0,.int .i64 0,.int .i64 0,.slice none 0 0] 44) from an.2.t Z.o.2.2);have am:=ad (show∀g,((Value.slice I c.asked.length J).ownBlock=some g∨(Value.slice K c.reads.length L).ownBlock=some g)→l≠g from fun g y e=>an.1 (by rw[a3,e];exact bY _ (bY _ (vP.2 (y.elim .inl fun h=>.inr (.inl h))))));have be:=ad (show l≠C from fun e=>an.1 (by rw[a3,e,←al.o];exact eF));have bb:=ad af;have a4:=af.box;rw[al.o] at a4;have ai:=ad a4;clear x0 x1 x2 x3 x4 u0 u1 u2 u3 u4 u5 cd af a3 b9 an cb a4 bl Z;have b2:=aj ai.o 2;have Q:w9.frozen? ⟨C,2,none⟩=false:=aA ai.o;go_upto_region 5 with fail;clear b2 Q;have X:Hid ((w9.setCell ⟨C,2,none⟩ (.bool d)).heap[C]? =some (.cells (Vy E [] ok d c (.slice I c.asked.length J) (.slice K c.reads.length L) ov).toArray 85)):=ad (aw (j:=2) ai.o);have a1:=ad ((ak.refl C w9).set (j:=2) (v:=.bool d));generalize w9.setCell ⟨C,2,none⟩ (.bool d)=z at*;have i:=ad (show z.heap[l]? =_ from(a1.o.block l (aB.1 a0.o).1 (by intro e;injection e with e;exact be.o e)).t a0.o);have V:=bb.o.aN (by rw[al.o];exact a1.o);rw[bn.o] at V;have r:=ad V;have b1:=aj X.o 1;clear V ai a0;cases ok
  ·clear b1;obtain⟨b0,b1,b2,b3,b4,b5,b6⟩:=qX7 (aj X.o) 0 1 2 3 4 5 6;obtain⟨r0,r1,r2,r3,r4,r5,r6⟩:=qX7 (aj i.o) 0 1 2 3 4 5 6;have O:z.frozen? ⟨l,0,none⟩=false:=aA i.o;have f1:z.frozen? ⟨l,1,none⟩=false:=aA i.o;have Q:z.frozen? ⟨l,2,none⟩=false:=aA i.o;have f3:z.frozen? ⟨l,3,none⟩=false:=aA i.o;have f4:z.frozen? ⟨l,4,none⟩=false:=aA i.o;have f5:z.frozen? ⟨l,5,none⟩=false:=aA i.o;have f6:z.frozen? ⟨l,6,none⟩=false:=aA i.o;go_wp2_with fail;clear b0 b1 b2 b3 b4 b5 b6 r0 r1 r2 r3 r4 r5 r6 O f1 Q f3 f4 f5 f6;have a9:=kS (.string ⟨List.toArray []⟩) (.bool false) (.bool d) (.slice I c.asked.length J) (.int .i64 c.aU) (.int .i64 c.work) (.slice K c.reads.length L) i.o;have W:=jy z l (.string ⟨List.toArray []⟩) (.bool false) (.bool d) (.slice I c.asked.length J) (.int .i64 c.aU) (.int .i64 c.work) (.slice K c.reads.length L);refine aD (ja rfl rfl a9) rfl ?_;rw[bi.o];exact⟨_,rfl,⟨(.slice I c.asked.length J),(.slice K c.reads.length L),rfl,bw r.o.1 fun g y=>W.block g (r.o.1.lt g y).2 (by intro e;injection e with e;exact(am.o g (.inl y)) e.symm),bw r.o.2.1 fun g y=>W.block g (r.o.2.1.lt g y).2 (by intro e;injection e with e;exact(am.o g (.inr y)) e.symm)⟩,r.o.2.2.2.t (W.below bg.o r.o.2.2.2.size)⟩
  ·have c9:=MP r.o.2.2.1;obtain⟨b7,b0⟩:=qX2 (aj X.o) 7 0;have O:z.frozen? ⟨C,0,none⟩=false:=aA X.o;go_upto_region 7 with fail;have c3:Hid ((z.setCell ⟨C,0,none⟩ (.string ⟨o1.toArray⟩)).heap[C]? =some (.cells (Vy E o1 true d c (.slice I c.asked.length J) (.slice K c.reads.length L) ov).toArray 85)):=ad (aw (j:=0) X.o);have bm:=ad ((ak.refl C z).set (j:=0) (v:=.string ⟨o1.toArray⟩));clear b7 b0 O b1 c9 X;generalize z.setCell ⟨C,0,none⟩ (.string ⟨o1.toArray⟩)=N at*;have b8:=(bm.o.block l (aB.1 i.o).1 (by intro e;injection e with e;exact be.o e)).t i.o;clear i;have i:=ad b8;have V:=bb.o.aN (by rw[al.o];exact a1.o.t bm.o);rw[bn.o] at V;clear r b8;have r:=ad V;clear V;obtain⟨b0,b1,b2,b3,b4,b5,b6⟩:=qX7 (aj c3.o) 0 1 2 3 4 5 6;obtain⟨r0,r1,r2,r3,r4,r5,r6⟩:=qX7 (aj i.o) 0 1 2 3 4 5 6;have O:N.frozen? ⟨l,0,none⟩=false:=aA i.o;have f1:N.frozen? ⟨l,1,none⟩=false:=aA i.o;have Q:N.frozen? ⟨l,2,none⟩=false:=aA i.o;have f3:N.frozen? ⟨l,3,none⟩=false:=aA i.o;have f4:N.frozen? ⟨l,4,none⟩=false:=aA i.o;have f5:N.frozen? ⟨l,5,none⟩=false:=aA i.o;have f6:N.frozen? ⟨l,6,none⟩=false:=aA i.o;go_wp2_with fail;clear b0 b1 b2 b3 b4 b5 b6 r0 r1 r2 r3 r4 r5 r6 O f1 Q f3 f4 f5 f6;have a9:=kS (.string ⟨List.toArray o1⟩) (.bool true) (.bool d) (.slice I c.asked.length J) (.int .i64 c.aU) (.int .i64 c.work) (.slice K c.reads.length L) i.o;have W:=jy N l (.string ⟨List.toArray o1⟩) (.bool true) (.bool d) (.slice I c.asked.length J) (.int .i64 c.aU) (.int .i64 c.work) (.slice K c.reads.length L);refine aD (ja rfl rfl a9) rfl ?_;rw[bi.o];exact⟨_,rfl,⟨(.slice I c.asked.length J),(.slice K c.reads.length L),rfl,bw r.o.1 fun g y=>W.block g (r.o.1.lt g y).2 (by intro e;injection e with e;exact(am.o g (.inl y)) e.symm),bw r.o.2.1 fun g y=>W.block g (r.o.2.1.lt g y).2 (by intro e;injection e with e;exact(am.o g (.inr y)) e.symm)⟩,r.o.2.2.2.t (W.below bg.o r.o.2.2.2.size)⟩
 ·have q0:=eS h0;have i:=ad (HR.o.t (K4 _ _ _ (fun h=>h0 (HE.o.symm.t h))));obtain⟨r0,r1,r2,r3,r4,r5,r6⟩:=qX7 (aj p.o.2.2.2.2) 0 1 2 3 4 5 6;have O:a.frozen? ⟨w.heap.size+1+1+1+1,0,none⟩=false:=aA p.o.2.2.2.2;have f1:a.frozen? ⟨w.heap.size+1+1+1+1,1,none⟩=false:=aA p.o.2.2.2.2;have Q:a.frozen? ⟨w.heap.size+1+1+1+1,2,none⟩=false:=aA p.o.2.2.2.2;have f3:a.frozen? ⟨w.heap.size+1+1+1+1,3,none⟩=false:=aA p.o.2.2.2.2;have f4:a.frozen? ⟨w.heap.size+1+1+1+1,4,none⟩=false:=aA p.o.2.2.2.2;have f5:a.frozen? ⟨w.heap.size+1+1+1+1,5,none⟩=false:=aA p.o.2.2.2.2;have f6:a.frozen? ⟨w.heap.size+1+1+1+1,6,none⟩=false:=aA p.o.2.2.2.2;clear h0;go_wp2_with fail;clear r0 r1 r2 r3 r4 r5 r6 O f1 Q f3 f4 f5 f6;have c6:=ad (kS (.string ⟨#[]⟩) (.bool false) (.bool true) (.slice none 0 0) (.int .i64 0) (.int .i64 0) (.slice none 0 0) p.o.2.2.2.2);have c8:=ad (jy a (w.heap.size+1+1+1+1) (.string ⟨#[]⟩) (.bool false) (.bool true) (.slice none 0 0) (.int .i64 0) (.int .i64 0) (.slice none 0 0));refine aD (ja rfl rfl c6.o) rfl ?_;rw[i.o];exact⟨_,rfl,⟨_,_,rfl,jO _ _ _ _,jO _ _ _ _⟩,ab.o.t (c8.o.below (by omega) ab.o.size)⟩
variable{u:List dQ}{b:Nat}{a:World}
def BX(w:World)(h t:ByteArray)(fs:List dQ)(e:Ending)(w':World):Prop:=
 ∃a b,e=.returned (.agg #[.string h,.string t,.slice a fs.length b])∧qV w' w.heap.size (.slice a fs.length b) fs∧Below w.heap.size w w'
theorem mP{base b j:Nat}{v x:Value}(h:qV a base v u)(i:b<base):qV (a.setCell ⟨b,j,none⟩ x) base v u:=by have c:a.grownBy (a.setCell ⟨b,j,none⟩ x) (some b):=⟨rfl,rfl,rfl,by rw[show(a.setCell ⟨b,j,none⟩ x).heap.size=a.heap.size by simp[World.setCell]];exact ag _,fun k _ d=>Below.heap_setCell a ⟨b,j,none⟩ x k (fun e=>d (by rw[e]))⟩;refine h.kept c (.inr fun e=> ?_);have:=(h.lt b e).1;omega
theorem Ax{b2:Nat}{v:Value}(h:qV a b v u)(d:b2≤b):qV a b2 v u:=by
 refine⟨h.1, ?_⟩;rcases h.2 with h|⟨g,cap,c,j,e,i⟩
 ·exact .inl h
 ·exact .inr ⟨g,cap,c,j,bP d e,i⟩
theorem Ur{W0 d:World}{c:Option Addr}{h t:ByteArray}{n o q:Value}(i:qV d W0.drew.heap.size (.slice c (([]:List dQ).length+u.length) b) ([]++u))(l:Below W0.heap.size W0 d)(s:W0.heap.size=a.heap.size+1+1)(e:Below a.heap.size a W0)
 (n2:d.heap[a.heap.size+1]? =some (.cells #[n,o,q] 47)):
 ((((d.setCell ⟨a.heap.size+1,0,none⟩ (.string h)).setCell ⟨a.heap.size+1,1,none⟩ (.string t)).setCell ⟨a.heap.size+1,2,none⟩ (.slice c u.length b)).cell? ⟨a.heap.size+1,0,none⟩=some (.string h)∧
 (((d.setCell ⟨a.heap.size+1,0,none⟩ (.string h)).setCell ⟨a.heap.size+1,1,none⟩ (.string t)).setCell ⟨a.heap.size+1,2,none⟩ (.slice c u.length b)).cell? ⟨a.heap.size+1,1,none⟩=some (.string t)∧
 (((d.setCell ⟨a.heap.size+1,0,none⟩ (.string h)).setCell ⟨a.heap.size+1,1,none⟩ (.string t)).setCell ⟨a.heap.size+1,2,none⟩ (.slice c u.length b)).cell? ⟨a.heap.size+1,2,none⟩=some (.slice c u.length b))∧
 BX a h t u (.returned (.agg #[.string h,.string t,.slice c u.length b])) (((d.setCell ⟨a.heap.size+1,0,none⟩ (.string h)).setCell ⟨a.heap.size+1,1,none⟩ (.string t)).setCell ⟨a.heap.size+1,2,none⟩ (.slice c u.length b)):=by
 rw[kK,show([]:List dQ).length+u.length=u.length by simp] at i;have r:=aw (j:=2) (v:=.slice c u.length b) (aw (j:=1) (v:=.string t) (aw (j:=0) (v:=.string h) n2));refine⟨⟨cell_of_row _ _ 0 _ _ _ r,cell_of_row _ _ 1 _ _ _ r,cell_of_row _ _ 2 _ _ _ r⟩,c,b,rfl,Ax (mP (mP (mP i ?_) ?_) ?_) ?_, ?_⟩
 ·show _<W0.heap.size;omega
 ·show _<W0.heap.size;omega
 ·show _<W0.heap.size;omega
 ·show _≤W0.heap.size;omega
 ·have k:=e.t (l.m e.size);exact((k.setCell (p:=⟨a.heap.size+1,0,none⟩) (by show a.heap.size≤a.heap.size+1;omega) _).setCell (p:=⟨a.heap.size+1,1,none⟩) (by show a.heap.size≤a.heap.size+1;omega) _).setCell (p:=⟨a.heap.size+1,2,none⟩) (by show a.heap.size≤a.heap.size+1;omega) _
theorem Ry(m t l h:ByteArray)(o:Int)(a:Option Addr)(n c:Nat)(fs:List dQ)(w:World)(hF:aZ w (.slice a n c) fs)(V:fs.length≤1000):
 Calls Tryz.prog 16 #[.agg #[.string m,.string t,.int .i64 o,.slice a n c,.string l],.string h] w (BX w h t fs):=by
 have I:([]:List dQ).length+fs.length≤100000:=by simp;omega
 have r:=Lib.hid (jG w (.cells #[.string m,.string t,.int .i64 o,.slice a n c,.string l] 26) (.cells #[.string ⟨#[]⟩,.string ⟨#[]⟩,.slice none 0 0] 47));have q:=Lib.hid hF;clear hF;go_enter Tryz.func16,Tryz.ntmps16;go_wp2_with fail;generalize(w.alloc (.cells #[.string m,.string t,.int .i64 o,.slice a n c,.string l] 26)).alloc (.cells #[.string ⟨#[]⟩,.string ⟨#[]⟩,.slice none 0 0] 47)=W0 at*;obtain⟨n1,n2,J,i⟩:=r.out;have x:aZ W0.drew (.slice a n c) fs:=(q.out.below i).below (Below.refl _ _).drew;have T:w.heap.size≤W0.drew.heap.size:=i.size;have B:=Lib.hid x;clear q r x;have s:=cell_of_row W0 _ 1 _ _ _ n1;have u:=cell_of_row W0 _ 3 _ _ _ n1;have R:=Lib.hid n1;have C:=Lib.hid n2;have A:=Lib.hid i;clear n1 n2 i;go_region_law (
  (refine Kn (by rfl) _ _ (by rfl) _ _ fs [] W0.drew.heap.size (by rfl) (by rfl) B.out (MS _ _) I (ag _) ?_;intro D E d z y;have j:Below W0.heap.size W0 d:=(Below.refl W0.heap.size W0).drew.t (C0 y (fun k e=>by cases e) (ag _));have d1:=((eR j).1 _ 1 (aV s)).t s;have S:=((eR j).1 _ 3 (aV u)).t u;have b:=(j.block (w.heap.size+1) (by omega)).t C.out;have F:=cell_of_row d _ 0 _ _ _ b;have G:=cell_of_row d _ 1 _ _ _ b;have H:=cell_of_row d _ 2 _ _ _ b;have K:=frozen_of_row d _ 0 _ _ b;have L:=frozen_of_row d _ 1 _ _ b;have M:=frozen_of_row d _ 2 _ _ b))
 all_goals
  have p:=Lib.hid (Ur (h:=h) (t:=t) z j J A.out b);clear b F G H K L M z y;obtain⟨N,O,Q⟩:=p.out.1;go_wp2;refine bodyPost_ret (v:=.agg #[.string h,.string t,.slice D fs.length E]) ?_ rfl p.out.2;simp[results,Tryz.f16,go_sem,N,O,Q]
abbrev km(u:U)(m t:ByteArray)(h:Int)(a:Option Addr)(n c:Nat)(b host:ByteArray)(e d:Int):List Value:=[.string ⟨u.scheme.toArray⟩,.string ⟨u.host.toArray⟩,.int .i64 u.port,.string ⟨u.path.toArray⟩,.string ⟨u.query.toArray⟩,.bool u.hq,.string m,.string t,.int .i64 h,.slice a n c,.string b,.string host,.int .i64 e,.int .i64 d]
def Xz(w:World)(a:Option Addr)(fZ:List j5):Prop:=∀(i:Nat) (g:j5),fZ[i]? =some g→∃b o,a=some ⟨b,o,none⟩∧b<w.heap.size∧w.cell? ⟨b,o+i*3,none⟩=some (.string ⟨g.body.toArray⟩)∧w.cell? ⟨b,o+i*3+1,none⟩=some (.bool g.F3)∧w.cell? ⟨b,o+i*3+2,none⟩=some (.bool g.ok)
def ZQ(fZ:List j5):Prop:=fZ.length≤140737488351232∧∀g∈fZ,g.body.length≤140737488351232
theorem Xz.below{w w':World}{c:Option Addr}{fZ:List j5}(h:Xz w c fZ)(e:Below w.heap.size w w'):Xz w' c fZ:=fun i g q=>by obtain⟨b,o,l,d,m,n,p⟩:=h i g q;have k:∀j,w'.cell? ⟨b,j,none⟩=w.cell? ⟨b,j,none⟩:=fun j=>World.cell?_of_block (a:=⟨b,j,none⟩) (e.block b d);exact⟨b,o,l,ej d e.size,(k _).t m,(k _).t n,(k _).t p⟩
theorem Xz.take{w:World}{b:Option Addr}{fZ:List j5}(h:Xz w b fZ)(k:Nat):Xz w b (fZ.take k):=fun i g a=>h i g (by rw[List.getElem?_take] at a;split at a;exact a;cases a)
variable{l:Array aaL}{e:Func}{d j:Nat}{a:aaK}{i R s:aaL}
theorem Oa{T:TypeId}(u0 u1 u2:aaL)(h:a.heap[d]? =some (.cells #[i,R,s] T)):
 (((a.setCell ⟨d,0,none⟩ u0).setCell ⟨d,1,none⟩ u1).setCell ⟨d,2,none⟩ u2).heap[d]? =some (.cells #[u0,u1,u2] T):=by
 have e:(a.setCell ⟨d,0,none⟩ u0).heap[d]? =some (.cells #[u0,R,s] T):=aw (j:=0) h;generalize a.setCell ⟨d,0,none⟩ u0=c at*;have k:(c.setCell ⟨d,1,none⟩ u1).heap[d]? =some (.cells #[u0,u1,s] T):=aw (j:=1) e;generalize c.setCell ⟨d,1,none⟩ u1=l at*;exact aw (j:=2) k
theorem BU(h:e.results=#[.cell j 47])(k:l.getD j undef=.pointer (some ⟨d,0,none⟩))(c:a.heap[d]? =some (.cells #[i,R,s] 47)):
 (results e l).run Tryz.prog a=.ok (.agg #[i,R,s]) a:=by
 obtain⟨n,o,p⟩:=qX3 (aj c) 0 1 2;have m:l[j]?.getD undef=.pointer (some ⟨d,0,none⟩):=by rw[←k];simp
 simp[results,h,go_sem,m,n,o,p]
theorem BV{c k m n:aaL}(h:e.results=#[.cell j 50])(p:l.getD j undef=.pointer (some ⟨d,0,none⟩))(o:a.heap[d]? =some (.cells #[i,R,s,c,k,m,n] 50)):
 (results e l).run Tryz.prog a=.ok (.agg #[i,R,s,c,k,m,n]) a:=by
 obtain⟨r,t,u,w,x,y,z⟩:=qX7 (aj o) 0 1 2 3 4 5 6;have q:l[j]?.getD undef=.pointer (some ⟨d,0,none⟩):=by rw[←p];simp
 simp[results,h,go_sem,q,r,t,u,w,x,y,z]
theorem xA(u:U)(d t:aaM)(h:Int)(a:Option Addr)(n c:Nat)(b host:aaM)(j i:Int)(fs:List dQ)(w:aaK)(hF:aZ w (.slice a n c) fs)(C:fs.length≤1000):
 Calls Tryz.prog 10 #[.agg (km u d t h a n c b host j i).toArray] w (BX w host t fs):=by
 have A:=jX w (.cells (km u d t h a n c b host j i).toArray 28) (.cells #[.string ⟨#[]⟩,.string ⟨#[]⟩,.slice none 0 0] 47);have B:=iT w (.cells (km u d t h a n c b host j i).toArray 28) (.cells #[.string ⟨#[]⟩,.string ⟨#[]⟩,.slice none 0 0] 47);have p:Below w.heap.size w ((w.alloc (.cells (km u d t h a n c b host j i).toArray 28)).alloc (.cells #[.string ⟨#[]⟩,.string ⟨#[]⟩,.slice none 0 0] 47)):=(az w _).alloc (by rw[aO];omega) _;have E:((w.alloc (.cells (km u d t h a n c b host j i).toArray 28)).alloc (.cells #[.string ⟨#[]⟩,.string ⟨#[]⟩,.slice none 0 0] 47)).heap.size=w.heap.size+1+1:=by rw[aO,aO]
 have F:=ad A;have G:=ad B;have s:=ad p;have I:=ad E;have J:=ad (Ry d t b host h a n c fs _ (hF.below p) C);clear A B p E hF C;go_enter Tryz.func10,Tryz.ntmps10;go_upto_region 1 with fail;generalize(w.alloc (.cells (km u d t h a n c b host j i).toArray 28)).alloc (.cells #[.string ⟨#[]⟩,.string ⟨#[]⟩,.slice none 0 0] 47)=W at*;obtain⟨M,N,O,Q,K,L⟩:=qX6 (aj F.o) 6 7 8 9 10 11;go_wp2_with fail;refine J.o.m ?_;rintro e l⟨y,z,rfl,D,q⟩;have k:=ad (bz G.o q);have H:=ad D;have x:=ad (s.o.t (q.m s.o.size));clear M N O Q K L D q;obtain⟨X,Y,Z⟩:=qX3 (aj k.o) 0 1 2;have R:l.frozen? ⟨w.heap.size+1,0,none⟩=false:=aA k.o;have S:l.frozen? ⟨w.heap.size+1,1,none⟩=false:=aA k.o;have T:l.frozen? ⟨w.heap.size+1,2,none⟩=false:=aA k.o;go_wp2_with fail;clear X Y Z R S T;have V:=Oa (.string host) (.string t) (.slice y fs.length z) k.o;have r:w.heap.size+1<W.heap.size:=by have:=I.o;omega
 refine aD (BU rfl rfl V) rfl ⟨y,z,rfl,Ax (mP (mP (mP H.o r) r) r) (by omega),x.o.t (((((ak.refl (w.heap.size+1) l).set).set).set).below (by omega) x.o.size)⟩
theorem sB(u:U)(m t:aaM)(j:Int)(a:Option Addr)(n c:Nat)(i host:aaM)(e d:Int)(w:aaK):
 Calls Tryz.prog 11 #[.agg (km u m t j a n c i host e d).toArray] w (cN w (.agg #[.string ⟨#[]⟩,.int .i64 0,.int .i64 0,.int .i64 e,.int .i64 d,.string ⟨#[]⟩,.slice none 0 0])):=by
 have l:=jX w (.cells (km u m t j a n c i host e d).toArray 28) (.cells #[.string ⟨#[]⟩,.int .i64 0,.int .i64 0,.int .i64 0,.int .i64 0,.string ⟨#[]⟩,.slice none 0 0] 50);have p:=iT w (.cells (km u m t j a n c i host e d).toArray 28) (.cells #[.string ⟨#[]⟩,.int .i64 0,.int .i64 0,.int .i64 0,.int .i64 0,.string ⟨#[]⟩,.slice none 0 0] 50);have q:Below w.heap.size w ((w.alloc (.cells (km u m t j a n c i host e d).toArray 28)).alloc (.cells #[.string ⟨#[]⟩,.int .i64 0,.int .i64 0,.int .i64 0,.int .i64 0,.string ⟨#[]⟩,.slice none 0 0] 50)):=(az w _).alloc (by rw[aO];omega) _;have r:=ad l;have b:=ad p;have k:=ad q;clear l p q;go_enter Tryz.func11,Tryz.ntmps11;go_upto_region 1 with fail;generalize(w.alloc (.cells (km u m t j a n c i host e d).toArray 28)).alloc (.cells #[.string ⟨#[]⟩,.int .i64 0,.int .i64 0,.int .i64 0,.int .i64 0,.string ⟨#[]⟩,.slice none 0 0] 50)=h at*;obtain⟨s,x⟩:=qX2 (aj r.o) 12 13;obtain⟨H,I,J,K,L,M,N⟩:=qX7 (aj b.o) 0 1 2 3 4 5 6;have y:h.frozen? ⟨w.heap.size+1,0,none⟩=false:=aA b.o;have z:h.frozen? ⟨w.heap.size+1,1,none⟩=false:=aA b.o;have A:h.frozen? ⟨w.heap.size+1,2,none⟩=false:=aA b.o;have B:h.frozen? ⟨w.heap.size+1,3,none⟩=false:=aA b.o;have C:h.frozen? ⟨w.heap.size+1,4,none⟩=false:=aA b.o;have D:h.frozen? ⟨w.heap.size+1,5,none⟩=false:=aA b.o;have E:h.frozen? ⟨w.heap.size+1,6,none⟩=false:=aA b.o;go_wp2_with fail;clear s x H I J K L M N y z A B C D E;have F:=kS (.string ⟨#[]⟩) (.int .i64 0) (.int .i64 0) (.int .i64 e) (.int .i64 d) (.string ⟨#[]⟩) (.slice none 0 0) b.o;have G:=jy h (w.heap.size+1) (.string ⟨#[]⟩) (.int .i64 0) (.int .i64 0) (.int .i64 e) (.int .i64 d) (.string ⟨#[]⟩) (.slice none 0 0);exact aD (BV rfl rfl F) rfl ⟨rfl,k.o.t (G.below (by omega) k.o.size)⟩
theorem GN{W:aaK}{b:Nat}{a:Array aaL}{t:TypeId}(fs:List dQ)(h:W.heap[b]? =some (.cells a t))(e:a=(eX fs).toArray):aZ W (.slice (some ⟨b,0,none⟩) fs.length fs.length) fs:=by subst e;refine .inr ⟨b,0,fs.length,rfl,ag _,(aB.1 h).1,fun j f i=> ?_⟩;obtain⟨c,d⟩:=tJ fs j f i;rw[dH];exact⟨(tH _ _ _ _ _ _ h).t (by simpa using c),(tH _ _ _ _ _ _ h).t (by simpa using d)⟩
end Go.Proofs.YtlemddnecmmfgaaGreatDoor
namespace Go.Proofs.YtlemddnecmmfgaaGreatDoor
open Go.RowKit
variable{C:Act}{b:Nat}{d:aaK}
structure oB where
 p:aaL→aaK→Prop
 up:∀v w w',Below w.heap.size w w'→p v w→p v w'
def oB.is(v0:aaL):oB:=⟨fun v _=>v=v0,fun _ _ _ _ h=>h⟩
def xU(o:Oper)(a:Act)(v:aaL):Prop:=match o.dst with|some d=>a.tmps[d]? =some v|none=>True
def vS(L:List Oper)(Φ:List oB)(a:Act)(w:aaK)(i:Nat):Prop:=
 match L[i]?,Φ[i]? with
 |some o,some p=>∃v,xU o a v∧p.p v w
 |_,_=>True
structure pg (L:List Oper) (a0 a:Act):Prop where
 size:a.tmps.size=a0.tmps.size
 defers:a.defers=a0.defers
 other:∀d,(∀o∈L,o.dst≠some d)→a.tmps[d]? =a0.tmps[d]?
def VG(P:Program)(L:List Oper)(Φ:List oB)(a0:Act)(W:aaK)(Q:Exit→Act→aaK→Prop)(o:Oper)(p:oB):Prop:=
 ∀a w,Below W.heap.size W w→pg L a0 a→(∀e∈o.after.toList,Region.binds .any e=true→vS L Φ a w e.on)→
  if Region.wanted o (yielded L.toArray a.tmps)=true then Oper.wp P o a w (fun b w'=>∃v,b=a.put o.dst v∧Below w.heap.size w w'∧p.p v w') Q else p.p undef w
def Ep(P:Program)(L:List Oper)(Φ:List oB)(a0:Act)(W:aaK)(Q:Exit→Act→aaK→Prop):List Oper→List oB→Prop
 |[],[]=>True
 |o::l,p::a=>VG P L Φ a0 W Q o p∧Ep P L Φ a0 W Q l a
 |_,_=>False
def sN(n:Nat):List Oper→Bool
 |[]=>true
 |o::l=>(match o.dst with|none=>true|some d=>decide (d<n)&&l.all fun a=>a.dst !=some d)&&sN n l
def vo:Nat→List Oper→Bool
 |_,[]=>true
 |k,o::l=>(o.after.toList.all fun e=> !Region.binds .any e||decide (e.on<k))&&vo (k+1) l
def eB:List Oper→List aaL→Act→Act
 |o::l,v::vs,a=>eB l vs (a.put o.dst v)
 |_,_,a=>a
def Et:List oB→List aaL→aaK→Prop
 |[],[],_=>True
 |p::a,v::vs,w=>p.p v w∧Et a vs w
 |_,_,_=>False
def jB:List Bool→Nat
 |[]=>0
 |b::r=>(bif b then 0 else 1)+jB r
section
variable{P:Program}{L:List Oper}{Φ:List oB}{a0:Act}{W:aaK}{Q:Exit→Act→aaK→Prop}
theorem xT:∀(l:List Bool) (i:Nat),l[i]? =some false→jB (l.set i true)+1=jB l
 |[],_,h=>by simp at h
 |b::r,0,h=>by simp at h;subst h;simp[jB];omega
 |b::r,i+1,h=>by have:=xT r i (by simpa using h);simp only[kh,jB];omega
theorem vp:∀{l:List Bool},jB l=0→∀i,i<l.length→l[i]? =some true
 |[],_,i,h=>by simp at h
 |b::r,h,i,a=>by
  simp only[jB] at h;cases b
  ·simp at h
  ·cases i with
   |zero=>rfl
   |succ i=>simpa using vp (l:=r) (by simp at h;exact h) i (by simpa using a)
theorem xW:∀n,jB (List.replicate n false)=n
 |0=>rfl
 |n+1=>by rw[List.replicate_succ,jB,xW n];simp;omega
theorem AX:∀{l:List Oper} {b:List oB} {i:Nat} {o:Oper},Ep P L Φ a0 W Q l b→l[i]? =some o→∃p,b[i]? =some p∧VG P L Φ a0 W Q o p
 |[],_,_,_,_,h=>by simp at h
 |o::l,[],_,_,h,_=>by cases h
 |o::l,p::b,0,c,h,a=>by simp at a;subst a;exact⟨p,rfl,h.1⟩
 |o::l,p::b,i+1,c,h,a=>by obtain⟨q,d,e⟩:=AX h.2 (show l[i]? =some c by simpa using a);exact⟨q,by simpa using d,e⟩
theorem uo:∀{l:List Oper} {a:List oB},Ep P L Φ a0 W Q l a→a.length=l.length
 |[],[],_=>rfl
 |[],_::_,h=>by cases h
 |_::_,[],h=>by cases h
 |o::l,p::a,h=>by rw[bF,bF,uo h.2]
theorem AY{n:Nat}:∀{l:List Oper},sN n l=true→∀{i j:Nat} {o q:Oper} {d:Nat},l[i]? =some o→l[j]? =some q→o.dst=some d→q.dst=some d→i=j
 |[],_,_,_,_,_,_,h,_,_,_=>by simp at h
 |o0::l,c,i,j,o,q,d,a,b,e,m=>by
  unfold sN at c;rw[cW] at c;have key:∀{o1:Oper} {k:Nat},o0.dst=some d→l[k]? =some o1→o1.dst=some d→False:=fun{o1 k} r s t=>by have p:=c.1;rw[r] at p;simp only[cW,eV] at p;have:=p.2 o1 (eQ s);rw[t] at this;simp at this
  cases i with
  |zero=>
   simp at a;subst a;cases j with
   |zero=>rfl
   |succ j=>exact(key e (by simpa using b) m).elim
  |succ i=>
   cases j with
   |zero=>simp at b;subst b;exact(key m (by simpa using a) e).elim
   |succ j=>exact congrArg (·+1) (AY c.2 (by simpa using a) (by simpa using b) e m)
theorem G9{n:Nat}:∀{l:List Oper},sN n l=true→∀{i:Nat} {o:Oper} {d:Nat},l[i]? =some o→o.dst=some d→d<n
 |[],_,_,_,_,h,_=>by simp at h
 |o0::l,a,i,o,d,b,e=>by
  unfold sN at a;rw[cW] at a;cases i with
  |zero=>simp at b;subst b;have c:=a.1;rw[e] at c;simp only[cW,eM] at c;exact c.1
  |succ i=>exact G9 a.2 (by simpa using b) e
theorem um:∀{l:List Oper} {k:Nat},vo k l=true→∀{i:Nat} {o:Oper},l[i]? =some o→∀e∈o.after.toList,Region.binds .any e=true→e.on<k+i
 |[],_,_,_,_,h,_,_,_=>by simp at h
 |o0::l,k,a,i,o,h,e,c,b=>by
  unfold vo at a;rw[cW,eV] at a;cases i with
  |zero=>simp at h;subst h;have:=a.1 e c;rw[b] at this;simpa using this
  |succ i=>have:=um a.2 (show l[i]? =some o by simpa using h) e c b;omega
theorem xV{dst:Option Tmp}{v:aaL}(h:dst≠some b):(C.put dst v).tmps[b]? =C.tmps[b]? :=by
 cases dst with
 |none=>rfl
 |some d2=>show(C.tmps.setIfInBounds d2 v)[b]? =_;rw[Km (by intro e;exact h (by rw[e]))]
theorem Er{v:aaL}(h:b<C.tmps.size):(C.put (some b) v).tmps[b]? =some v:=by show(C.tmps.setIfInBounds b v)[b]? =_;rw[Array.getElem?_setIfInBounds_self_of_lt h]
theorem xX(a:Act)(dst:Option Tmp)(v:aaL):(a.put dst v).tmps.size=a.tmps.size:=by
 cases dst with
 |none=>rfl
 |some d=>show(a.tmps.setIfInBounds d v).size=_;simp
theorem put_defers(a:Act)(dst:Option Tmp)(v:aaL):(a.put dst v).defers=a.defers:=by cases dst<;>rfl
theorem pg.put{a:Act}(h:pg L a0 a){o:Oper}(c:o∈L)(v:aaL):pg L a0 (a.put o.dst v):=
 ⟨(xX _ _ _).t h.size,(put_defers _ _ _).t h.defers,fun d b=>(xV (b o c)).t (h.other d b)⟩
theorem rF{d:Nat}:∀{l:List Oper} {vs:List aaL} {a:Act},(∀o∈l,o.dst≠some d)→(eB l vs a).tmps[d]? =a.tmps[d]?
 |[],_,_,_=>by unfold eB;rfl
 |o::l,[],_,_=>by unfold eB;rfl
 |o::l,v::vs,a,h=>by unfold eB;rw[rF (fun c b=>h c (by simp[b])),xV (h o (by simp))]
theorem qO:∀(l:List Oper) (vs:List aaL) (a:Act),(eB l vs a).defers=a.defers
 |[],_,_=>by unfold eB;rfl
 |o::l,[],_=>by unfold eB;rfl
 |o::l,v::vs,a=>by unfold eB;rw[qO,put_defers]
theorem AZ{n d:Nat}:∀{l:List Oper} {vs:List aaL} {a:Act} {i:Nat} {o:Oper} {v:aaL},sN n l=true→n≤a.tmps.size→l[i]? =some o→o.dst=some d→vs[i]? =some v→(eB l vs a).tmps[d]? =some v
 |[],_,_,_,_,_,_,_,h,_,_=>by simp at h
 |o0::l,[],_,_,_,_,_,_,_,_,h=>by simp at h
 |o0::l,v0::vs,a,0,o,v,b,p,j,c,k=>by simp at j k;subst j;subst k;unfold eB;have m:=b;unfold sN at m;rw[cW,c] at m;simp only[cW,eV,eM] at m;rw[rF (fun r q e=>by have:=m.1.2 r q;rw[e] at this;simp at this),c,Er (by have:=G9 b (show(o0::l)[0]? =some o0 from rfl) c;omega)]
 |o0::l,v0::vs,a,i+1,o,v,b,p,j,c,k=>by unfold eB;unfold sN at b;rw[cW] at b;exact AZ b.2 (by rw[xX];exact p) (by simpa using j) c (by simpa using k)
theorem JR{p:Nat→aaL→Prop}:∀n:Nat,(∀i,i<n→∃x,p i x)→∃l:List aaL,l.length=n∧∀i x,l[i]? =some x→p i x
 |0,_=>⟨[],rfl,fun i x h=>by simp at h⟩
 |n+1,h=>by
  obtain⟨l,b,d⟩:=JR n fun i c=>h i (by omega);obtain⟨x,e⟩:=h n (by omega);refine⟨l++[x],by simp[b],fun i y a=> ?_⟩;by_cases c:i<n
  ·rw[qC (by omega)] at a;exact d i y a
  ·have:i=n:=by have:=(cH.1 a).1;simp at this;omega
   subst this;rw[jL (by omega),b] at a;simp at a;subst a;exact e
theorem Ev:∀{a:List oB} {vs:List aaL} {w:aaK},vs.length=a.length→(∀(i:Nat) (p:oB) (v:aaL),a[i]? =some p→vs[i]? =some v→p.p v w)→Et a vs w
 |[],[],_,_,_=>trivial
 |[],_::_,_,h,_=>by simp at h
 |_::_,[],_,h,_=>by simp at h
 |p::a,v::vs,w,d,h=>⟨h 0 p v rfl rfl,Ev (by simpa using d) fun i e v' b c=>h (i+1) e v' (by simpa using b) (by simpa using c)⟩
theorem Uu(y:Φ.length=L.length)(x:sN a0.tmps.size L=true)(q:pg L a0 C)(h:∀i,i<L.length→vS L Φ C d i):∃vs,Et Φ vs d∧C=eB L vs a0:=by
 obtain⟨vs,z,k⟩:=JR (p:=fun i v=>∀o p,L[i]? =some o→Φ[i]? =some p→xU o C v∧p.p v d) L.length fun i c=>by have:=h i c;unfold vS at this;rw[cA c,cA (show i<Φ.length by omega)] at this;obtain⟨v,b,j⟩:=this;refine⟨v,fun o p l k=> ?_⟩;rw[cA c] at l;rw[cA (show i<Φ.length by omega)] at k;cases l;cases k;exact⟨b,j⟩
 refine⟨vs,Ev (by omega) fun i p v b j=> ?_, ?_⟩
 ·have c:i<L.length:=by have:=(cH.1 b).1;omega
  exact(k i v j _ p (cA c) b).2
 ·have t:C.tmps=(eB L vs a0).tmps:=by
   refine Array.ext_getElem? fun m=> ?_;by_cases hex:∃(i:Nat) (o:Oper),L[i]? =some o∧o.dst=some m
   ·obtain⟨i,o,b,j⟩:=hex;have c:i<L.length:=(cH.1 b).1;have u:vs[i]? =some (vs[i]'(by omega)):=cA _
    have n:=(k i _ u o (Φ[i]'(by omega)) b (cA _)).1
    unfold xU at n;rw[j] at n;rw[AZ x (ag _) b j u];exact n
   ·have s:∀o∈L,o.dst≠some m:=fun o l e=>by obtain⟨i,c⟩:=zP.1 l;exact hex ⟨i,o,c,e⟩
    rw[rF s];exact q.other m s
  have r:C.defers=(eB L vs a0).defers:=by rw[qO];exact q.defers
  cases C;simp only at t r;rw[t,r]
end
end Go.Proofs.YtlemddnecmmfgaaGreatDoor
namespace Go.Proofs.YtlemddnecmmfgaaGreatDoor
open Go.RowKit
variable{C:Act}{b:Nat}{d:aaK}
theorem mv{L:List Oper}{Φ:List oB}{o:Oper}(h:∀e∈o.after.toList,Region.binds .any e=true→vS L Φ C d e.on)(k:Nat)(i:(o.after.toList.any fun e=>Region.binds .any e&&e.on==k)=true):vS L Φ C d k:=by obtain⟨e,c,b⟩:=lF.1 i;rw[cW,bZ] at b;rw[←b.2];exact h e c b.1
theorem lX{L:List Oper}{a0 a:Act}(h:pg L a0 a)(d:Nat){v:aaL}(b:(L.all fun o=>o.dst !=some d)=true)(i:a0.tmps[d]? =some v):a.tmps[d]? =some v:=by rw[←i];refine h.other d fun o c e=> ?_;have:=eV.1 b o c;rw[e] at this;simp at this
end Go.Proofs.YtlemddnecmmfgaaGreatDoor
