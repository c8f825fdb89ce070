/- The walk of the lexer's attr. -/
import Derived.Test.YtogchgjfialleaaGreatDoorKak
import Derived.Deep.DeepCutAuto
set_option linter.unusedVariables false
set_option maxRecDepth 100000
set_option maxHeartbeats 8000000
namespace Go.Proofs.YtogchgjfialleaaGreatDoor
open Go.RowKit
theorem KN(nm:Bs)(b:bQ)(a:Nat)(W:World)(d:W.cell? ⟨a,0,none⟩=some (.string ⟨nm.toArray⟩)):
 Calls Tryz.prog 165 #[Tk b,.pointer (some ⟨a,0,none⟩)] W (cN W (.bool (nm==b.name))):=by
 have c:Below W.heap.size W (W.alloc (.cells (BF b).toArray 124)):=(ar _ _).alloc (ag _) _;have e:=ad c;have h:(W.alloc (.cells (BF b).toArray 124)).cell? ⟨a,0,none⟩=some (.string ⟨nm.toArray⟩):=(c.cell (p:=⟨a,0,none⟩) (aV d)).trans d;have i:=bH W (BF b).toArray 124 0 _ rfl;clear c d;go_enter Tryz.func165,Tryz.ntmps165;go_wp2_with fail;go_ret;exact⟨rfl,e.out⟩
structure TZ (s:Bs) (tag i:Nat) (l:List bQ) (nm:Bs) (j:Nat) (R:Lx bQ):Prop where
 dup:l.any (fun b=>nm==b.name)=true→R=.bad i 12
 Wz:l.any (fun b=>nm==b.name)=false→s.drop j=[]→R=.bad tag 14
 eq:l.any (fun b=>nm==b.name)=false→∀c r,s.drop j=c::r→(c==61&& !nm.isEmpty)=false→R=.bad j 12
 WA:l.any (fun b=>nm==b.name)=false→nm≠[]→s.drop j=[61]→R=.bad tag 14
 mark:l.any (fun b=>nm==b.name)=false→nm≠[]→∀m q,s.drop j=61::m::q→(m==34||m==39)=false→R=.bad (j+1) 12
 open_:l.any (fun b=>nm==b.name)=false→nm≠[]→∀m q,s.drop j=61::m::q→(m==34||m==39)=true→q.contains m=false→R=.bad tag 14
 aq:l.any (fun b=>nm==b.name)=false→nm≠[]→∀m q,s.drop j=61::m::q→(m==34||m==39)=true→q.contains m=true→R=.aq ⟨nm,upto m q,(i:Int)⟩ (j+2+(upto m q).length+1)
theorem Rd{s:Bs}{tag i:Nat}{l:List bQ}{nm:Bs}{j:Nat}(t:(s.drop i).take (min 16 (db s i))=nm)(p:i+nm.length=j):TZ s tag i l nm j (fU s tag i l):=by
 have e:fU s tag i l=if l.any (fun b=>nm==b.name) then .bad i 12 else
  match s.drop j with
  |[]=>.bad tag 14
  |c::r=>
   if c==61&& !nm.isEmpty then
    match r with
    |[]=>.bad tag 14
    |m::q=>
     if m==34||m==39 then
      (if q.contains m then .aq ⟨nm,upto m q,(i:Int)⟩ (j+2+(upto m q).length+1) else .bad tag 14)
     else .bad (j+1) 12
   else .bad j 12:=by
  subst p;subst t;rfl
 have n:nm≠[]→nm.isEmpty=false:=fun h=>by cases nm with|nil=>exact(h rfl).elim|cons=>rfl
 refine⟨fun h=> ?_,fun h a=> ?_,fun h c r a d=> ?_,fun h a d=> ?_,fun h a m q d k=> ?_,fun h a m q d k o=> ?_,fun h a m q d k o=> ?_⟩
 ·rw[e,h];rfl
 ·rw[e,h,a];rfl
 ·rw[e,h,a];simp only[wG,if_false];rw[d];rfl
 ·rw[e,h,d,n a];rfl
 ·rw[e,h,d,n a];simp only[wG,if_false,qS,Bool.not_false,Bool.and_self,if_true];rw[k];rfl
 ·rw[e,h,d,n a];simp only[wG,if_false,qS,Bool.not_false,Bool.and_self,if_true];rw[k,o];rfl
 ·rw[e,h,d,n a];simp only[wG,if_false,qS,Bool.not_false,Bool.and_self,if_true];rw[k,o];rfl
theorem vY(s:Bs)(a b:Nat)(v:Bs)(h:(s.drop a).take (b-a)=v):((⟨s.toArray⟩:ByteArray).extract a b)=⟨v.toArray⟩:=by apply uG;apply Array.ext';rw[cf];simpa using h
theorem jx{p b j:Nat}{W W':World}{v:Value}(h:ak p W W')(d:W.heap.size≤b):ak p W (W'.setCell ⟨b,j,none⟩ v):=
 ⟨h.os,h.tape,h.output,by
  have:(W'.setCell ⟨b,j,none⟩ v).heap.size=W'.heap.size:=by simp[World.setCell]
  rw[this];exact h.size,fun k a c=>(dy W' ⟨b,j,none⟩ v k (by show k≠b;omega)).trans (h.block k a c)⟩
theorem Ao{W w:World}{p:Nat}{s:Bs}{i:Nat}{a v0 v1 v2:Value}{h:Int}(b:LB w p s i a h)(d:w.heap[W.heap.size]? =some (.cells #[.string ⟨#[]⟩,.string ⟨#[]⟩,.int .i64 0] 124))(k:ak p W w)(l:0≤0)(c:W.heap.size≠p):
 (((w.setCell ⟨W.heap.size,0,none⟩ v0).setCell ⟨W.heap.size,1,none⟩ v1).setCell ⟨W.heap.size,2,none⟩ v2).heap[W.heap.size]? =some (.cells #[v0,v1,v2] 124)∧
 LB (((w.setCell ⟨W.heap.size,0,none⟩ v0).setCell ⟨W.heap.size,1,none⟩ v1).setCell ⟨W.heap.size,2,none⟩ v2) p s i a h∧
 ak p W (((w.setCell ⟨W.heap.size,0,none⟩ v0).setCell ⟨W.heap.size,1,none⟩ v1).setCell ⟨W.heap.size,2,none⟩ v2):=by
 refine⟨aw (j:=2) (aw (j:=1) (aw (j:=0) d)), ?_,jx (jx (jx k (ag _)) (ag _)) (ag _)⟩;have e:∀(w:World) (j:Nat) (v:Value),LB w p s i a h→LB (w.setCell ⟨W.heap.size,j,none⟩ v) p s i a h:=fun w j v b=>(dy w ⟨W.heap.size,j,none⟩ v p (by show p≠W.heap.size;exact eo c)).trans b;exact e _ _ _ (e _ _ _ (e _ _ _ b))
theorem sw{fn:Func}{W:World}{tmps:Array Value}{b c:Nat}{v0 v1 v2:Value}(h:fn.results=#[.cell c 124])(d:tmps.getD c undef=.pointer (some ⟨b,0,none⟩))(a:W.heap[b]? =some (.cells #[v0,v1,v2] 124)):
 (results fn tmps).run Tryz.prog W=.ok (.agg #[v0,v1,v2]) W:=by
 have i:=aj 0 a;have j:=aj 1 a;have k:=aj 2 a;have e:tmps[c]?.getD undef=.pointer (some ⟨b,0,none⟩):=by rw[←d];simp
 simp[results,h,go_sem,e,i,j,k]
theorem nz{c d:UInt8}(h:(c==d)=false):((c.toNat:Int)==(d.toNat:Int))=false:=by rw[aL] at h⊢;intro e;exact h (UInt8.toNat_inj.1 (by omega))
theorem Gs{m:UInt8}(h:(m==34||m==39)=true):m=34∨m=39:=by rw[wH,bZ,bZ] at h;exact h
def Re(p:Nat)(W:World)(s:Bs)(b:Value)(h:Int):Lx bQ→Ending→World→Prop
 |.aq a t=>fun e w'=>e=.returned (Tk a)∧LB w' p s t b h∧ak p W w'
 |.bad q c=>mL p W q c
theorem NG{W:World}{p:Nat}{s:Bs}{i:Nat}{lv:Value}{h:Int}(tag:Nat)(l:List bQ)(hl:l.length≤1000000)(sa:Option Addr)(sc:Nat)(d5:aP (fun b=>b≠p) W l (.slice sa l.length sc))(hi:i≤s.length)(x:LB W p s i lv h)(S:s.length≤1000000):
 Calls Tryz.prog 121 #[.pointer (some ⟨p,0,none⟩),.int .i64 (tag:Int),.slice sa l.length sc] W (Re p W s lv h (fU s tag i l)):=by
 have hn:=iI s hi;have ck:=ad (fun k (hk:k<db s i)=>BN (q:=mo) (l:=s.drop i) (k:=k) hk);have cn:=ad (fun c (hc:(s.drop i)[db s i]? =some c)=>xn (q:=mo) (l:=s.drop i) hc);obtain⟨nm,cd⟩:∃nm,(s.drop i).take (min 16 (db s i))=nm:=⟨_,rfl⟩;have b5:nm.length=min 16 (db s i):=by rw[←cd,gu,bK];omega
 have HR:=ad (Rd (tag:=tag) (l:=l) cd rfl);have cl:=ad cd;obtain⟨R,hR⟩:∃R,fU s tag i l=R:=⟨_,rfl⟩;rw[hR] at HR⊢;clear hR cd;obtain⟨n0,d8⟩:∃n,db s i=n:=⟨_,rfl⟩;rw[d8] at hn ck cn cl b5;obtain⟨n,dl⟩:∃n,min 16 n0=n:=⟨_,rfl⟩;rw[dl] at cl b5;rw[b5] at HR;have HN:=ad (And.intro dl.symm (show n≤16∧n≤n0∧(n<16→n=n0) by omega));clear d8 dl;have e0:=ad b5;clear b5;have hA:Below W.heap.size W (W.alloc (.cells #[.string ⟨#[]⟩,.string ⟨#[]⟩,.int .i64 0] 124)):=(ar _ _).alloc (ag _) _;have c4:=ad (x.next hA);have d2:=ad (ak.ai (p:=p) hA);have d3:=ad (d5.next hA);have co:=ad (au W (.cells #[.string ⟨#[]⟩,.string ⟨#[]⟩,.int .i64 0] 124));have hp:=x.lt;obtain⟨M,d,-,-,-,-,-⟩:=c4.out.lc;clear d5 x hA;go_enter Tryz.func121,Tryz.ntmps121;go_upto_region 1 with fail;generalize W.alloc (.cells #[.string ⟨#[]⟩,.string ⟨#[]⟩,.int .i64 0] 124)=W0 at*;go_upto_region 2 with fail;clear M d
 go_loopw [] (fun wr=>∃k:Nat,k≤n∧Hid (LB wr p s (i+k) lv h)∧Hid (ak p W0 wr)) (fun wr=>s.length-j4 wr p)
 case atStart=>exact⟨0,aH _,c4,ad (ak.refl _ _)⟩
 case round=>
  obtain⟨k,hk,HB,HT⟩:=hrel;obtain⟨M,d,-,-,D,-,-⟩:=HB.out.lc;have c6:=ad HB.out.at_;obtain⟨em,en,d9⟩:=HN.out.2;obtain⟨m,hm⟩:∃m,i+k=m:=⟨_,rfl⟩;rw[hm] at HB d c6;have m0:(0:Int)≤(m:Int):=by omega
  by_cases el:k<n
  ·have m1:(m:Int)<(s.length:Int):=by omega
   have m2:(m:Int)-(i:Int)<16:=by omega
   have a7:m<s.length:=by omega
   obtain⟨c,hc,d7⟩:=ck.out k (by omega);rw[qD,hm] at hc;have HS:=ad (show∀W:World,Calls Tryz.prog 164 #[.int .u8 (((⟨s.toArray⟩:ByteArray)[m]'(by simpa[ByteArray.size] using a7)).toNat:Int)] W fun e w'=>e=.returned (.bool true)∧w'=W from fun W=>by
    have:((⟨s.toArray⟩:ByteArray)[m]'(by simpa[ByteArray.size] using a7))=c:=by show s[m]=c;exact(cH.1 hc).2
    rw[this,←d7];exact(pY c W).mono fun e w' ⟨O,h2⟩=>⟨O,h2.symm⟩)
   clear hc d7;go_upto_region 2 with fail
   go_quiet ((go_at_call 164;with_reducible exact mG (HS.out _)))
   have Y:=ad (HB.out.next (ax wr nq));have cb:=ad (HT.out.trans (ak.ai (ax wr nq)));clear M d D HB HT HS;generalize wr.drewN nq=w4 at*;obtain⟨-,d,-,-,D,-,-⟩:=Y.out.lc;have HE:=ad (Y.out.iD (m+1));rw[show((m+1:Nat):Int)=(m:Int)+1 by omega] at HE;have i9:(m:Int)+1≤1000001:=by omega
   go_wp2_with fail
   go_roundw
   case rel=>exact⟨k+1,by omega,by rw[show i+(k+1)=m+1 by omega];exact HE,ad cb.out.set⟩
   case measure=>(show s.length-j4 _ p<s.length-j4 wr p;rw[HE.out.at_,c6.out];omega)
  ·obtain rfl:k=n:=by omega
   go_upto_region 2 with fail
   go_cut [45] (fun t wx=>t=.bool false∧Hid (Below wr.heap.size wr wx))
   case first=>
    by_cases a7:m<s.length
    ·have m1:(m:Int)<(s.length:Int):=by omega
     obtain⟨q,hq⟩:∃q,mo s[m]=q:=⟨_,rfl⟩;have HS:=ad (show∀W:World,Calls Tryz.prog 164 #[.int .u8 (((⟨s.toArray⟩:ByteArray)[m]'(by simpa[ByteArray.size] using a7)).toNat:Int)] W fun e w'=>e=.returned (.bool q)∧w'=W from fun W=>by
      rw[show((⟨s.toArray⟩:ByteArray)[m]'(by simpa[ByteArray.size] using a7))=s[m] from rfl,←hq]
      exact(pY s[m] W).mono fun e w' ⟨O,h2⟩=>⟨O,h2.symm⟩)
     rcases q with _|_
     ·clear hq
      go_quiet ((go_at_call 164;with_reducible exact mG (HS.out _)))
      go_wp2_with fail
      go_meet
      exact⟨rfl,ad (ax _ _)⟩
     ·have m2:¬(m:Int)-(i:Int)<16:=by
       by_cases ek:k<16
       ·exfalso;have:=cn.out s[m] (by rw[qD,←d9 ek,hm];exact cA a7);rw[hq] at this;cases this
       ·omega
      clear hq
      go_quiet ((go_at_call 164;with_reducible exact mG (HS.out _)))
      go_wp2_with fail
      go_meet
      exact⟨rfl,ad (ax _ _)⟩
    ·have m1:decide ((m:Int)<(s.length:Int))=false:=cL (by omega)
     go_quiet (fail)
     go_wp2_with fail
     go_meet
     exact⟨rfl,ad (ax _ _)⟩
   case rest=>
   obtain⟨rfl,b9⟩:=hcut;go_upto_region 4 with fail;have Y:=ad (HB.out.next b9.out);have cb:=ad (HT.out.trans (ak.ai b9.out));have ds:=ad (bP HT.out.size b9.out.size);rw[hm] at HR;clear M d D HB HT b9 c6 ck cn;obtain⟨M,d,-,-,D,-,-⟩:=Y.out.lc;have hx:((⟨s.toArray⟩:ByteArray).extract i m)=⟨nm.toArray⟩:=by apply uG;apply Array.ext';rw[cf,←cl.out];simp[show m-i=k by omega]
   have i8:(i:Int)≤(m:Int):=by omega
   have i7:(m:Int)≤(s.length:Int):=by omega
   have i6:(0:Int)≤(i:Int):=by omega
   have a7:m≤s.length:=by omega
   clear hm hk el em en d9 HN hn;have eb:∀a3,(wc.alloc a3).cell? ⟨p,0,none⟩=some (.string ⟨s.toArray⟩):=fun a3=>(Y.out.next ((ar _ _).alloc (ag _) a3)).lc.c0;have ec:∀a3,(wc.alloc a3).cell? ⟨p,1,none⟩=some (.int .i64 (m:Int)):=fun a3=>(Y.out.next ((ar _ _).alloc (ag _) a3)).lc.c1;go_region;have hA2:Below wc.heap.size wc (wc.alloc (.cells #[.string ⟨nm.toArray⟩,.string ⟨#[]⟩,.int .i64 (i:Int)] 124)).drew:=((ar _ _).alloc (ag _) _).drew;have dq:=ad (Y.out.next hA2);have bv:=ad (cb.out.trans (ak.ai hA2));have bk:=ad (show(wc.alloc (.cells #[.string ⟨nm.toArray⟩,.string ⟨#[]⟩,.int .i64 (i:Int)] 124)).drew.heap[wc.heap.size]? =some (.cells #[.string ⟨nm.toArray⟩,.string ⟨#[]⟩,.int .i64 (i:Int)] 124) from au wc _);have d4:=ad (d3.out.cO bv.out.size (A':=fun b=>b≠p) fun b O h2=>⟨O,bv.out.block b h2 (by intro e;cases e;exact O rfl)⟩);have ea:=(aB.1 co.out).1;have cs:=ad ((bv.out.block W.heap.size ea (by intro e;cases e;omega)).trans co.out);have o:=ad (show p<wc.heap.size∧W.heap.size<wc.heap.size∧W.heap.size≠p by have:=ds.out;have:=Y.out.lt;omega);have ab:=ad (d2.out.trans bv.out);clear hA2 M d D eb ec Y cb ds bv d3 co c4 d2 ea hx;generalize(wc.alloc (.cells #[.string ⟨nm.toArray⟩,.string ⟨#[]⟩,.int .i64 (i:Int)] 124)).drew=W2 at*;generalize wc.heap.size=a at*;have e1:∀(fn:Fn) (first cap:Array Value) (w:World),(Instr.makeFunc fn first cap).run Tryz.prog w=.ok (.func fn first cap) w:=fun _ _ _ _=>rfl;have ca:=ad (lL 165 #[.pointer (some ⟨a,0,none⟩)] (fun b=>nm==b.name) l hl sa sc W2 (fun vs w=>cP Tryz.func165 (by kernel_rfl) rfl vs w)
    (fun b _ W3 h3=>KN nm b a W3 (aj 0 ((h3.block _ (aB.1 bk.out).1).trans bk.out))) _ d4.out)
   obtain⟨c5,Q⟩:∃c5,(l.any fun b=>nm==b.name)=c5:=⟨_,rfl⟩;rw[Q] at ca;have K:=ad Q;obtain⟨N,hN⟩:∃N,l.length=N:=⟨_,rfl⟩;rw[hN] at ca⊢;clear Q hN d4;go_wp2_with fail;refine ca.out.mono ?_;rintro e w6⟨rfl,bJ⟩;have b6:=ad (dq.out.next bJ);have ac:=ad (ab.out.trans (ak.ai bJ));have ch:=ad ((bJ.block _ (aB.1 bk.out).1).trans bk.out);have ct:=ad ((bJ.block _ (aB.1 cs.out).1).trans cs.out);clear bJ dq ab bk cs ca;have ab:=ac;clear ac;have u:p≤W.heap.size:=om hp;have L:=ad HR.out;clear HR;rcases c5 with _|_
   ·cases Q:s.drop m with
    |nil=>
     obtain rfl:=L.out.Wz K.out Q;have c8:m=s.length:=by have:=List.drop_eq_nil_iff.1 Q;omega
     clear Q;go_wp2_with fail;refine(iY tag c8 b6.out S).mono ?_;rintro e wz⟨rfl,z⟩;go_wp2_with fail;exact⟨rfl,rfl,(ab.out.below (ag _) u).trans (z.mono (bP u ab.out.size))⟩
    |cons c r=>
     have C:=ad Q;have e2:=ku Q;go_wp2_with fail;refine(cX tag C.out b6.out S).mono ?_;rintro e w7⟨rfl,b3⟩;have b7:=ad (b6.out.next b3);have ac:=ad (ab.out.trans (ak.ai b3));have a9:=ad ((b3.block _ (aB.1 ch.out).1).trans ch.out);have cx:=ad ((b3.block _ (aB.1 ct.out).1).trans ct.out);clear b3 b6 ab ch ct;clear Q;rcases dT (c=61) with rfl|hc
     ·rcases dT (nm=[]) with rfl|c9
      ·obtain rfl:=L.out.eq K.out _ _ C.out rfl;have n0:=aj 0 a9.out;go_wp2_with fail;refine(lP tag C.out b7.out S).mono ?_;rintro e wz⟨rfl,z⟩;go_wp2_with fail;exact⟨rfl,rfl,(ac.out.below (ag _) u).trans (z.mono (bP u ac.out.size))⟩
      ·have n0:=aj 0 a9.out;have hq:nm.isEmpty=false:=by cases nm with|nil=>exact(c9 rfl).elim|cons=>rfl
       have be:=ad c9;clear c9;go_wp2_with fail;refine(jQ tag C.out b7.out S).mono ?_;rintro e w8⟨rfl,d6,ce⟩;clear n0 hq;have b8:=ad d6;have cc:=ad (ac.out.trans ce);have ci:=ad ((ce.block _ (aB.1 a9.out).1 (by intro e;cases e;have:=o.out;omega)).trans a9.out);have cK:=ad ((ce.block _ (aB.1 cx.out).1 (by intro e;cases e;exact absurd rfl o.out.2.2)).trans cx.out);clear d6 ce b7 ac a9 cx;cases hr:r with
       |nil=>
        subst hr;obtain rfl:=L.out.WA K.out be.out C.out;have c8:m+1=s.length:=by have:=drop_cons C.out;simpa using this
        go_wp2_with fail;refine(iY tag c8 b8.out S).mono ?_;rintro e wz⟨rfl,z⟩;go_wp2_with fail;exact⟨rfl,rfl,(cc.out.below (ag _) u).trans (z.mono (bP u cc.out.size))⟩
       |cons mk q=>
        subst hr;have c7:s.drop (m+1)=mk::q:=tK C.out;have ao:=ad c7;have e3:=ku c7;clear c7;go_wp2_with fail;refine(cX tag ao.out b8.out S).mono ?_;rintro e w9⟨rfl,b4⟩;have bm:=ad (b8.out.next b4);have bg:=ad (cc.out.trans (ak.ai b4));have bb:=ad ((b4.block _ (aB.1 ci.out).1).trans ci.out);have bf:=ad ((b4.block _ (aB.1 cK.out).1).trans cK.out);clear b4 b8 cc ci cK;obtain⟨eu,a6⟩:∃b,(mk==34||mk==39)=b:=⟨_,rfl⟩;have bd:=ad a6;rcases eu with _|_
        ·have q1:((mk.toNat:Int)==34)=false:=by rw[uF] at a6;exact nz a6.1
         have q2:((mk.toNat:Int)==39)=false:=by rw[uF] at a6;exact nz a6.2
         clear a6;obtain rfl:=L.out.mark K.out be.out _ _ C.out bd.out;go_wp2_with fail;refine(lP tag ao.out bm.out S).mono ?_;rintro e wz⟨rfl,z⟩;go_wp2_with fail;exact⟨rfl,rfl,(bg.out.below (ag _) u).trans (z.mono (bP u bg.out.size))⟩
        ·clear a6;go_upto_region 9 with fail;rcases Gs bd.out with rfl|rfl
         ·go_wp2_with fail;refine(jQ tag ao.out bm.out S).mono ?_;rintro e F⟨rfl,bx,al⟩;have aN:=ad bx;have aa:=ad (bg.out.trans al);have ap:=ad ((al.block _ (aB.1 bb.out).1 (by intro e;cases e;have:=o.out;omega)).trans bb.out);have a0:=ad ((al.block _ (aB.1 bf.out).1 (by intro e;cases e;exact absurd rfl o.out.2.2)).trans bf.out);clear bx al bm bg bb bf;have a5:s.drop (m+1+1)=q:=tK ao.out;have er:m+1+1+q.length=s.length:=by have:=drop_cons ao.out;omega
          have dp:((⟨s.toArray⟩:ByteArray).extract (m+1+1) s.length)=⟨q.toArray⟩:=by have:=ic s (m+1+1) s.length (ag _);rw[a5] at this;exact this
          have G:=(show∀W:World,Calls Tryz.prog 47 #[.string ⟨q.toArray⟩,.int .u8 34] W fun e w'=>e=.returned (.int .i64 (if q.contains 34 then(lead (·!=34) q:Int) else-1))∧w'=W from fun W=>(eO ⟨q.toArray⟩ 34 W).mono fun e w' ⟨O,h2⟩=>⟨O,h2.symm⟩);obtain⟨hit,E⟩:∃b,q.contains 34=b:=⟨_,rfl⟩;rw[E] at G;obtain⟨M,d,-,-,D,-,-⟩:=aN.out.lc;have j0:(0:Int)≤(m:Int)+1+1:=by omega
          have j1:(m:Int)+1+1≤(s.length:Int):=by omega
          have a4:F.cell? ⟨p,1,none⟩=some (.int .i64 ((m:Int)+1+1)):=by rw[d];rfl
          clear d;rcases hit with _|_
          ·have Z:=ad (show∀W:World,Calls Tryz.prog 47 #[.string ⟨q.toArray⟩,.int .u8 34] W fun e w'=>e=.returned (.int .i64 (-1))∧w'=W from G);obtain rfl:=L.out.open_ K.out be.out _ _ C.out bd.out E;clear G E;go_upto_region 10 with fail
           go_quiet ((go_at_call 47;with_reducible exact mG (Z.out _)))
           go_wp2_with fail;refine(fE tag 14 _).mono ?_;rintro e wz⟨rfl,z⟩;go_wp2_with fail;exact⟨rfl,rfl,(aa.out.below (ag _) u).trans ((ar _ _).trans (show Below p _ _ from((show Below F.heap.size F (F.drewN nq) from ax _ _).trans z).mono (bP u aa.out.size)))⟩
          ·obtain⟨t,I⟩:∃t,lead (·!=34) q=t:=⟨_,rfl⟩;have et:t<q.length:=by rw[←I];exact kx 34 q E
           have Z:=ad (show∀W:World,Calls Tryz.prog 47 #[.string ⟨q.toArray⟩,.int .u8 34] W fun e w'=>e=.returned (.int .i64 (t:Int))∧w'=W from I▸G);have hg:=L.out.aq K.out be.out _ _ C.out bd.out E;have am:(upto 34 q).length=t:=I;rw[am] at hg;subst hg;have a8:((⟨s.toArray⟩:ByteArray).extract (m+1+1) (m+1+1+t))=⟨(upto 34 q).toArray⟩:=vY s _ _ _ (by rw[show m+1+1+t-(m+1+1)=t by omega,a5,←I];exact kF 34 q);clear G E I a5;obtain⟨V,hV⟩:∃V,upto 34 q=V:=⟨_,rfl⟩;rw[hV] at a8 am⊢;have c3:=ad (And.intro hV am);clear hV am;go_upto_region 10 with fail
           go_quiet ((go_at_call 47;with_reducible exact mG (Z.out _)))
           have H:=ax F nq;have X:=ad (aN.out.next H);have bp:=ad (aa.out.trans (ak.ai H));have av:=ad ((H.block _ (aB.1 ap.out).1).trans ap.out);have a2:=ad ((H.block _ (aB.1 a0.out).1).trans a0.out);clear H aN aa ap a0;clear M a4 D dp Z;generalize F.drewN nq=A at*;have k0:(0:Int)≤(t:Int):=by omega
           have k1:(m:Int)+1+1+(t:Int)≤(s.length:Int):=by omega
           have k2:(m:Int)+1+1≤(m:Int)+1+1+(t:Int):=by omega
           have k3:IntKind.i64.wrap ((m:Int)+1+1+(t:Int))=(m:Int)+1+1+(t:Int):=IntWalk.i64_in _ (by omega);go_upto_region 13 with fail;have d0:∀B:BW A,B.val.cell? ⟨p,0,none⟩=some (.string ⟨s.toArray⟩):=fun B=>(X.out.next B.below).lc.c0;have d1:∀B:BW A,B.val.cell? ⟨p,1,none⟩=some (.int .i64 ((m:Int)+1+1)):=fun B=>(X.out.next B.below).lc.c1
           haveI:Nonempty (BW A):=⟨⟨A,ar _ _⟩⟩
           refine aY 16 (fun B:BW A=>B.val) ⟨A.drew,ax A 1⟩ rfl (by kernel_rfl) (by rfl) (by rfl) (by kernel_rfl) (by kernel_rfl) (by kernel_rfl) ?_;simp only[ki,kL];repeat(quiet_step (fail))
           refine wpQuiet_nil ?_;rintro w'⟨B,rfl⟩;rw[ah (by rfl)];have bl:=ad (X.out.next B.below);have br:=ad (bp.out.trans (ak.ai B.below));have T:=ad ((B.below.block _ (aB.1 av.out).1).trans av.out);have bn:=ad ((B.below.block _ (aB.1 a2.out).1).trans a2.out);clear d0 d1 X bp av a2;have a1:=aj 1 T.out;have af:=aF _ _ 1 _ _ T.out;go_simp;generalize B.val=J at*;rw[show((m:Int)+1+1).toNat=m+1+1 by omega,show((m:Int)+1+1+(t:Int)).toNat=m+1+1+t by omega,a8];have aU:=ad (show LB (J.setCell ⟨a,1,none⟩ (.string ⟨V.toArray⟩)) p s (m+1+1) lv h from(dy J ⟨a,1,none⟩ _ p (by have:=o.out;show p≠a;omega)).trans bl.out);have bi:=ad (show(J.setCell ⟨a,1,none⟩ (.string ⟨V.toArray⟩)).heap[a]? =some (.cells #[.string ⟨nm.toArray⟩,.string ⟨V.toArray⟩,.int .i64 (i:Int)] 124) from aw (j:=1) T.out);have bo:=ad ((dy J ⟨a,1,none⟩ (.string ⟨V.toArray⟩) W.heap.size (by have:=o.out;show W.heap.size≠a;omega)).trans bn.out);have bs:=ad (jx br.out (b:=a) (j:=1) (v:=.string ⟨V.toArray⟩) (by have:=o.out;omega));clear a1 af bl T bn br a8 k1 k2 k3;generalize J.setCell ⟨a,1,none⟩ (.string ⟨V.toArray⟩)=an at*;obtain⟨-,d,-,-,D,-,-⟩:=aU.out.lc;have a4:an.cell? ⟨p,1,none⟩=some (.int .i64 ((m:Int)+1+1)):=by rw[d];rfl
           clear d;have HE:=ad (aU.out.iD (m+2+t+1));rw[show((m+2+t+1:Nat):Int)=(m:Int)+1+1+((t:Int)+1) by omega] at HE;have ay:=ad ((dy an ⟨p,1,none⟩ (.int .i64 ((m:Int)+1+1+((t:Int)+1))) a (by have:=o.out;show a≠p;omega)).trans bi.out);have y:=ad ((dy an ⟨p,1,none⟩ (.int .i64 ((m:Int)+1+1+((t:Int)+1))) W.heap.size o.out.2.2).trans bo.out);have c2:=ad (bs.out.set (j:=1) (v:=.int .i64 ((m:Int)+1+1+((t:Int)+1))));clear aU bi bo bs;go_upto_region 15 with fail;clear a4 D;generalize an.setCell ⟨p,1,none⟩ (.int .i64 ((m:Int)+1+1+((t:Int)+1)))=ev at*;have b0:=aj 0 ay.out;have b1:=aj 1 ay.out;have b2:=aj 2 ay.out;have r0:=aj 0 y.out;have r1:=aj 1 y.out;have r2:=aj 2 y.out;have g0:=aF _ _ 0 _ _ y.out;have g1:=aF _ _ 1 _ _ y.out;have g2:=aF _ _ 2 _ _ y.out;have HZ:=ad (Ao (v0:=.string ⟨nm.toArray⟩) (v1:=.string ⟨V.toArray⟩) (v2:=.int .i64 (i:Int)) HE.out y.out c2.out (by omega) o.out.2.2);go_wp2_with fail;clear b0 b1 b2 r0 r1 r2 g0 g1 g2;refine aD (v:=Tk ⟨nm,V,(i:Int)⟩) ?_ rfl ⟨by rw[c3.out.1],HZ.out.2.1,HZ.out.2.2⟩;exact sw rfl rfl HZ.out.1
         ·go_wp2_with fail;refine(jQ tag ao.out bm.out S).mono ?_;rintro e F⟨rfl,bx,al⟩;have aN:=ad bx;have aa:=ad (bg.out.trans al);have ap:=ad ((al.block _ (aB.1 bb.out).1 (by intro e;cases e;have:=o.out;omega)).trans bb.out);have a0:=ad ((al.block _ (aB.1 bf.out).1 (by intro e;cases e;exact absurd rfl o.out.2.2)).trans bf.out);clear bx al bm bg bb bf;have a5:s.drop (m+1+1)=q:=tK ao.out;have er:m+1+1+q.length=s.length:=by have:=drop_cons ao.out;omega
          have dp:((⟨s.toArray⟩:ByteArray).extract (m+1+1) s.length)=⟨q.toArray⟩:=by have:=ic s (m+1+1) s.length (ag _);rw[a5] at this;exact this
          have G:=(show∀W:World,Calls Tryz.prog 47 #[.string ⟨q.toArray⟩,.int .u8 39] W fun e w'=>e=.returned (.int .i64 (if q.contains 39 then(lead (·!=39) q:Int) else-1))∧w'=W from fun W=>(eO ⟨q.toArray⟩ 39 W).mono fun e w' ⟨O,h2⟩=>⟨O,h2.symm⟩);obtain⟨hit,E⟩:∃b,q.contains 39=b:=⟨_,rfl⟩;rw[E] at G;obtain⟨M,d,-,-,D,-,-⟩:=aN.out.lc;have j0:(0:Int)≤(m:Int)+1+1:=by omega
          have j1:(m:Int)+1+1≤(s.length:Int):=by omega
          have a4:F.cell? ⟨p,1,none⟩=some (.int .i64 ((m:Int)+1+1)):=by rw[d];rfl
          clear d;rcases hit with _|_
          ·have Z:=ad (show∀W:World,Calls Tryz.prog 47 #[.string ⟨q.toArray⟩,.int .u8 39] W fun e w'=>e=.returned (.int .i64 (-1))∧w'=W from G);obtain rfl:=L.out.open_ K.out be.out _ _ C.out bd.out E;clear G E;go_upto_region 10 with fail
           go_quiet ((go_at_call 47;with_reducible exact mG (Z.out _)))
           go_wp2_with fail;refine(fE tag 14 _).mono ?_;rintro e wz⟨rfl,z⟩;go_wp2_with fail;exact⟨rfl,rfl,(aa.out.below (ag _) u).trans ((ar _ _).trans (show Below p _ _ from((show Below F.heap.size F (F.drewN nq) from ax _ _).trans z).mono (bP u aa.out.size)))⟩
          ·obtain⟨t,I⟩:∃t,lead (·!=39) q=t:=⟨_,rfl⟩;have et:t<q.length:=by rw[←I];exact kx 39 q E
           have Z:=ad (show∀W:World,Calls Tryz.prog 47 #[.string ⟨q.toArray⟩,.int .u8 39] W fun e w'=>e=.returned (.int .i64 (t:Int))∧w'=W from I▸G);have hg:=L.out.aq K.out be.out _ _ C.out bd.out E;have am:(upto 39 q).length=t:=I;rw[am] at hg;subst hg;have a8:((⟨s.toArray⟩:ByteArray).extract (m+1+1) (m+1+1+t))=⟨(upto 39 q).toArray⟩:=vY s _ _ _ (by rw[show m+1+1+t-(m+1+1)=t by omega,a5,←I];exact kF 39 q);clear G E I a5;obtain⟨V,hV⟩:∃V,upto 39 q=V:=⟨_,rfl⟩;rw[hV] at a8 am⊢;have c3:=ad (And.intro hV am);clear hV am;go_upto_region 10 with fail
           go_quiet ((go_at_call 47;with_reducible exact mG (Z.out _)))
           have H:=ax F nq;have X:=ad (aN.out.next H);have bp:=ad (aa.out.trans (ak.ai H));have av:=ad ((H.block _ (aB.1 ap.out).1).trans ap.out);have a2:=ad ((H.block _ (aB.1 a0.out).1).trans a0.out);clear H aN aa ap a0;clear M a4 D dp Z;generalize F.drewN nq=A at*;have k0:(0:Int)≤(t:Int):=by omega
           have k1:(m:Int)+1+1+(t:Int)≤(s.length:Int):=by omega
           have k2:(m:Int)+1+1≤(m:Int)+1+1+(t:Int):=by omega
           have k3:IntKind.i64.wrap ((m:Int)+1+1+(t:Int))=(m:Int)+1+1+(t:Int):=IntWalk.i64_in _ (by omega);go_upto_region 13 with fail;have d0:∀B:BW A,B.val.cell? ⟨p,0,none⟩=some (.string ⟨s.toArray⟩):=fun B=>(X.out.next B.below).lc.c0;have d1:∀B:BW A,B.val.cell? ⟨p,1,none⟩=some (.int .i64 ((m:Int)+1+1)):=fun B=>(X.out.next B.below).lc.c1
           haveI:Nonempty (BW A):=⟨⟨A,ar _ _⟩⟩
           refine aY 16 (fun B:BW A=>B.val) ⟨A.drew,ax A 1⟩ rfl (by kernel_rfl) (by rfl) (by rfl) (by kernel_rfl) (by kernel_rfl) (by kernel_rfl) ?_;simp only[ki,kL];repeat(quiet_step (fail))
           refine wpQuiet_nil ?_;rintro w'⟨B,rfl⟩;rw[ah (by rfl)];have bl:=ad (X.out.next B.below);have br:=ad (bp.out.trans (ak.ai B.below));have T:=ad ((B.below.block _ (aB.1 av.out).1).trans av.out);have bn:=ad ((B.below.block _ (aB.1 a2.out).1).trans a2.out);clear d0 d1 X bp av a2;have a1:=aj 1 T.out;have af:=aF _ _ 1 _ _ T.out;go_simp;generalize B.val=J at*;rw[show((m:Int)+1+1).toNat=m+1+1 by omega,show((m:Int)+1+1+(t:Int)).toNat=m+1+1+t by omega,a8];have aU:=ad (show LB (J.setCell ⟨a,1,none⟩ (.string ⟨V.toArray⟩)) p s (m+1+1) lv h from(dy J ⟨a,1,none⟩ _ p (by have:=o.out;show p≠a;omega)).trans bl.out);have bi:=ad (show(J.setCell ⟨a,1,none⟩ (.string ⟨V.toArray⟩)).heap[a]? =some (.cells #[.string ⟨nm.toArray⟩,.string ⟨V.toArray⟩,.int .i64 (i:Int)] 124) from aw (j:=1) T.out);have bo:=ad ((dy J ⟨a,1,none⟩ (.string ⟨V.toArray⟩) W.heap.size (by have:=o.out;show W.heap.size≠a;omega)).trans bn.out);have bs:=ad (jx br.out (b:=a) (j:=1) (v:=.string ⟨V.toArray⟩) (by have:=o.out;omega));clear a1 af bl T bn br a8 k1 k2 k3;generalize J.setCell ⟨a,1,none⟩ (.string ⟨V.toArray⟩)=an at*;obtain⟨-,d,-,-,D,-,-⟩:=aU.out.lc;have a4:an.cell? ⟨p,1,none⟩=some (.int .i64 ((m:Int)+1+1)):=by rw[d];rfl
           clear d;have HE:=ad (aU.out.iD (m+2+t+1));rw[show((m+2+t+1:Nat):Int)=(m:Int)+1+1+((t:Int)+1) by omega] at HE;have ay:=ad ((dy an ⟨p,1,none⟩ (.int .i64 ((m:Int)+1+1+((t:Int)+1))) a (by have:=o.out;show a≠p;omega)).trans bi.out);have y:=ad ((dy an ⟨p,1,none⟩ (.int .i64 ((m:Int)+1+1+((t:Int)+1))) W.heap.size o.out.2.2).trans bo.out);have c2:=ad (bs.out.set (j:=1) (v:=.int .i64 ((m:Int)+1+1+((t:Int)+1))));clear aU bi bo bs;go_upto_region 15 with fail;clear a4 D;generalize an.setCell ⟨p,1,none⟩ (.int .i64 ((m:Int)+1+1+((t:Int)+1)))=ev at*;have b0:=aj 0 ay.out;have b1:=aj 1 ay.out;have b2:=aj 2 ay.out;have r0:=aj 0 y.out;have r1:=aj 1 y.out;have r2:=aj 2 y.out;have g0:=aF _ _ 0 _ _ y.out;have g1:=aF _ _ 1 _ _ y.out;have g2:=aF _ _ 2 _ _ y.out;have HZ:=ad (Ao (v0:=.string ⟨nm.toArray⟩) (v1:=.string ⟨V.toArray⟩) (v2:=.int .i64 (i:Int)) HE.out y.out c2.out (by omega) o.out.2.2);go_wp2_with fail;clear b0 b1 b2 r0 r1 r2 g0 g1 g2;refine aD (v:=Tk ⟨nm,V,(i:Int)⟩) ?_ rfl ⟨by rw[c3.out.1],HZ.out.2.1,HZ.out.2.2⟩;exact sw rfl rfl HZ.out.1
     ·have e4:((c.toNat:Int)==61)=false:=nz (aL.2 hc);have n0:=aj 0 a9.out;obtain rfl:=L.out.eq K.out _ _ C.out (by rw[aL.2 hc];rfl);clear hc;go_wp2_with fail;refine(lP tag C.out b7.out S).mono ?_;rintro e wz⟨rfl,z⟩;go_wp2_with fail;exact⟨rfl,rfl,(ac.out.below (ag _) u).trans (z.mono (bP u ac.out.size))⟩
   ·obtain rfl:=L.out.dup K.out;go_wp2_with fail;refine(fE i 12 w6).mono ?_;rintro e wz⟨rfl,z⟩;go_wp2_with fail;exact⟨rfl,rfl,(ab.out.below (ag _) u).trans (z.mono (bP u ab.out.size))⟩
