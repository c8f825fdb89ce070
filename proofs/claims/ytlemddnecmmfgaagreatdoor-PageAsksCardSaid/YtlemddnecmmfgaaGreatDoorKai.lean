/- The walk of the lexer's attr. -/
import Derived.Test.YtlemddnecmmfgaaGreatDoorKaf
import Derived.Test.YtlemddnecmmfgaaGreatDoorKah
import Derived.Test.YtlemddnecmmfgaaGreatDoorTie
import Derived.Test.YtlemddnecmmfgaaGreatDoorCards
import Derived.Lay
import Derived.LaidMore
import Derived.Stop.LaidErr
import Derived.Deep.DeepHandedRow
import Derived.Deep.DeepCutAuto
set_option linter.unusedVariables false
set_option maxRecDepth 100000
set_option maxHeartbeats 8000000
namespace Go.Proofs.YtlemddnecmmfgaaGreatDoor
open Go.RowKit
variable{b:Bs}{a:UInt8}
def LB(W:aaK)(p:Nat)(s:Bs)(i:Nat)(lv:aaL)(h:Int):Prop:=W.heap[p]? =some (.cells #[.string ⟨s.toArray⟩,.int .i64 (i:Int),lv,.int .i64 h] 98)
structure LC (W:aaK) (p:Nat) (s:Bs) (i:Nat) (lv:aaL) (h:Int):Prop where
 c0:W.cell? ⟨p,0,none⟩=some (.string ⟨s.toArray⟩)
 c1:W.cell? ⟨p,1,none⟩=some (.int .i64 (i:Int))
 c2:W.cell? ⟨p,2,none⟩=some lv
 c3:W.cell? ⟨p,3,none⟩=some (.int .i64 h)
 f1:W.frozen? ⟨p,1,none⟩=false
 f2:W.frozen? ⟨p,2,none⟩=false
 f3:W.frozen? ⟨p,3,none⟩=false
section
variable{W W':aaK}{p:Nat}{s:Bs}{i:Nat}{lv:aaL}{h:Int}
theorem LB.lc(x:LB W p s i lv h):LC W p s i lv h:=
 ⟨tH _ _ 0 _ _ _ x,tH _ _ 1 _ _ _ x,tH _ _ 2 _ _ _ x,tH _ _ 3 _ _ _ x,aF _ _ 1 _ _ x,aF _ _ 2 _ _ x,aF _ _ 3 _ _ x⟩
theorem LB.lt(x:LB W p s i lv h):p<W.heap.size:=aV x.lc.c0
theorem LB.next(x:LB W p s i lv h)(a:Below W.heap.size W W'):LB W' p s i lv h:=(a.block p x.lt).t x
theorem LB.iD(x:LB W p s i lv h)(j:Nat):LB (W.setCell ⟨p,1,none⟩ (.int .i64 (j:Int))) p s j lv h:=aw (j:=1) x
theorem LB.Dz(x:LB W p s i lv h)(v:aaL):LB (W.setCell ⟨p,2,none⟩ v) p s i v h:=aw (j:=2) x
theorem LB.Gp(x:LB W p s i lv h)(k:Int):LB (W.setCell ⟨p,3,none⟩ (.int .i64 k)) p s i lv k:=aw (j:=3) x
end
def tS(place e:Int):PanicEntry:={v:=.iface 95 (.agg #[.int .i64 place,.int .i64 e]),recovered:=false}
def mL(n:Nat)(w:aaK)(place e:Int):Ending→aaK→Prop:=fun a w'=>a=.panicked [tS place e]∧Below n w w'
theorem ax(w:aaK)(n:Nat):Below w.heap.size w (w.drewN n):=⟨rfl,rfl,rfl,ag _,fun _ _=>rfl⟩
theorem fE(place e:Int)(w:aaK):Calls Tryz.prog 38 #[.int .i64 place,.int .i64 e] w (mL w.heap.size w place e):=by go_enter Tryz.func38,Tryz.ntmps38;go_wp2;exact⟨rfl,rfl,ar _ _⟩
theorem pY(c:UInt8)(w:aaK):Calls Tryz.prog 154 #[.int .u8 (c.toNat:Int)] w fun e w'=>e=.returned (.bool (mo c))∧w=w':=by
 obtain⟨q,hq⟩:∃q,mo c=q:=⟨_,rfl⟩;rw[hq];have j:=ad hq;unfold mo at hq;rcases dT (97≤c.toNat) with b|b
 ·have h:(97:Int)≤(c.toNat:Int):=by omega
  rcases dT (c.toNat≤122) with d|d
  ·have i:(c.toNat:Int)≤122:=by omega
   have a:=ad (show q=true by rw[←hq,bN (by omega)]);clear hq b d;go_enter Tryz.func154,Tryz.ntmps154;go_wp2_with fail;go_ret;exact⟨cq a.o.symm,rfl⟩
  ·have i:¬(c.toNat:Int)≤122:=by omega
   have a:=ad (show q=false by rw[←hq,cL (by omega)]);clear hq b d;go_enter Tryz.func154,Tryz.ntmps154;go_wp2_with fail;go_ret;exact⟨cq a.o.symm,rfl⟩
 ·have h:¬(97:Int)≤(c.toNat:Int):=by omega
  have a:=ad (show q=false by rw[←hq,cL (by omega)]);clear hq b;go_enter Tryz.func154,Tryz.ntmps154;go_wp2_with fail;go_ret;exact⟨cq a.o.symm,rfl⟩
theorem Rb(c:UInt8):([32,9,10,13]:Bs).contains c=mE c:=congrFun An c
theorem tT(c:UInt8)(w:aaK):Calls Tryz.prog 73 #[.int .u8 (c.toNat:Int)] w fun e w'=>e=.returned (.bool (mE c))∧w'=w:=by
 have a:=eO ⟨#[32,9,10,13]⟩ c;rw[show(⟨#[32,9,10,13]⟩:aaM).data.toList=[32,9,10,13] from rfl,Rb] at a;have b:=ad a;obtain⟨q,hq⟩:∃q,mE c=q:=⟨_,rfl⟩;rw[hq] at b⊢;clear hq a;go_enter Tryz.func73,Tryz.ntmps73;go_wp2_with fail;refine(b.o w).m ?_;rintro e d⟨rfl,rfl⟩;rcases q with _|_
 ·go_wp2_with fail;go_ret;exact⟨rfl,rfl⟩
 ·go_wp2_with fail;go_ret;exact⟨cq (by simp),rfl⟩
section
variable{W:aaK}{p:Nat}{s:Bs}{i:Nat}{lv:aaL}{h:Int}
theorem cX(tag:Int)(d:s.drop i=a::b)(x:LB W p s i lv h)(t:s.length≤1000000):
 Calls Tryz.prog 115 #[.pointer (some ⟨p,0,none⟩),.int .i64 tag] W (cN W (.int .u8 (a.toNat:Int))):=by
 obtain⟨m,n,-,-,-,-,-⟩:=x.lc;have l:=drop_cons d;have e:s[i]? =some a:=by have:=qD (xs:=s) (i:=i) (j:=0);rw[d] at this;simpa using this.symm
 have k:=ad e;have u:(0:Int)≤(i:Int):=by omega
 have w:(i:Int)<(s.length:Int):=by omega
 have q:((i:Int)==(s.length:Int))=false:=by rw[aL];omega
 clear d e l;go_enter Tryz.func115,Tryz.ntmps115;go_wp2_with fail
 go_quiet (fail)
 go_wp2_with fail
 go_quiet (fail)
 go_wp2_with fail;go_ret;exact⟨bW (by show((s[i]'(by omega)).toNat:Int)=_;rw[(cH.1 k.o).2]),rfl,rfl,rfl,ag _,fun _ _=>rfl⟩
theorem iY(tag:Int)(b:i=s.length)(x:LB W p s i lv h)(j:s.length≤1000000):
 Calls Tryz.prog 115 #[.pointer (some ⟨p,0,none⟩),.int .i64 tag] W (mL W.heap.size W tag 14):=by
 subst b;obtain⟨c,d,-,-,-,-,-⟩:=x.lc;go_enter Tryz.func115,Tryz.ntmps115;go_wp2_with fail
 go_quiet (fail)
 go_wp2_with fail;refine(fE tag 14 _).m ?_;rintro e k⟨rfl,a⟩;go_wp2_with fail;exact⟨rfl,rfl,(ax _ _).t a⟩
theorem jQ(tag:Int)(d:s.drop i=a::b)(x:LB W p s i lv h)(q:s.length≤1000000):
 Calls Tryz.prog 117 #[.pointer (some ⟨p,0,none⟩),.int .i64 tag,.bool true] W fun e w'=>e=.returned (.tuple #[])∧LB w' p s (i+1) lv h∧ak p W w':=by
 have n:=drop_cons d;go_enter Tryz.func117,Tryz.ntmps117;go_wp2_with fail;refine(cX tag d x q).m ?_;rintro e y⟨rfl,l⟩;have k:=ad (x.next l);obtain⟨-,t,-,-,u,-,-⟩:=k.o.lc;have j:=ad (k.o.iD (i+1));rw[show((i+1:Nat):Int)=(i:Int)+1 by omega] at j;have w:(i:Int)+1≤1000001:=by omega
 clear d n;go_wp2_with fail
 go_end0
 exact⟨rfl,j.o,(ak.ai l).set⟩
theorem lP(tag:Int)(k:s.drop i=a::b)(x:LB W p s i lv h)(l:s.length≤1000000):
 Calls Tryz.prog 117 #[.pointer (some ⟨p,0,none⟩),.int .i64 tag,.bool false] W (mL W.heap.size W i 12):=by
 go_enter Tryz.func117,Tryz.ntmps117;go_wp2_with fail;refine(cX tag k x l).m ?_;rintro e q⟨rfl,d⟩;obtain⟨-,n,-,-,o,-,-⟩:=(x.next d).lc;go_wp2_with fail;refine(fE i 12 _).m ?_;rintro e u⟨rfl,j⟩;go_wp2_with fail;exact⟨rfl,rfl,d.t (j.m d.size)⟩
end
def j4(W:aaK)(p:Nat):Nat:=match W.cell? ⟨p,1,none⟩ with|some (.int _ n)=>n.toNat|_=>0
theorem LB.at_{W:aaK}{p:Nat}{s:Bs}{i:Nat}{lv:aaL}{h:Int}(x:LB W p s i lv h):j4 W p=i:=by unfold j4;rw[x.lc.c1];simp
theorem BN{q:UInt8→Bool}{l:Bs}{k:Nat}(h:k<lead q l):∃c,l[k]? =some c∧q c=true:=by
 unfold lead at h;have a:(l.takeWhile q)[k]? =some (l.takeWhile q)[k]:=cA h;have hq:=eV.1 (List.all_takeWhile (p:=q) (l:=l)) _ (wI h);refine⟨(l.takeWhile q)[k], ?_,hq⟩;obtain⟨t,d⟩:=List.takeWhile_prefix (l:=l) q;have b:(l.takeWhile q++t)[k]? =some (l.takeWhile q)[k]:=by rw[qC h];exact a
 rw[←b,d]
theorem xn{q:UInt8→Bool}{l:Bs}(h:l[lead q l]? =some a):q a=false:=by
 have d:=cz q l;have b:l.dropWhile q=a::l.drop (lead q l+1):=by rw[←d];have e:=(cH.1 h).1;rw[lG e,(cH.1 h).2]
 have:=List.head_dropWhile_not (p:=q) (l:=l) (by rw[b];simp);simpa[b] using this
section
variable{W:aaK}{p:Nat}{s:Bs}{i:Nat}{lv:aaL}{h:Int}
theorem NF(O:i≤s.length)(x:LB W p s i lv h)(S:s.length≤1000000):
 Calls Tryz.prog 152 #[.pointer (some ⟨p,0,none⟩)] W fun e w'=>e=.returned (.string ⟨((s.drop i).take (db s i)).toArray⟩)∧LB w' p s (i+db s i) lv h∧ak p W w':=by
 have N:=ad x;have R:=iI s O;have F:=ad (fun k (J:k<db s i)=>BN (q:=mo) (l:=s.drop i) (k:=k) J);have G:=ad (fun c (r:(s.drop i)[db s i]? =some c)=>xn (q:=mo) (l:=s.drop i) r);obtain⟨n,K⟩:∃n,db s i=n:=⟨_,rfl⟩;rw[K] at R F G⊢;obtain⟨B,j,-,-,-,-,-⟩:=x.lc;clear x K;go_enter Tryz.func152,Tryz.ntmps152;go_upto_region 2 with fail;clear B j
 go_loopw [] (fun wr=>∃k:Nat,k≤n∧Hid (LB wr p s (i+k) lv h)∧Hid (ak p W wr)) (fun wr=>s.length-j4 wr p)
 case atStart=>exact⟨0,aH _,N,ad (ak.refl _ _)⟩
 case round=>
  obtain⟨k,J,b,z⟩:=hrel;obtain⟨B,j,-,-,H,-,-⟩:=b.o.lc;have I:=ad b.o.at_;obtain⟨a,w⟩:∃a,i+k=a:=⟨_,rfl⟩;rw[w] at b j I;have Z:(0:Int)≤(a:Int):=by omega
  by_cases Q:k<n
  ·have L:(a:Int)<(s.length:Int):=by omega
   have d:a<s.length:=by omega
   obtain⟨c,r,u⟩:=F.o k Q;rw[qD,w] at r;have y:=ad (show∀W:aaK,Calls Tryz.prog 154 #[.int .u8 (((⟨s.toArray⟩:aaM)[a]'(by simpa[ByteArray.size] using d)).toNat:Int)] W fun e w'=>e=.returned (.bool true)∧w'=W from fun W=>by
    have:((⟨s.toArray⟩:aaM)[a]'(by simpa[ByteArray.size] using d))=c:=by show s[a]=c;exact(cH.1 r).2
    rw[this,←u];exact(pY c W).m fun e w' ⟨C,D⟩=>⟨C,D.symm⟩)
   clear r u;go_upto_region 2 with fail
   go_quiet ((go_at_call 154;with_reducible exact mG (y.o _)))
   have E:=ad (b.o.next (ax wr nq));have M:=ad (z.o.t (ak.ai (ax wr nq)));clear B j H b z y;generalize wr.drewN nq=w4 at*;obtain⟨-,j,-,-,H,-,-⟩:=E.o.lc;have A:=ad (E.o.iD (a+1));rw[show((a+1:Nat):Int)=(a:Int)+1 by omega] at A;have Y:(a:Int)+1≤1000001:=by omega
   go_wp2_with fail
   go_roundw
   case rel=>exact⟨k+1,by omega,by rw[show i+(k+1)=a+1 by omega];exact A,ad M.o.set⟩
   case measure=>(show s.length-j4 _ p<s.length-j4 wr p;rw[A.o.at_,I.out];omega)
  ·obtain rfl:k=n:=by omega
   have T:((⟨s.toArray⟩:aaM).extract i a)=⟨((s.drop i).take k).toArray⟩:=by apply uG;apply Array.ext';rw[cf];simp[show a-i=k by omega]
   have i8:(i:Int)≤(a:Int):=by omega
   have X:(a:Int)≤(s.length:Int):=by omega
   have V:(0:Int)≤(i:Int):=by omega
   by_cases d:a<s.length
   ·have L:(a:Int)<(s.length:Int):=by omega
    have u:=G.o s[a] (by rw[qD,w];exact cA d);have y:=ad (show∀W:aaK,Calls Tryz.prog 154 #[.int .u8 (((⟨s.toArray⟩:aaM)[a]'(by simpa[ByteArray.size] using d)).toNat:Int)] W fun e w'=>e=.returned (.bool false)∧w'=W from fun W=>by
     rw[show((⟨s.toArray⟩:aaM)[a]'(by simpa[ByteArray.size] using d))=s[a] from rfl,←u]
     exact(pY s[a] W).m fun e w' ⟨C,D⟩=>⟨C,D.symm⟩)
    clear u;go_upto_region 2 with fail
    go_quiet ((go_at_call 154;with_reducible exact mG (y.o _)))
    go_wp2_with fail
    go_quiet (fail)
    go_wp2_with fail;go_ret;exact⟨rfl,by rw[w];exact b.o.next ⟨rfl,rfl,rfl,ag _,fun _ _=>rfl⟩,z.o.t (ak.ai ⟨rfl,rfl,rfl,ag _,fun _ _=>rfl⟩)⟩
   ·have L:decide ((a:Int)<(s.length:Int))=false:=cL (by omega);go_upto_region 2 with fail
    go_quiet (fail)
    go_wp2_with fail
    go_quiet (fail)
    go_wp2_with fail;go_ret;exact⟨rfl,by rw[w];exact b.o.next ⟨rfl,rfl,rfl,ag _,fun _ _=>rfl⟩,z.o.t (ak.ai ⟨rfl,rfl,rfl,ag _,fun _ _=>rfl⟩)⟩
theorem DA(N:i≤s.length)(x:LB W p s i lv h)(O:s.length≤1000000):
 Calls Tryz.prog 114 #[.pointer (some ⟨p,0,none⟩)] W fun e w'=>e=.returned (.int .i64 (lead mE (s.drop i):Int))∧LB w' p s (i+lead mE (s.drop i)) lv h∧ak p W w':=by
 have K:=ad x;have M:i+lead mE (s.drop i)≤s.length:=by have:=iV mE (s.drop i);rw[bK] at this;omega
 have C:=ad (fun k (G:k<lead mE (s.drop i))=>BN (q:=mE) (l:=s.drop i) (k:=k) G);have D:=ad (fun c (j:(s.drop i)[lead mE (s.drop i)]? =some c)=>xn (q:=mE) (l:=s.drop i) j);obtain⟨n,H⟩:∃n,lead mE (s.drop i)=n:=⟨_,rfl⟩;rw[H] at M C D⊢;obtain⟨A,d,-,-,-,-,-⟩:=x.lc;clear x H;go_enter Tryz.func114,Tryz.ntmps114;go_upto_region 2 with fail;clear A d
 go_loopw [] (fun wr=>∃k:Nat,k≤n∧Hid (LB wr p s (i+k) lv h)∧Hid (ak p W wr)) (fun wr=>s.length-j4 wr p)
 case atStart=>exact⟨0,aH _,K,ad (ak.refl _ _)⟩
 case round=>
  obtain⟨k,G,a,y⟩:=hrel;obtain⟨A,d,-,-,E,-,-⟩:=a.o.lc;have F:=ad a.o.at_;obtain⟨m,u⟩:∃m,i+k=m:=⟨_,rfl⟩;rw[u] at a d F;have V:(0:Int)≤(m:Int):=by omega
  by_cases L:k<n
  ·have I:(m:Int)<(s.length:Int):=by omega
   have b:m<s.length:=by omega
   obtain⟨c,j,r⟩:=C.o k L;rw[qD,u] at j;have w:=ad (show∀W:aaK,Calls Tryz.prog 73 #[.int .u8 (((⟨s.toArray⟩:aaM)[m]'(by simpa[ByteArray.size] using b)).toNat:Int)] W fun e w'=>e=.returned (.bool true)∧w'=W from fun W=>by
    have:((⟨s.toArray⟩:aaM)[m]'(by simpa[ByteArray.size] using b))=c:=by show s[m]=c;exact(cH.1 j).2
    rw[this,←r];exact tT c W)
   clear j r;go_upto_region 2 with fail
   go_quiet ((go_at_call 73;with_reducible exact mG (w.o _)))
   have B:=ad (a.o.next (ax wr nq));have J:=ad (y.o.t (ak.ai (ax wr nq)));clear A d E a y w;generalize wr.drewN nq=X at*;obtain⟨-,d,-,-,E,-,-⟩:=B.o.lc;have z:=ad (B.o.iD (m+1));rw[show((m+1:Nat):Int)=(m:Int)+1 by omega] at z;have T:(m:Int)+1≤1000001:=by omega
   go_wp2_with fail
   go_roundw
   case rel=>exact⟨k+1,by omega,by rw[show i+(k+1)=m+1 by omega];exact z,ad J.o.set⟩
   case measure=>(show s.length-j4 _ p<s.length-j4 wr p;rw[z.o.at_,F.out];omega)
  ·obtain rfl:k=n:=by omega
   have Q:(m:Int)-(i:Int)=(k:Int):=by omega
   have i8:(i:Int)≤(m:Int):=by omega
   have S:(m:Int)≤(s.length:Int):=by omega
   have R:(0:Int)≤(i:Int):=by omega
   by_cases b:m<s.length
   ·have I:(m:Int)<(s.length:Int):=by omega
    have r:=D.o s[m] (by rw[qD,u];exact cA b);have w:=ad (show∀W:aaK,Calls Tryz.prog 73 #[.int .u8 (((⟨s.toArray⟩:aaM)[m]'(by simpa[ByteArray.size] using b)).toNat:Int)] W fun e w'=>e=.returned (.bool false)∧w'=W from fun W=>by
     rw[show((⟨s.toArray⟩:aaM)[m]'(by simpa[ByteArray.size] using b))=s[m] from rfl,←r]
     exact tT s[m] W)
    clear r;go_upto_region 2 with fail
    go_quiet ((go_at_call 73;with_reducible exact mG (w.o _)))
    go_wp2_with fail;go_ret;exact⟨bW (by omega),by rw[u];exact a.o.next ⟨rfl,rfl,rfl,ag _,fun _ _=>rfl⟩,y.o.t (ak.ai ⟨rfl,rfl,rfl,ag _,fun _ _=>rfl⟩)⟩
   ·have I:decide ((m:Int)<(s.length:Int))=false:=cL (by omega);go_upto_region 2 with fail
    go_quiet (fail)
    go_wp2_with fail;go_ret;exact⟨bW (by omega),by rw[u];exact a.o.next ⟨rfl,rfl,rfl,ag _,fun _ _=>rfl⟩,y.o.t (ak.ai ⟨rfl,rfl,rfl,ag _,fun _ _=>rfl⟩)⟩
end
theorem Vk:Tryz.prog.globalNamed "strings.asciiSpace" =some 3:=by kernel_rfl
structure GL (w:aaK):Prop where
 gx:GX w
 sp:Lib.TabIs Tryz.prog w "strings.asciiSpace" .u8 Lib.asciiSpaceTab
theorem GL.next{w w':aaK}(h:GL w)(a:Below w.heap.size w w'):GL w':=⟨h.gx.next a,sv Vk h.sp (by decide+kernel) a⟩
def rh:Bs:=[105,110,99,108,117,100,101,32,105,110,108,105,110,101,32,114,101,109,111,118,101,32,99,111,109,109,101,110,116,32,116,114,121,32,97,116,116,101,109,112,116,32,101,120,99,101,112,116,32,99,104,111,111,115,101,32,119,104,101,110,32,111,116,104,101,114,119,105,115,101,32,118,97,114,115]
theorem BO:Lib.fields rh=elems:=by kernel_rfl
theorem DB:∀(j:Nat) b,rh[j]? =some b→b.toNat<128:=fun j b h=>by
 have a:∀b∈rh,b.toNat<128:=by decide
 exact a b (eQ h)
theorem mr(l:List Bs)(x:Bs):Lib.containsS (l.map fun b=>(⟨b.toArray⟩:aaM)) ⟨x.toArray⟩=l.contains x:=by
 rw[gf,Lib.containsS_iff,r8,qE];constructor
 ·rintro⟨b,c,d⟩;have:=congrArg (fun a:aaM=>a.data.toList) d;simp at this;rw[←this];exact c
 ·intro h;exact⟨x,h,rfl⟩
theorem Gq(w:aaK)(l:List Bs)(j:Nat)(a:j<(l.map fun b=>(⟨b.toArray⟩:aaM)).length):(w.alloc (.cells (l.map fun x=>Value.string ⟨x.toArray⟩).toArray 9)).cell? ⟨w.heap.size,0+j,none⟩=some (.string ((l.map fun b=>(⟨b.toArray⟩:aaM)).getD j ByteArray.empty)):=by rw[dH];refine bH w _ _ j _ ?_;rw[jo] at a;simp[cA a]
theorem KM(nm:Bs)(w:aaK):Calls Tryz.prog 122 #[.slice (some ⟨w.heap.size,0,none⟩) 11 11,.string ⟨nm.toArray⟩] (w.alloc (.cells (elems.map fun x=>Value.string ⟨x.toArray⟩).toArray 9)) fun e w'=>e=.returned (.bool (elems.contains nm))∧w'=w.alloc (.cells (elems.map fun x=>Value.string ⟨x.toArray⟩).toArray 9):=by have h:=Tryz.slices_Contains_string w.heap.size 0 11 11 (elems.map fun b=>(⟨b.toArray⟩:aaM)) ⟨nm.toArray⟩ (w.alloc (.cells (elems.map fun x=>Value.string ⟨x.toArray⟩).toArray 9)) (by decide) (by decide) (fun j a=>Gq w elems j a);rw[oe (by decide),mr] at h;exact h
theorem Gr(w:aaK)(c:GL w):Calls Tryz.prog 153 #[.string ⟨rh.toArray⟩] w fun e w'=>e=.returned (.slice (some ⟨w.heap.size,0,none⟩) 11 11)∧w'=w.alloc (.cells (elems.map fun x=>Value.string ⟨x.toArray⟩).toArray 9):=by have h:=Tryz.strings_Fields ⟨rh.toArray⟩ w (by decide) (fun j b a=>DB j b (by simpa using a)) c.sp;rw[show(⟨rh.toArray⟩:aaM).data.toList=rh from rfl,BO] at h;exact h
section
variable{W:aaK}{p:Nat}{s:Bs}{i:Nat}{lv:aaL}{h:Int}
def Rc(p:Nat)(W:aaK)(s:Bs)(i:Nat)(lv:aaL)(h tag:Int)(q:Bool)(nm:Bs)(n:Nat):Ending→aaK→Prop:=fun e w'=>(q=true→e=.returned (.string ⟨nm.toArray⟩)∧LB w' p s (i+n) lv h∧ak p W w')∧(q=false→mL p W tag 11 e w')
theorem DC(c:aaK)(z:GL c)(E:Below c.heap.size c W)(I:c.heap.size≤p)(tag:Int)(K:i≤s.length)(x:LB W p s i lv h)(M:s.length≤1000000):
 Calls Tryz.prog 113 #[.pointer (some ⟨p,0,none⟩),.int .i64 tag] W (Rc p W s i lv h tag (elems.contains ((s.drop i).take (db s i))) ((s.drop i).take (db s i)) (db s i)):=by
 have b:=ad (NF K x M);obtain⟨n,B⟩:∃n,db s i=n:=⟨_,rfl⟩;rw[B] at b⊢;obtain⟨nm,C⟩:∃nm,(s.drop i).take n=nm:=⟨_,rfl⟩;rw[C] at b⊢;have d:=ad (KM nm);obtain⟨q,hq⟩:∃q,elems.contains nm=q:=⟨_,rfl⟩;rw[hq] at d⊢;clear B C hq;have L:=x.lt;have H:=ad z;have k:=ad E;clear E z;go_enter Tryz.func113,Tryz.ntmps113;go_wp2_with fail;refine b.o.m ?_;rintro e a⟨rfl,A,r⟩;have u:=ad A;have w:=ad r;have y:=ad (k.o.t (r.below I k.o.size));have D:p≤W.heap.size:=om L;clear A r b;go_wp2_with fail;refine(Gr a (H.o.next y.o)).m ?_;rintro e N⟨rfl,rfl⟩;have l:Below a.heap.size a (a.alloc (.cells (elems.map fun x=>Value.string ⟨x.toArray⟩).toArray 9)):=(ar _ _).alloc (ag _) _;have G:=ad (u.o.next l);have j:=ad (w.o.t (ak.ai l));clear l u w y k;go_wp2_with fail;refine(d.o a).m ?_;rintro e F⟨rfl,rfl⟩;clear d;generalize a.alloc (.cells (elems.map fun x=>Value.string ⟨x.toArray⟩).toArray 9)=F at*;rcases q with _|_
 ·go_wp2_with fail;refine(fE tag 11 F).m ?_;rintro e O⟨rfl,J⟩;go_wp2_with fail;exact⟨rfl,fun h=>(by cases h),fun _=>⟨rfl,(j.o.below (ag _) D).t (J.m (bP D j.o.size))⟩⟩
 ·go_wp2_with fail;go_ret;exact⟨fun _=>⟨rfl,G.o,j.o⟩,fun h=>(by cases h)⟩
end
end Go.Proofs.YtlemddnecmmfgaaGreatDoor
namespace Go.Proofs.YtlemddnecmmfgaaGreatDoor
open Go.RowKit Go.ChangeShapes Go.WideShapes Go.ChangeAt
variable{r:Option TypeDesc}{a:aaK}
theorem own:ownKnob Tryz.prog.godebug=none:=by kernel_rfl
theorem laidOut:laidOutB Tryz.prog=true:=by kernel_rfl
theorem yg(h:a.ShapedOpen Tryz.prog):Good a:=
 cell_of_shapedOpen_int (P:=Tryz.prog) (g:=0) (t:=3) (zero:=#[.int .i64 0]) h (dv (by kernel_rfl)) (by kernel_rfl) rfl (by kernel_rfl) (by kernel_rfl) u3
theorem EE{H:Type}{enc:TypeId×aaL→H}{C:Checked}{os:Os}{f:FuncId}{fn:Func}{s:OpenSpec}{b:List PathCond}{apart:Bool}{laid:List (String×DataW Unit)}(a:aaK)(args:Array aaL)(d:a.os=os)
 (h:(a.forCall (fun _ _=>0) ⟨#[],args,[]⟩).Shaped C.prog)
 (c:Input.okWideB C.prog (a.forCall (fun _ _=>0) ⟨#[],args,[]⟩) f ⟨#[],args,[]⟩=true)
 (e:s.preRow enc C.prog fn b apart laid (a.forCall (fun _ _=>0) ⟨#[],args,[]⟩).memory args):
 ∃(w:aaK) (tape:Tape) (i:Input),w.os=os∧(w.forCall tape i).Shaped C.prog∧i.vars=[]∧Input.okWide C.prog (w.forCall tape i) .any w.heap.size f i∧
  s.preRow enc C.prog fn b apart laid (w.forCall tape i).memory i.args∧({}:Assume).holds C.prog (lone (Frame.enter C.prog f i.args .normal) [] (w.forCall tape i)):=
 ⟨a,fun _ _=>0,⟨#[],args,[]⟩,d,h,(Input.okWide_of_okWideB (base:=0) c).1,(Input.okWide_of_okWideB c).2,e,by simp only[Assume.holds];exact⟨by simp,by simp,by simp,by simp,by simp⟩⟩
abbrev lj:List (String×DataW Unit):=Rows.pageAsksRow.laid
theorem O0(os:Os)(args:Array aaL):laidMetH Tryz.prog lj ((World.laidAll Tryz.prog os lj).forCall (fun _ _=>0) ⟨#[],args,[]⟩).memory:=by rw[MakeChecks.laidMetH_plain _ _ _ (by kernel_rfl)];exact laidMet_laidAll _ (by kernel_rfl) (by kernel_rfl)
theorem EF(os:Os)(args:Array aaL):((World.laidAll Tryz.prog os lj).forCall (fun _ _=>0) ⟨#[],args,[]⟩).Shaped Tryz.prog:=
 World.shaped_of_ZipB (by kernel_rfl) (by kernel_rfl)
theorem O1:(Tryz.prog.globals[4]?).map (·.type)=some 282:=by kernel_rfl
theorem O2:(Tryz.prog.globals[7]?).map (·.type)=some 123:=by kernel_rfl
theorem O3:(Tryz.prog.globals[8]?).map (·.type)=some 123:=by kernel_rfl
theorem JU: "*" ++ "errors.errorString" = "*errors.errorString" :=by decide
theorem O4(u:TypeId)(h:Tryz.prog.typeName? 3 u=some "*errors.errorString"):u=322:=
 typeName_ptr_named (nm:= "errors.errorString") (by rw[JU];kernel_rfl) (by kernel_rfl) (by decide) u (by rw[JU];exact h)
theorem VI:wv (Tryz.prog.underlying 324)=some [(0,9)]:=by kernel_rfl
theorem Uy{o:Nat}{c:TypeId}(h:wv r=some [(o,c)]):∃f,r=some (.struct #[f])∧f.type=c∧f.offset=o:=by
 obtain⟨⟨fs⟩,b,a⟩:=Cd h
 match fs,a,b with
 |[f],a,b=>simp only[kg,List.map_nil,Xy,kj,and_true] at a;exact⟨f,b,a.2,a.1⟩
theorem LG:∃f,Tryz.prog.underlying 324=some (.struct #[f])∧f.type=9∧f.offset=0:=Uy VI
def Uz:Option TypeDesc→Bool
 |some (.interface _)=>true
 |_=>false
theorem EG(h:Uz r=true):∃a,r=some (.interface a):=by
 cases r with
 |none=>cases h
 |some r=>cases r<;>first|(cases h;done)|exact⟨_,rfl⟩
theorem Y8:∃a,Tryz.prog.underlying 123=some (.interface a):=EG (by kernel_rfl)
theorem Sd:(Tryz.prog.globals[3]?).map (·.type)=some 245:=by kernel_rfl
theorem Hx(l:a.ShapedOpen Tryz.prog)(h:laidMet Tryz.prog lj a):GX a:=by obtain⟨f,k,d,j⟩:=LG;obtain⟨q,i⟩:=Y8;have b:=h.tail.tail;have c:=b.tail.tail;obtain⟨p,r,m,-,-,-⟩:=laid_sentinel c TE O3 i O4 (te:=324) (by kernel_rfl) k d j u9 (by kernel_rfl) TB;obtain⟨a1,s,o,-,-,-⟩:=laid_sentinel c.tail TF O2 i O4 (te:=324) (by kernel_rfl) k d j u9 (by kernel_rfl) TB;exact⟨yg l,Lib.tabIs_of_head TG O1 (n:=20) (e:=230) (by kernel_rfl) (by kernel_rfl) (by kernel_rfl) (by kernel_rfl) b,⟨_,_,o⟩,⟨_,_,m⟩⟩
theorem Hy(b:a.ShapedOpen Tryz.prog)(h:laidMet Tryz.prog lj a):GL a:=
 ⟨Hx b h,Lib.tabIs_of_head Vk Sd (n:=256) (e:=5) (by kernel_rfl) (by kernel_rfl) (by kernel_rfl) (by kernel_rfl) h.tail.tail.tail.tail.tail.tail.tail⟩
theorem EH(b:a.ShapedOpen Tryz.prog)(h:laidMetH Tryz.prog lj a):GL a:=Hy b (by rw[MakeChecks.laidMetH_plain _ _ _ (by kernel_rfl)] at h;exact h)
end Go.Proofs.YtlemddnecmmfgaaGreatDoor
namespace Go.Proofs.YtlemddnecmmfgaaGreatDoor
open Go.RowKit
variable{w:List bQ}{d:Nat→Prop}{e:aaK}
abbrev BF(a:bQ):List aaL:=[.string ⟨a.name.toArray⟩,.string ⟨a.val.toArray⟩,.int .i64 a.place]
abbrev Tk(a:bQ):aaL:=.agg #[.string ⟨a.name.toArray⟩,.string ⟨a.val.toArray⟩,.int .i64 a.place]
def fY:List bQ→List aaL
 |[]=>[]
 |a::r=>BF a++fY r
theorem xo:∀l m:List bQ,fY (l++m)=fY l++fY m
 |[],m=>rfl
 |a::r,m=>by rw[di,fY,fY,xo r m,jl]
theorem xz:∀{l:List bQ} {i:Nat} {a:bQ},l[i]? =some a→(fY l)[i*3]? =some (.string ⟨a.name.toArray⟩)∧(fY l)[i*3+1]? =some (.string ⟨a.val.toArray⟩)∧(fY l)[i*3+2]? =some (.int .i64 a.place)
 |[],_,_,h=>by simp at h
 |b::r,0,a,h=>by simp at h;subst h;exact⟨rfl,rfl,rfl⟩
 |b::r,i+1,a,h=>by
  obtain⟨c,d,e⟩:=xz (l:=r) (i:=i) (a:=a) (by simpa using h);rw[fY];refine⟨?_, ?_, ?_⟩
  ·rw[jL (by show 3≤_;omega)];rw[←c];congr 1;show(i+1)*3-3=_;omega
  ·rw[jL (by show 3≤_;omega)];rw[←d];congr 1;show(i+1)*3+1-3=_;omega
  ·rw[jL (by show 3≤_;omega)];rw[←e];congr 1;show(i+1)*3+2-3=_;omega
def aP(A:Nat→Prop)(W:aaK)(l:List bQ)(v:aaL):Prop:=(l=[]∧∃a c,v=.slice a 0 c)∨∃b o c,v=.slice (some ⟨b,o,none⟩) l.length c∧l.length≤c∧A b∧b<W.heap.size∧eI W b o (fY l)
theorem aP.cO{A A':Nat→Prop}{W W':aaK}{l:List bQ}{v:aaL}(h:aP A W l v)(m:W.heap.size≤W'.heap.size)(e:∀b,A b→b<W.heap.size→A' b∧W'.heap[b]? =W.heap[b]?):aP A' W' l v:=by
 rcases h with h|⟨b,o,c,i,j,d,a,k⟩
 ·exact .inl h
 ·exact .inr ⟨b,o,c,i,j,(e b d a).1,ej a m,k.cO (e b d a).2⟩
theorem aP.next{W W':aaK}{v:aaL}(h:aP d W w v)(a:Below W.heap.size W W'):aP d W' w v:=h.cO a.size fun b c e=>⟨c,a.block b e⟩
theorem aP.shape{v:aaL}(h:aP d e w v):∃a c,v=.slice a w.length c:=by rcases h with⟨rfl,a,c,rfl⟩|⟨b,o,c,rfl,_⟩<;>exact⟨_,_,rfl⟩
theorem aP.get{p:Option Addr}{n c i:Nat}{a:bQ}(h:aP d e w (.slice p n c))(m:w[i]? =some a):∃b o,p=some ⟨b,o,none⟩∧b<e.heap.size∧d b∧w.length≤c∧
 ∀B:BW e,B.val.cell? ⟨b,o+i*3,none⟩=some (.string ⟨a.name.toArray⟩)∧B.val.cell? ⟨b,o+i*3+1,none⟩=some (.string ⟨a.val.toArray⟩)∧B.val.cell? ⟨b,o+i*3+2,none⟩=some (.int .i64 a.place):=by
 rcases h with⟨rfl,_⟩|⟨b,o,D,x,y,z,k,C⟩
 ·simp at m
 ·injection x with q E r;subst q;subst r;refine⟨b,o,rfl,k,z,y,fun B=> ?_⟩;have j:=C.cO (B.below.block b k);obtain⟨s,t,u⟩:=xz m;exact⟨j _ _ s,by have:=j _ _ t;rw[←oh] at this;exact this,by have:=j _ _ u;rw[←oh] at this;exact this⟩
def tM(q:bQ→Bool)(l:List bQ):Int:=match l.findIdx? q with|some k=>(k:Int)|none=>-1
theorem K5{q:bQ→Bool}{l:List bQ}(h:∀k:Nat,∀a,l[k]? =some a→q a=false):tM q l=-1:=by unfold tM;rw[zL.2];intro a b;obtain⟨k,c⟩:=zP.1 b;exact h k a c
theorem K6{q:bQ→Bool}{l:List bQ}{k:Nat}{a:bQ}(h:∀j:Nat,j<k→∀a,l[j]? =some a→q a=false)(b:l[k]? =some a)(hq:q a=true):tM q l=(k:Int):=by unfold tM;have d:=(cH.1 b).1;rw[zM.2 ⟨d,by rw[(cH.1 b).2];exact hq,fun j c=> ?_⟩];have:=h j c _ (cA (by omega));simpa using this
theorem oK(f:FuncId)(ca:Array aaL)(q:bQ→Bool)(l:List bQ)(hl:l.length≤1000000)(S:Option Addr)(c:Nat)(w:aaK)(he:∀(vs:Array aaL) (w:aaK),(callFunc f vs).run Tryz.prog w=.ok (.enter f vs) w)
 (R:∀a∈l,∀W,Below w.heap.size w W→Calls Tryz.prog f (#[Tk a]++ca) W (cN W (.bool (q a))))(A:Nat→Prop)(d:aP A w l (.slice S l.length c)):
 Calls Tryz.prog 92 #[.slice S l.length c,.func (.func f) #[] ca] w (cN w (.int .i64 (tM q l))):=by
 have T:=ad R;have I:=ad d;obtain⟨V,s⟩:∃V,tM q l=V:=⟨_,rfl⟩;rw[s];have X:=ad (fun h=>s.symm.t (K5 (q:=q) (l:=l) h));have Z:=ad (fun k a h d hq=>s.symm.t (K6 (q:=q) (l:=l) (k:=k) (a:=a) h d hq));obtain⟨n,C⟩:∃n,l.length=n:=⟨_,rfl⟩;have J:=ad C;rw[C] at I hl⊢;clear R d s C;go_enter Tryz.func92,Tryz.ntmps92;go_upto_region 2 with fail
 go_loopw [8] (fun E wr=>∃i:Nat,i≤n∧E=.int .i64 i∧Hid (∀j:Nat,j<i→∀a,l[j]? =some a→q a=false)∧Hid (Below w.heap.size w wr)) (fun E _=>n-(intOf E).toNat)
 case atStart=>exact⟨0,aH _,rfl,ad (fun j hj=>by omega),ad (ar _ _)⟩
 case round=>
  obtain⟨i,hi,rfl,y,p⟩:=hrel;by_cases ab:i<n
  ·have i1:(i:Int)<(n:Int):=by omega
   have i0:(0:Int)≤(i:Int):=by omega
   obtain⟨a,u⟩:∃a,l[i]? =some a:=⟨_,cA (by rw[J.o];exact ab)⟩;have F:=ad u;obtain⟨b,o,rfl,hb,-,-,Q⟩:=I.o.get u;obtain⟨L,M,N⟩:=Q ⟨wr,p.o⟩;dsimp only at L M N;have H:=ad (T.o a (eQ u) wr p.o);obtain⟨r,D⟩:∃r,q a=r:=⟨_,rfl⟩;rw[D] at H;have K:=ad D;clear u Q D hb;go_wp2_with fail;refine H.o.m ?_;rintro e w3⟨rfl,O⟩;have G:=ad (p.o.t (O.m p.o.size));clear O L M N;rcases r with _|_
   ·have Y:=ad (fun(j:Nat) (hj:j<i+1) (z:bQ) (B:l[j]? =some z)=>show q z=false by
     by_cases aa:j<i
     ·exact y.o j aa z B
     ·obtain rfl:j=i:=by omega
      rw[F.o] at B;cases B;exact K.o)
    go_wp2_with fail
    go_roundw
    case rel=>exact⟨i+1,by omega,by go_num,Y,G⟩
    case measure=>(simp[intOf]<;>omega)
   ·have x:=ad (Z.o i a y.o F.o K.o);go_wp2_with fail;go_ret;exact⟨by rw[x.o];rfl,G.o⟩
  ·obtain rfl:i=n:=by omega
   have x:=ad (X.o fun k a d=>y.o k (by rw[←J.o];exact(cH.1 d).1) a d);go_wp2_with fail;go_ret;exact⟨by rw[x.o];rfl,p.o⟩
theorem N9(q:bQ→Bool)(l:List bQ):decide (0≤tM q l)=l.any q:=by
 unfold tM;cases h:l.findIdx? q with
 |none=>rw[zL] at h;rw[List.any_eq_false.2 fun a b=>by rw[h a b];decide];rfl
 |some k=>obtain⟨c,hq,_⟩:=zM.1 h;rw[lF.2 ⟨_,wI c,hq⟩];exact bN (Int.natCast_nonneg k)
theorem lL(f:FuncId)(ca:Array aaL)(q:bQ→Bool)(l:List bQ)(r:l.length≤1000000)(b:Option Addr)(c:Nat)(w:aaK)(h:∀(vs:Array aaL) (w:aaK),(callFunc f vs).run Tryz.prog w=.ok (.enter f vs) w)
 (d:∀a∈l,∀W,Below w.heap.size w W→Calls Tryz.prog f (#[Tk a]++ca) W (cN W (.bool (q a))))(A:Nat→Prop)(i:aP A w l (.slice b l.length c)):
 Calls Tryz.prog 120 #[.slice b l.length c,.func (.func f) #[] ca] w (cN w (.bool (l.any q))):=by
 have k:=ad (oK f ca q l r b c w h d A i);have j:=ad (N9 q l);generalize tM q l=V at*;generalize l.any q=R at*;generalize l.length=n at*;clear d i h;go_enter Tryz.func120,Tryz.ntmps120;go_wp2_with fail;refine k.o.m ?_;rintro e s⟨rfl,p⟩;go_wp2_with fail;go_ret;exact⟨cq j.o,p⟩
variable{a:Bs}{z:Int}{u y:Nat}{b:UInt8}{d:aaK}{A:aaL}
theorem KN(nm:Bs)(b:bQ)(a:Nat)(W:aaK)(d:W.cell? ⟨a,0,none⟩=some (.string ⟨nm.toArray⟩)):
 Calls Tryz.prog 155 #[Tk b,.pointer (some ⟨a,0,none⟩)] W (cN W (.bool (nm==b.name))):=by
 have c:Below W.heap.size W (W.alloc (.cells (BF b).toArray 159)):=(ar _ _).alloc (ag _) _;have e:=ad c;have h:(W.alloc (.cells (BF b).toArray 159)).cell? ⟨a,0,none⟩=some (.string ⟨nm.toArray⟩):=(c.cell (p:=⟨a,0,none⟩) (aV d)).t d;have i:=bH W (BF b).toArray 159 0 _ rfl;clear c d;go_enter Tryz.func155,Tryz.ntmps155;go_wp2_with fail;go_ret;exact⟨rfl,e.o⟩
structure TZ (s:Bs) (tag i:Nat) (l:List bQ) (nm:Bs) (j:Nat) (R:Lx bQ):Prop where
 dup:l.any (fun b=>nm==b.name)=true→R=.bad i 12
 Wz:l.any (fun b=>nm==b.name)=false→s.drop j=[]→R=.bad tag 14
 eq:l.any (fun b=>nm==b.name)=false→∀c r,s.drop j=c::r→(c==61&& !nm.isEmpty)=false→R=.bad j 12
 WA:l.any (fun b=>nm==b.name)=false→nm≠[]→s.drop j=[61]→R=.bad tag 14
 mark:l.any (fun b=>nm==b.name)=false→nm≠[]→∀m q,s.drop j=61::m::q→(m==34||m==39)=false→R=.bad (j+1) 12
 open_:l.any (fun b=>nm==b.name)=false→nm≠[]→∀m q,s.drop j=61::m::q→(m==34||m==39)=true→q.contains m=false→R=.bad tag 14
 aq:l.any (fun b=>nm==b.name)=false→nm≠[]→∀m q,s.drop j=61::m::q→(m==34||m==39)=true→q.contains m=true→R=.aq ⟨nm,upto m q,(i:Int)⟩ (j+2+(upto m q).length+1)
theorem Rd{tag i:Nat}{l:List bQ}{nm:Bs}{j:Nat}(u:(a.drop i).take (min 16 (db a i))=nm)(t:i+nm.length=j):TZ a tag i l nm j (fU a tag i l):=by
 have k:fU a tag i l=if l.any (fun b=>nm==b.name) then .bad i 12 else
  match a.drop j with
  |[]=>.bad tag 14
  |c::r=>
   if c==61&& !nm.isEmpty then
    match r with
    |[]=>.bad tag 14
    |m::q=>
     if m==34||m==39 then
      (if q.contains m then .aq ⟨nm,upto m q,(i:Int)⟩ (j+2+(upto m q).length+1) else .bad tag 14)
     else .bad (j+1) 12
   else .bad j 12:=by
  subst t;subst u;rfl
 have o:nm≠[]→nm.isEmpty=false:=fun h=>by cases nm with|nil=>exact(h rfl).elim|cons=>rfl
 refine⟨fun h=> ?_,fun h d=> ?_,fun h c r d e=> ?_,fun h d e=> ?_,fun h d m q e n=> ?_,fun h d m q e n p=> ?_,fun h d m q e n p=> ?_⟩
 ·rw[k,h];rfl
 ·rw[k,h,d];rfl
 ·rw[k,h,d];simp only[wG,if_false];rw[e];rfl
 ·rw[k,h,e,o d];rfl
 ·rw[k,h,e,o d];simp only[wG,if_false,qS,Bool.not_false,Bool.and_self,if_true];rw[n];rfl
 ·rw[k,h,e,o d];simp only[wG,if_false,qS,Bool.not_false,Bool.and_self,if_true];rw[n,p];rfl
 ·rw[k,h,e,o d];simp only[wG,if_false,qS,Bool.not_false,Bool.and_self,if_true];rw[n,p];rfl
theorem vY(s:Bs)(a b:Nat)(v:Bs)(h:(s.drop a).take (b-a)=v):((⟨s.toArray⟩:aaM).extract a b)=⟨v.toArray⟩:=by apply uG;apply Array.ext';rw[cf];simpa using h
theorem jx{p b j:Nat}{W W':aaK}{v:aaL}(h:ak p W W')(d:W.heap.size≤b):ak p W (W'.setCell ⟨b,j,none⟩ v):=
 ⟨h.os,h.tape,h.output,by
  have:(W'.setCell ⟨b,j,none⟩ v).heap.size=W'.heap.size:=by simp[World.setCell]
  rw[this];exact h.size,fun k a c=>(dy W' ⟨b,j,none⟩ v k (by show k≠b;omega)).t (h.block k a c)⟩
theorem Ao{w:aaK}{b v0 v1 v2:aaL}(c:LB w u a y b z)(l:w.heap[d.heap.size]? =some (.cells #[.string ⟨#[]⟩,.string ⟨#[]⟩,.int .i64 0] 159))(m:ak u d w)(n:0≤0)(k:d.heap.size≠u):
 (((w.setCell ⟨d.heap.size,0,none⟩ v0).setCell ⟨d.heap.size,1,none⟩ v1).setCell ⟨d.heap.size,2,none⟩ v2).heap[d.heap.size]? =some (.cells #[v0,v1,v2] 159)∧
 LB (((w.setCell ⟨d.heap.size,0,none⟩ v0).setCell ⟨d.heap.size,1,none⟩ v1).setCell ⟨d.heap.size,2,none⟩ v2) u a y b z∧
 ak u d (((w.setCell ⟨d.heap.size,0,none⟩ v0).setCell ⟨d.heap.size,1,none⟩ v1).setCell ⟨d.heap.size,2,none⟩ v2):=by
 refine⟨aw (j:=2) (aw (j:=1) (aw (j:=0) l)), ?_,jx (jx (jx m (ag _)) (ag _)) (ag _)⟩;have e:∀(w:aaK) (j:Nat) (v:aaL),LB w u a y b z→LB (w.setCell ⟨d.heap.size,j,none⟩ v) u a y b z:=fun w j v c=>(dy w ⟨d.heap.size,j,none⟩ v u (by show u≠d.heap.size;exact eo k)).t c;exact e _ _ _ (e _ _ _ (e _ _ _ c))
theorem sw{fn:Func}{tmps:Array aaL}{v1 v2:aaL}(h:fn.results=#[.cell y 159])(c:tmps.getD y undef=.pointer (some ⟨u,0,none⟩))(a:d.heap[u]? =some (.cells #[A,v1,v2] 159)):
 (results fn tmps).run Tryz.prog d=.ok (.agg #[A,v1,v2]) d:=by
 obtain⟨i,j,k⟩:=qX3 (aj a) 0 1 2;have e:tmps[y]?.getD undef=.pointer (some ⟨u,0,none⟩):=by rw[←c];simp
 simp[results,h,go_sem,e,i,j,k]
theorem nz{d:UInt8}(h:(b==d)=false):((b.toNat:Int)==(d.toNat:Int))=false:=by rw[aL] at h⊢;intro e;exact h (UInt8.toNat_inj.1 (by omega))
theorem Gs(h:(b==34||b==39)=true):b=34∨b=39:=by rw[wH,bZ,bZ] at h;exact h
def Re(p:Nat)(W:aaK)(s:Bs)(b:aaL)(h:Int):Lx bQ→Ending→aaK→Prop
 |.aq a t=>fun e w'=>e=.returned (Tk a)∧LB w' p s t b h∧ak p W w'
 |.bad q c=>mL p W q c
theorem NG(tag:Nat)(l:List bQ)(hl:l.length≤1000000)(sa:Option Addr)(sc:Nat)(d8:aP (fun b=>b≠u) d l (.slice sa l.length sc))(hi:y≤a.length)(x:LB d u a y A z)(hs:a.length≤1000000):
 Calls Tryz.prog 116 #[.pointer (some ⟨u,0,none⟩),.int .i64 (tag:Int),.slice sa l.length sc] d (Re u d a A z (fU a tag y l)):=by
 have hn:=iI a hi;have co:=ad (fun k (hk:k<db a y)=>BN (q:=mo) (l:=a.drop y) (k:=k) hk);have ct:=ad (fun c (hc:(a.drop y)[db a y]? =some c)=>xn (q:=mo) (l:=a.drop y) hc);obtain⟨nm,ch⟩:∃nm,(a.drop y).take (min 16 (db a y))=nm:=⟨_,rfl⟩;have b7:nm.length=min 16 (db a y):=by rw[←ch,gu,bK];omega
 have HR:=ad (Rd (tag:=tag) (l:=l) ch rfl);have cs:=ad ch;obtain⟨R,hR⟩:∃R,fU a tag y l=R:=⟨_,rfl⟩;rw[hR] at HR⊢;clear hR ch;obtain⟨n0,eb⟩:∃n,db a y=n:=⟨_,rfl⟩;rw[eb] at hn co ct cs b7;obtain⟨n,ds⟩:∃n,min 16 n0=n:=⟨_,rfl⟩;rw[ds] at cs b7;rw[b7] at HR;have HN:=ad (And.intro ds.symm (show n≤16∧n≤n0∧(n<16→n=n0) by omega));clear eb ds;have e3:=ad b7;clear b7;have hA:Below d.heap.size d (d.alloc (.cells #[.string ⟨#[]⟩,.string ⟨#[]⟩,.int .i64 0] 159)):=(ar _ _).alloc (ag _) _;have c7:=ad (x.next hA);have d5:=ad (ak.ai (p:=u) hA);have d6:=ad (d8.next hA);have cx:=ad (au d (.cells #[.string ⟨#[]⟩,.string ⟨#[]⟩,.int .i64 0] 159));have hp:=x.lt;obtain⟨c0,E,-,-,-,-,-⟩:=c7.o.lc;clear d8 x hA;go_enter Tryz.func116,Tryz.ntmps116;go_upto_region 1 with fail;generalize d.alloc (.cells #[.string ⟨#[]⟩,.string ⟨#[]⟩,.int .i64 0] 159)=W0 at*;go_upto_region 2 with fail;clear c0 E
 go_loopw [] (fun wr=>∃k:Nat,k≤n∧Hid (LB wr u a (y+k) A z)∧Hid (ak u W0 wr)) (fun wr=>a.length-j4 wr u)
 case atStart=>exact⟨0,aH _,c7,ad (ak.refl _ _)⟩
 case round=>
  obtain⟨k,hk,HB,HT⟩:=hrel;obtain⟨c0,E,-,-,K,-,-⟩:=HB.o.lc;have c9:=ad HB.o.at_;obtain⟨et,eu,ec⟩:=HN.o.2;obtain⟨C,hm⟩:∃C,y+k=C:=⟨_,rfl⟩;rw[hm] at HB E c9;have m0:(0:Int)≤(C:Int):=by omega
  by_cases er:k<n
  ·have m1:(C:Int)<(a.length:Int):=by omega
   have m2:(C:Int)-(y:Int)<16:=by omega
   have a9:C<a.length:=by omega
   obtain⟨c,hc,ea⟩:=co.o k (by omega);rw[qD,hm] at hc;have HS:=ad (show∀d:aaK,Calls Tryz.prog 154 #[.int .u8 (((⟨a.toArray⟩:aaM)[C]'(by simpa[ByteArray.size] using a9)).toNat:Int)] d fun e w'=>e=.returned (.bool true)∧w'=d from fun d=>by
    have:((⟨a.toArray⟩:aaM)[C]'(by simpa[ByteArray.size] using a9))=c:=by show a[C]=c;exact(cH.1 hc).2
    rw[this,←ea];exact(pY c d).m fun e w' ⟨h1,h2⟩=>⟨h1,h2.symm⟩)
   clear hc ea;go_upto_region 2 with fail
   go_quiet ((go_at_call 154;with_reducible exact mG (HS.o _)))
   have ac:=ad (HB.o.next (ax wr nq));have cd:=ad (HT.o.t (ak.ai (ax wr nq)));clear c0 E K HB HT HS;generalize wr.drewN nq=w4 at*;obtain⟨-,E,-,-,K,-,-⟩:=ac.o.lc;have HE:=ad (ac.o.iD (C+1));rw[show((C+1:Nat):Int)=(C:Int)+1 by omega] at HE;have i9:(C:Int)+1≤1000001:=by omega
   go_wp2_with fail
   go_roundw
   case rel=>exact⟨k+1,by omega,by rw[show y+(k+1)=C+1 by omega];exact HE,ad cd.o.set⟩
   case measure=>(show a.length-j4 _ u<a.length-j4 wr u;rw[HE.o.at_,c9.out];omega)
  ·obtain rfl:k=n:=by omega
   go_upto_region 2 with fail
   go_cut [45] (fun t wx=>t=.bool false∧Hid (Below wr.heap.size wr wx))
   case first=>
    by_cases a9:C<a.length
    ·have m1:(C:Int)<(a.length:Int):=by omega
     obtain⟨q,hq⟩:∃q,mo a[C]=q:=⟨_,rfl⟩;have HS:=ad (show∀d:aaK,Calls Tryz.prog 154 #[.int .u8 (((⟨a.toArray⟩:aaM)[C]'(by simpa[ByteArray.size] using a9)).toNat:Int)] d fun e w'=>e=.returned (.bool q)∧w'=d from fun d=>by
      rw[show((⟨a.toArray⟩:aaM)[C]'(by simpa[ByteArray.size] using a9))=a[C] from rfl,←hq]
      exact(pY a[C] d).m fun e w' ⟨h1,h2⟩=>⟨h1,h2.symm⟩)
     rcases q with _|_
     ·clear hq
      go_quiet ((go_at_call 154;with_reducible exact mG (HS.o _)))
      go_wp2_with fail
      go_meet
      exact⟨rfl,ad (ax _ _)⟩
     ·have m2:¬(C:Int)-(y:Int)<16:=by
       by_cases en:k<16
       ·exfalso;have:=ct.o a[C] (by rw[qD,←ec en,hm];exact cA a9);rw[hq] at this;cases this
       ·omega
      clear hq
      go_quiet ((go_at_call 154;with_reducible exact mG (HS.o _)))
      go_wp2_with fail
      go_meet
      exact⟨rfl,ad (ax _ _)⟩
    ·have m1:decide ((C:Int)<(a.length:Int))=false:=cL (by omega)
     go_quiet (fail)
     go_wp2_with fail
     go_meet
     exact⟨rfl,ad (ax _ _)⟩
   case rest=>
   obtain⟨rfl,cb⟩:=hcut;go_upto_region 4 with fail;have ac:=ad (HB.o.next cb.o);have cd:=ad (HT.o.t (ak.ai cb.o));have d4:=ad (bP HT.o.size cb.o.size);rw[hm] at HR;clear c0 E K HB HT cb c9 co ct;obtain⟨c0,E,-,-,K,-,-⟩:=ac.o.lc;have hx:((⟨a.toArray⟩:aaM).extract y C)=⟨nm.toArray⟩:=by apply uG;apply Array.ext';rw[cf,←cs.o];simp[show C-y=k by omega]
   have i8:(y:Int)≤(C:Int):=by omega
   have i7:(C:Int)≤(a.length:Int):=by omega
   have i6:(0:Int)≤(y:Int):=by omega
   have a9:C≤a.length:=by omega
   clear hm hk er et eu ec HN hn;have el:∀a5,(wc.alloc a5).cell? ⟨u,0,none⟩=some (.string ⟨a.toArray⟩):=fun a5=>(ac.o.next ((ar _ _).alloc (ag _) a5)).lc.c0;have em:∀a5,(wc.alloc a5).cell? ⟨u,1,none⟩=some (.int .i64 (C:Int)):=fun a5=>(ac.o.next ((ar _ _).alloc (ag _) a5)).lc.c1;go_region;have hA2:Below wc.heap.size wc (wc.alloc (.cells #[.string ⟨nm.toArray⟩,.string ⟨#[]⟩,.int .i64 (y:Int)] 159)).drew:=((ar _ _).alloc (ag _) _).drew;have d3:=ad (ac.o.next hA2);have bJ:=ad (cd.o.t (ak.ai hA2));have bm:=ad (show(wc.alloc (.cells #[.string ⟨nm.toArray⟩,.string ⟨#[]⟩,.int .i64 (y:Int)] 159)).drew.heap[wc.heap.size]? =some (.cells #[.string ⟨nm.toArray⟩,.string ⟨#[]⟩,.int .i64 (y:Int)] 159) from au wc _);have d7:=ad (d6.o.cO bJ.o.size (A':=fun b=>b≠u) fun b h1 h2=>⟨h1,bJ.o.block b h2 (by intro e;cases e;exact h1 rfl)⟩);have ek:=(aB.1 cx.o).1;have cK:=ad ((bJ.o.block d.heap.size ek (by intro e;cases e;omega)).t cx.o);have F:=ad (show u<wc.heap.size∧d.heap.size<wc.heap.size∧d.heap.size≠u by have:=d4.o;have:=ac.o.lt;omega);have am:=ad (d5.o.t bJ.o);clear hA2 c0 E K el em ac cd d4 bJ d6 cx c7 d5 ek hx;generalize(wc.alloc (.cells #[.string ⟨nm.toArray⟩,.string ⟨#[]⟩,.int .i64 (y:Int)] 159)).drew=W2 at*;generalize wc.heap.size=D at*;have e4:∀(fn:Fn) (first cap:Array aaL) (w:aaK),(Instr.makeFunc fn first cap).run Tryz.prog w=.ok (.func fn first cap) w:=fun _ _ _ _=>rfl;have cc:=ad (lL 155 #[.pointer (some ⟨D,0,none⟩)] (fun b=>nm==b.name) l hl sa sc W2 (fun vs w=>cP Tryz.func155 (by kernel_rfl) rfl vs w)
    (fun b _ W3 h3=>KN nm b D W3 (tH _ _ 0 _ _ _ ((h3.block _ (aB.1 bm.o).1).t bm.o))) _ d7.o)
   obtain⟨c8,hd⟩:∃c8,(l.any fun b=>nm==b.name)=c8:=⟨_,rfl⟩;rw[hd] at cc;have Y:=ad hd;obtain⟨N,hN⟩:∃N,l.length=N:=⟨_,rfl⟩;rw[hN] at cc⊢;clear hd hN d7;go_wp2_with fail;refine cc.o.m ?_;rintro e w6⟨rfl,b4⟩;have b8:=ad (d3.o.next b4);have an:=ad (am.o.t (ak.ai b4));have cl:=ad ((b4.block _ (aB.1 bm.o).1).t bm.o);have c2:=ad ((b4.block _ (aB.1 cK.o).1).t cK.o);clear b4 d3 am bm cK cc;have am:=an;clear an;have G:u≤d.heap.size:=om hp;have Z:=ad HR.o;clear HR;rcases c8 with _|_
   ·cases hd:a.drop C with
    |nil=>
     obtain rfl:=Z.o.Wz Y.o hd;have dp:C=a.length:=by have:=List.drop_eq_nil_iff.1 hd;omega
     clear hd;go_wp2_with fail;refine(iY tag dp b8.o hs).m ?_;rintro e wz⟨rfl,H⟩;go_wp2_with fail;exact⟨rfl,rfl,(am.o.below (ag _) G).t (H.m (bP G am.o.size))⟩
    |cons c r=>
     have J:=ad hd;have e5:=ku hd;go_wp2_with fail;refine(cX tag J.o b8.o hs).m ?_;rintro e w7⟨rfl,b5⟩;have b9:=ad (b8.o.next b5);have an:=ad (am.o.t (ak.ai b5));have bd:=ad ((b5.block _ (aB.1 cl.o).1).t cl.o);have c3:=ad ((b5.block _ (aB.1 c2.o).1).t c2.o);clear b5 b8 am cl c2;clear hd;rcases dT (c=61) with rfl|hc
     ·rcases dT (nm=[]) with rfl|dq
      ·obtain rfl:=Z.o.eq Y.o _ _ J.o rfl;have n0:=aj bd.o 0;go_wp2_with fail;refine(lP tag J.o b9.o hs).m ?_;rintro e wz⟨rfl,H⟩;go_wp2_with fail;exact⟨rfl,rfl,(an.o.below (ag _) G).t (H.m (bP G an.o.size))⟩
      ·have n0:=tH _ _ 0 _ _ _ bd.o;have hq:nm.isEmpty=false:=by cases nm with|nil=>exact(dq rfl).elim|cons=>rfl
       have bg:=ad dq;clear dq;go_wp2_with fail;refine(jQ tag J.o b9.o hs).m ?_;rintro e w8⟨rfl,d9,ci⟩;clear n0 hq;have ca:=ad d9;have ce:=ad (an.o.t ci);have cn:=ad ((ci.block _ (aB.1 bd.o).1 (by intro e;cases e;have:=F.o;omega)).t bd.o);have c4:=ad ((ci.block _ (aB.1 c3.o).1 (by intro e;cases e;exact absurd rfl F.o.2.2)).t c3.o);clear d9 ci b9 an bd c3;cases hr:r with
       |nil=>
        subst hr;obtain rfl:=Z.o.WA Y.o bg.o J.o;have dp:C+1=a.length:=by have:=drop_cons J.o;simpa using this
        go_wp2_with fail;refine(iY tag dp ca.o hs).m ?_;rintro e wz⟨rfl,H⟩;go_wp2_with fail;exact⟨rfl,rfl,(ce.o.below (ag _) G).t (H.m (bP G ce.o.size))⟩
       |cons mk q=>
        subst hr;have dl:a.drop (C+1)=mk::q:=tK J.o;have ay:=ad dl;have e6:=ku dl;clear dl;go_wp2_with fail;refine(cX tag ay.o ca.o hs).m ?_;rintro e w9⟨rfl,b6⟩;have bo:=ad (ca.o.next b6);have bk:=ad (ce.o.t (ak.ai b6));have be:=ad ((b6.block _ (aB.1 cn.o).1).t cn.o);have bi:=ad ((b6.block _ (aB.1 c4.o).1).t c4.o);clear b6 ca ce cn c4;obtain⟨e1,a8⟩:∃b,(mk==34||mk==39)=b:=⟨_,rfl⟩;have bf:=ad a8;rcases e1 with _|_
        ·have q1:((mk.toNat:Int)==34)=false:=by rw[uF] at a8;exact nz a8.1
         have q2:((mk.toNat:Int)==39)=false:=by rw[uF] at a8;exact nz a8.2
         clear a8;obtain rfl:=Z.o.mark Y.o bg.o _ _ J.o bf.o;go_wp2_with fail;refine(lP tag ay.o bo.o hs).m ?_;rintro e wz⟨rfl,H⟩;go_wp2_with fail;exact⟨rfl,rfl,(bk.o.below (ag _) G).t (H.m (bP G bk.o.size))⟩
        ·clear a8;go_upto_region 9 with fail;rcases Gs bf.o with rfl|rfl
         ·go_wp2_with fail;refine(jQ tag ay.o bo.o hs).m ?_;rintro e M⟨rfl,b3,ao⟩;have a0:=ad b3;have al:=ad (bk.o.t ao);have aN:=ad ((ao.block _ (aB.1 be.o).1 (by intro e;cases e;have:=F.o;omega)).t be.o);have a3:=ad ((ao.block _ (aB.1 bi.o).1 (by intro e;cases e;exact absurd rfl F.o.2.2)).t bi.o);clear b3 ao bo bk be bi;have a7:a.drop (C+1+1)=q:=tK ay.o;have ev:C+1+1+q.length=a.length:=by have:=drop_cons ay.o;omega
          have d2:((⟨a.toArray⟩:aaM).extract (C+1+1) a.length)=⟨q.toArray⟩:=by have:=ic a (C+1+1) a.length (ag _);rw[a7] at this;exact this
          have Q:=(show∀d:aaK,Calls Tryz.prog 30 #[.string ⟨q.toArray⟩,.int .u8 34] d fun e w'=>e=.returned (.int .i64 (if q.contains 34 then(lead (·!=34) q:Int) else-1))∧w'=d from fun d=>(eO ⟨q.toArray⟩ 34 d).m fun e w' ⟨h1,h2⟩=>⟨h1,h2.symm⟩);obtain⟨hit,L⟩:∃b,q.contains 34=b:=⟨_,rfl⟩;rw[L] at Q;obtain⟨c0,E,-,-,K,-,-⟩:=a0.o.lc;have j0:(0:Int)≤(C:Int)+1+1:=by omega
          have j1:(C:Int)+1+1≤(a.length:Int):=by omega
          have a6:M.cell? ⟨u,1,none⟩=some (.int .i64 ((C:Int)+1+1)):=by rw[E];rfl
          clear E;rcases hit with _|_
          ·have HC:=ad (show∀d:aaK,Calls Tryz.prog 30 #[.string ⟨q.toArray⟩,.int .u8 34] d fun e w'=>e=.returned (.int .i64 (-1))∧w'=d from Q);obtain rfl:=Z.o.open_ Y.o bg.o _ _ J.o bf.o L;clear Q L;go_upto_region 10 with fail
           go_quiet ((go_at_call 30;with_reducible exact mG (HC.o _)))
           go_wp2_with fail;refine(fE tag 14 _).m ?_;rintro e wz⟨rfl,H⟩;go_wp2_with fail;exact⟨rfl,rfl,(al.o.below (ag _) G).t ((ar _ _).t (show Below u _ _ from((show Below M.heap.size M (M.drewN nq) from ax _ _).t H).m (bP G al.o.size)))⟩
          ·obtain⟨t,T⟩:∃t,lead (·!=34) q=t:=⟨_,rfl⟩;have e0:t<q.length:=by rw[←T];exact kx 34 q L
           have HC:=ad (show∀d:aaK,Calls Tryz.prog 30 #[.string ⟨q.toArray⟩,.int .u8 34] d fun e w'=>e=.returned (.int .i64 (t:Int))∧w'=d from T▸Q);have hg:=Z.o.aq Y.o bg.o _ _ J.o bf.o L;have ap:(upto 34 q).length=t:=T;rw[ap] at hg;subst hg;have bb:((⟨a.toArray⟩:aaM).extract (C+1+1) (C+1+1+t))=⟨(upto 34 q).toArray⟩:=vY a _ _ _ (by rw[show C+1+1+t-(C+1+1)=t by omega,a7,←T];exact kF 34 q);clear Q L T a7;obtain⟨V,hV⟩:∃V,upto 34 q=V:=⟨_,rfl⟩;rw[hV] at bb ap⊢;have c6:=ad (And.intro hV ap);clear hV ap;go_upto_region 10 with fail
           go_quiet ((go_at_call 30;with_reducible exact mG (HC.o _)))
           have S:=ax M nq;have ab:=ad (a0.o.next S);have bs:=ad (al.o.t (ak.ai S));have aU:=ad ((S.block _ (aB.1 aN.o).1).t aN.o);have a4:=ad ((S.block _ (aB.1 a3.o).1).t a3.o);clear S a0 al aN a3;clear c0 a6 K d2 HC;generalize M.drewN nq=I at*;have k0:(0:Int)≤(t:Int):=by omega
           have k1:(C:Int)+1+1+(t:Int)≤(a.length:Int):=by omega
           have k2:(C:Int)+1+1≤(C:Int)+1+1+(t:Int):=by omega
           have k3:IntKind.i64.wrap ((C:Int)+1+1+(t:Int))=(C:Int)+1+1+(t:Int):=Xu _ (by omega);go_upto_region 13 with fail;have d0:∀B:BW I,B.val.cell? ⟨u,0,none⟩=some (.string ⟨a.toArray⟩):=fun B=>(ab.o.next B.below).lc.c0;have d1:∀B:BW I,B.val.cell? ⟨u,1,none⟩=some (.int .i64 ((C:Int)+1+1)):=fun B=>(ab.o.next B.below).lc.c1
           haveI:Nonempty (BW I):=⟨⟨I,ar _ _⟩⟩
           refine aY 16 (fun B:BW I=>B.val) ⟨I.drew,ax I 1⟩ rfl (by kernel_rfl) (by rfl) (by rfl) (by kernel_rfl) (by kernel_rfl) (by kernel_rfl) ?_;simp only[ki,kL];repeat(quiet_step (fail))
           refine wpQuiet_nil ?_;rintro w'⟨B,rfl⟩;rw[ah (by rfl)];have bn:=ad (ab.o.next B.below);have bv:=ad (bs.o.t (ak.ai B.below));have aa:=ad ((B.below.block _ (aB.1 aU.o).1).t aU.o);have bp:=ad ((B.below.block _ (aB.1 a4.o).1).t a4.o);clear d0 d1 ab bs aU a4;have a1:=aj aa.o 1;have af:=aF _ _ 1 _ _ aa.o;go_simp;generalize B.val=X at*;rw[show((C:Int)+1+1).toNat=C+1+1 by omega,show((C:Int)+1+1+(t:Int)).toNat=C+1+1+t by omega,bb];have a2:=ad (show LB (X.setCell ⟨D,1,none⟩ (.string ⟨V.toArray⟩)) u a (C+1+1) A z from(dy X ⟨D,1,none⟩ _ u (by have:=F.o;show u≠D;omega)).t bn.o);have bl:=ad (show(X.setCell ⟨D,1,none⟩ (.string ⟨V.toArray⟩)).heap[D]? =some (.cells #[.string ⟨nm.toArray⟩,.string ⟨V.toArray⟩,.int .i64 (y:Int)] 159) from aw (j:=1) aa.o);have br:=ad ((dy X ⟨D,1,none⟩ (.string ⟨V.toArray⟩) d.heap.size (by have:=F.o;show d.heap.size≠D;omega)).t bp.o);have bx:=ad (jx bv.o (b:=D) (j:=1) (v:=.string ⟨V.toArray⟩) (by have:=F.o;omega));clear a1 af bn aa bp bv bb k1 k2 k3;generalize X.setCell ⟨D,1,none⟩ (.string ⟨V.toArray⟩)=av at*;obtain⟨-,E,-,-,K,-,-⟩:=a2.o.lc;have a6:av.cell? ⟨u,1,none⟩=some (.int .i64 ((C:Int)+1+1)):=by rw[E];rfl
           clear E;have HE:=ad (a2.o.iD (C+2+t+1));rw[show((C+2+t+1:Nat):Int)=(C:Int)+1+1+((t:Int)+1) by omega] at HE;have ck:=ad ((dy av ⟨u,1,none⟩ (.int .i64 ((C:Int)+1+1+((t:Int)+1))) D (by have:=F.o;show D≠u;omega)).t bl.o);have O:=ad ((dy av ⟨u,1,none⟩ (.int .i64 ((C:Int)+1+1+((t:Int)+1))) d.heap.size F.o.2.2).t br.o);have c5:=ad (bx.o.set (j:=1) (v:=.int .i64 ((C:Int)+1+1+((t:Int)+1))));clear a2 bl br bx;go_upto_region 15 with fail;clear a6 K;generalize av.setCell ⟨u,1,none⟩ (.int .i64 ((C:Int)+1+1+((t:Int)+1)))=e2 at*;obtain⟨b0,b1,b2⟩:=qX3 (aj ck.o) 0 1 2;obtain⟨r0,r1,r2⟩:=qX3 (aj O.o) 0 1 2;have g0:=aF _ _ 0 _ _ O.o;have g1:=aF _ _ 1 _ _ O.o;have g2:=aF _ _ 2 _ _ O.o;have HZ:=ad (Ao (v0:=.string ⟨nm.toArray⟩) (v1:=.string ⟨V.toArray⟩) (v2:=.int .i64 (y:Int)) HE.o O.o c5.o (by omega) F.o.2.2);go_wp2_with fail;clear b0 b1 b2 r0 r1 r2 g0 g1 g2;refine aD (v:=Tk ⟨nm,V,(y:Int)⟩) ?_ rfl ⟨by rw[c6.o.1],HZ.o.2.1,HZ.o.2.2⟩;exact sw rfl rfl HZ.o.1
         ·go_wp2_with fail;refine(jQ tag ay.o bo.o hs).m ?_;rintro e M⟨rfl,b3,ao⟩;have a0:=ad b3;have al:=ad (bk.o.t ao);have aN:=ad ((ao.block _ (aB.1 be.o).1 (by intro e;cases e;have:=F.o;omega)).t be.o);have a3:=ad ((ao.block _ (aB.1 bi.o).1 (by intro e;cases e;exact absurd rfl F.o.2.2)).t bi.o);clear b3 ao bo bk be bi;have a7:a.drop (C+1+1)=q:=tK ay.o;have ev:C+1+1+q.length=a.length:=by have:=drop_cons ay.o;omega
          have d2:((⟨a.toArray⟩:aaM).extract (C+1+1) a.length)=⟨q.toArray⟩:=by have:=ic a (C+1+1) a.length (ag _);rw[a7] at this;exact this
          have Q:=(show∀d:aaK,Calls Tryz.prog 30 #[.string ⟨q.toArray⟩,.int .u8 39] d fun e w'=>e=.returned (.int .i64 (if q.contains 39 then(lead (·!=39) q:Int) else-1))∧w'=d from fun d=>(eO ⟨q.toArray⟩ 39 d).m fun e w' ⟨h1,h2⟩=>⟨h1,h2.symm⟩);obtain⟨hit,L⟩:∃b,q.contains 39=b:=⟨_,rfl⟩;rw[L] at Q;obtain⟨c0,E,-,-,K,-,-⟩:=a0.o.lc;have j0:(0:Int)≤(C:Int)+1+1:=by omega
          have j1:(C:Int)+1+1≤(a.length:Int):=by omega
          have a6:M.cell? ⟨u,1,none⟩=some (.int .i64 ((C:Int)+1+1)):=by rw[E];rfl
          clear E;rcases hit with _|_
          ·have HC:=ad (show∀d:aaK,Calls Tryz.prog 30 #[.string ⟨q.toArray⟩,.int .u8 39] d fun e w'=>e=.returned (.int .i64 (-1))∧w'=d from Q);obtain rfl:=Z.o.open_ Y.o bg.o _ _ J.o bf.o L;clear Q L;go_upto_region 10 with fail
           go_quiet ((go_at_call 30;with_reducible exact mG (HC.o _)))
           go_wp2_with fail;refine(fE tag 14 _).m ?_;rintro e wz⟨rfl,H⟩;go_wp2_with fail;exact⟨rfl,rfl,(al.o.below (ag _) G).t ((ar _ _).t (show Below u _ _ from((show Below M.heap.size M (M.drewN nq) from ax _ _).t H).m (bP G al.o.size)))⟩
          ·obtain⟨t,T⟩:∃t,lead (·!=39) q=t:=⟨_,rfl⟩;have e0:t<q.length:=by rw[←T];exact kx 39 q L
           have HC:=ad (show∀d:aaK,Calls Tryz.prog 30 #[.string ⟨q.toArray⟩,.int .u8 39] d fun e w'=>e=.returned (.int .i64 (t:Int))∧w'=d from T▸Q);have hg:=Z.o.aq Y.o bg.o _ _ J.o bf.o L;have ap:(upto 39 q).length=t:=T;rw[ap] at hg;subst hg;have bb:((⟨a.toArray⟩:aaM).extract (C+1+1) (C+1+1+t))=⟨(upto 39 q).toArray⟩:=vY a _ _ _ (by rw[show C+1+1+t-(C+1+1)=t by omega,a7,←T];exact kF 39 q);clear Q L T a7;obtain⟨V,hV⟩:∃V,upto 39 q=V:=⟨_,rfl⟩;rw[hV] at bb ap⊢;have c6:=ad (And.intro hV ap);clear hV ap;go_upto_region 10 with fail
           go_quiet ((go_at_call 30;with_reducible exact mG (HC.o _)))
           have S:=ax M nq;have ab:=ad (a0.o.next S);have bs:=ad (al.o.t (ak.ai S));have aU:=ad ((S.block _ (aB.1 aN.o).1).t aN.o);have a4:=ad ((S.block _ (aB.1 a3.o).1).t a3.o);clear S a0 al aN a3;clear c0 a6 K d2 HC;generalize M.drewN nq=I at*;have k0:(0:Int)≤(t:Int):=by omega
           have k1:(C:Int)+1+1+(t:Int)≤(a.length:Int):=by omega
           have k2:(C:Int)+1+1≤(C:Int)+1+1+(t:Int):=by omega
           have k3:IntKind.i64.wrap ((C:Int)+1+1+(t:Int))=(C:Int)+1+1+(t:Int):=Xu _ (by omega);go_upto_region 13 with fail;have d0:∀B:BW I,B.val.cell? ⟨u,0,none⟩=some (.string ⟨a.toArray⟩):=fun B=>(ab.o.next B.below).lc.c0;have d1:∀B:BW I,B.val.cell? ⟨u,1,none⟩=some (.int .i64 ((C:Int)+1+1)):=fun B=>(ab.o.next B.below).lc.c1
           haveI:Nonempty (BW I):=⟨⟨I,ar _ _⟩⟩
           refine aY 16 (fun B:BW I=>B.val) ⟨I.drew,ax I 1⟩ rfl (by kernel_rfl) (by rfl) (by rfl) (by kernel_rfl) (by kernel_rfl) (by kernel_rfl) ?_;simp only[ki,kL];repeat(quiet_step (fail))
           refine wpQuiet_nil ?_;rintro w'⟨B,rfl⟩;rw[ah (by rfl)];have bn:=ad (ab.o.next B.below);have bv:=ad (bs.o.t (ak.ai B.below));have aa:=ad ((B.below.block _ (aB.1 aU.o).1).t aU.o);have bp:=ad ((B.below.block _ (aB.1 a4.o).1).t a4.o);clear d0 d1 ab bs aU a4;have a1:=aj aa.o 1;have af:=aF _ _ 1 _ _ aa.o;go_simp;generalize B.val=X at*;rw[show((C:Int)+1+1).toNat=C+1+1 by omega,show((C:Int)+1+1+(t:Int)).toNat=C+1+1+t by omega,bb];have a2:=ad (show LB (X.setCell ⟨D,1,none⟩ (.string ⟨V.toArray⟩)) u a (C+1+1) A z from(dy X ⟨D,1,none⟩ _ u (by have:=F.o;show u≠D;omega)).t bn.o);have bl:=ad (show(X.setCell ⟨D,1,none⟩ (.string ⟨V.toArray⟩)).heap[D]? =some (.cells #[.string ⟨nm.toArray⟩,.string ⟨V.toArray⟩,.int .i64 (y:Int)] 159) from aw (j:=1) aa.o);have br:=ad ((dy X ⟨D,1,none⟩ (.string ⟨V.toArray⟩) d.heap.size (by have:=F.o;show d.heap.size≠D;omega)).t bp.o);have bx:=ad (jx bv.o (b:=D) (j:=1) (v:=.string ⟨V.toArray⟩) (by have:=F.o;omega));clear a1 af bn aa bp bv bb k1 k2 k3;generalize X.setCell ⟨D,1,none⟩ (.string ⟨V.toArray⟩)=av at*;obtain⟨-,E,-,-,K,-,-⟩:=a2.o.lc;have a6:av.cell? ⟨u,1,none⟩=some (.int .i64 ((C:Int)+1+1)):=by rw[E];rfl
           clear E;have HE:=ad (a2.o.iD (C+2+t+1));rw[show((C+2+t+1:Nat):Int)=(C:Int)+1+1+((t:Int)+1) by omega] at HE;have ck:=ad ((dy av ⟨u,1,none⟩ (.int .i64 ((C:Int)+1+1+((t:Int)+1))) D (by have:=F.o;show D≠u;omega)).t bl.o);have O:=ad ((dy av ⟨u,1,none⟩ (.int .i64 ((C:Int)+1+1+((t:Int)+1))) d.heap.size F.o.2.2).t br.o);have c5:=ad (bx.o.set (j:=1) (v:=.int .i64 ((C:Int)+1+1+((t:Int)+1))));clear a2 bl br bx;go_upto_region 15 with fail;clear a6 K;generalize av.setCell ⟨u,1,none⟩ (.int .i64 ((C:Int)+1+1+((t:Int)+1)))=e2 at*;obtain⟨b0,b1,b2⟩:=qX3 (aj ck.o) 0 1 2;obtain⟨r0,r1,r2⟩:=qX3 (aj O.o) 0 1 2;have g0:=aF _ _ 0 _ _ O.o;have g1:=aF _ _ 1 _ _ O.o;have g2:=aF _ _ 2 _ _ O.o;have HZ:=ad (Ao (v0:=.string ⟨nm.toArray⟩) (v1:=.string ⟨V.toArray⟩) (v2:=.int .i64 (y:Int)) HE.o O.o c5.o (by omega) F.o.2.2);go_wp2_with fail;clear b0 b1 b2 r0 r1 r2 g0 g1 g2;refine aD (v:=Tk ⟨nm,V,(y:Int)⟩) ?_ rfl ⟨by rw[c6.o.1],HZ.o.2.1,HZ.o.2.2⟩;exact sw rfl rfl HZ.o.1
     ·have e7:((c.toNat:Int)==61)=false:=nz (aL.2 hc);have n0:=aj bd.o 0;obtain rfl:=Z.o.eq Y.o _ _ J.o (by rw[aL.2 hc];rfl);clear hc;go_wp2_with fail;refine(lP tag J.o b9.o hs).m ?_;rintro e wz⟨rfl,H⟩;go_wp2_with fail;exact⟨rfl,rfl,(an.o.below (ag _) G).t (H.m (bP G an.o.size))⟩
   ·obtain rfl:=Z.o.dup Y.o;go_wp2_with fail;refine(fE y 12 w6).m ?_;rintro e wz⟨rfl,H⟩;go_wp2_with fail;exact⟨rfl,rfl,(am.o.below (ag _) G).t (H.m (bP G am.o.size))⟩
