/- Attributes and tokens in memory; the walk of IndexFunc over attributes. -/
import Derived.Test.YtogchgjfialleaaGreatDoorKah
import Derived.Test.YtogchgjfialleaaGreatDoorKaj
import Derived.Test.YtogchgjfialleaaGreatDoorTie
import Derived.Test.YtogchgjfialleaaGreatDoorCards
import Derived.Lay
import Derived.LaidMore
import Derived.Stop.LaidErr
import Derived.Deep.DeepHandedRow
set_option linter.unusedVariables false
set_option maxRecDepth 100000
set_option maxHeartbeats 4000000
namespace Go.Proofs.YtogchgjfialleaaGreatDoor
open Go.RowKit
def LB(W:World)(p:Nat)(s:Bs)(i:Nat)(lv:Value)(h:Int):Prop:=W.heap[p]? =some (.cells #[.string ⟨s.toArray⟩,.int .i64 (i:Int),lv,.int .i64 h] 103)
structure LC (W:World) (p:Nat) (s:Bs) (i:Nat) (lv:Value) (h:Int):Prop where
 c0:W.cell? ⟨p,0,none⟩=some (.string ⟨s.toArray⟩)
 c1:W.cell? ⟨p,1,none⟩=some (.int .i64 (i:Int))
 c2:W.cell? ⟨p,2,none⟩=some lv
 c3:W.cell? ⟨p,3,none⟩=some (.int .i64 h)
 f1:W.frozen? ⟨p,1,none⟩=false
 f2:W.frozen? ⟨p,2,none⟩=false
 f3:W.frozen? ⟨p,3,none⟩=false
section
variable{W W':World}{p:Nat}{s:Bs}{i:Nat}{lv:Value}{h:Int}
theorem LB.lc(x:LB W p s i lv h):LC W p s i lv h:=
 ⟨aj 0 x,aj 1 x,aj 2 x,aj 3 x,aF _ _ 1 _ _ x,aF _ _ 2 _ _ x,aF _ _ 3 _ _ x⟩
theorem LB.lt(x:LB W p s i lv h):p<W.heap.size:=aV x.lc.c0
theorem LB.next(x:LB W p s i lv h)(a:Below W.heap.size W W'):LB W' p s i lv h:=(a.block p x.lt).trans x
theorem LB.iD(x:LB W p s i lv h)(j:Nat):LB (W.setCell ⟨p,1,none⟩ (.int .i64 (j:Int))) p s j lv h:=aw (j:=1) x
theorem LB.Dz(x:LB W p s i lv h)(v:Value):LB (W.setCell ⟨p,2,none⟩ v) p s i v h:=aw (j:=2) x
theorem LB.Gp(x:LB W p s i lv h)(k:Int):LB (W.setCell ⟨p,3,none⟩ (.int .i64 k)) p s i lv k:=aw (j:=3) x
end
def tS(place e:Int):PanicEntry:={v:=.iface 100 (.agg #[.int .i64 place,.int .i64 e]),recovered:=false}
def mL(n:Nat)(w:World)(place e:Int):Ending→World→Prop:=fun a w'=>a=.panicked [tS place e]∧Below n w w'
theorem ax(w:World)(n:Nat):Below w.heap.size w (w.drewN n):=⟨rfl,rfl,rfl,ag _,fun _ _=>rfl⟩
theorem fE(place e:Int)(w:World):Calls Tryz.prog 38 #[.int .i64 place,.int .i64 e] w (mL w.heap.size w place e):=by go_enter Tryz.func38,Tryz.ntmps38;go_wp2;exact⟨rfl,rfl,ar _ _⟩
theorem pY(c:UInt8)(w:World):Calls Tryz.prog 164 #[.int .u8 (c.toNat:Int)] w fun e w'=>e=.returned (.bool (mo c))∧w=w':=by
 obtain⟨q,hq⟩:∃q,mo c=q:=⟨_,rfl⟩;rw[hq];have j:=ad hq;unfold mo at hq;rcases dT (97≤c.toNat) with b|b
 ·have h:(97:Int)≤(c.toNat:Int):=by omega
  rcases dT (c.toNat≤122) with d|d
  ·have i:(c.toNat:Int)≤122:=by omega
   have a:=ad (show q=true by rw[←hq,bN (by omega)]);clear hq b d;go_enter Tryz.func164,Tryz.ntmps164;go_wp2_with fail;go_ret;exact⟨cq a.out.symm,rfl⟩
  ·have i:¬(c.toNat:Int)≤122:=by omega
   have a:=ad (show q=false by rw[←hq,cL (by omega)]);clear hq b d;go_enter Tryz.func164,Tryz.ntmps164;go_wp2_with fail;go_ret;exact⟨cq a.out.symm,rfl⟩
 ·have h:¬(97:Int)≤(c.toNat:Int):=by omega
  have a:=ad (show q=false by rw[←hq,cL (by omega)]);clear hq b;go_enter Tryz.func164,Tryz.ntmps164;go_wp2_with fail;go_ret;exact⟨cq a.out.symm,rfl⟩
theorem Rb(c:UInt8):([32,9,10,13]:Bs).contains c=mE c:=congrFun An c
theorem tT(c:UInt8)(w:World):Calls Tryz.prog 70 #[.int .u8 (c.toNat:Int)] w fun e w'=>e=.returned (.bool (mE c))∧w'=w:=by
 have a:=eO ⟨#[32,9,10,13]⟩ c;rw[show(⟨#[32,9,10,13]⟩:ByteArray).data.toList=[32,9,10,13] from rfl,Rb] at a;have b:=ad a;obtain⟨q,hq⟩:∃q,mE c=q:=⟨_,rfl⟩;rw[hq] at b⊢;clear hq a;go_enter Tryz.func70,Tryz.ntmps70;go_wp2_with fail;refine(b.out w).mono ?_;rintro e d⟨rfl,rfl⟩;rcases q with _|_
 ·go_wp2_with fail;go_ret;exact⟨rfl,rfl⟩
 ·go_wp2_with fail;go_ret;exact⟨cq (by simp),rfl⟩
section
variable{W:World}{p:Nat}{s:Bs}{i:Nat}{lv:Value}{h:Int}
theorem cX(tag:Int){c:UInt8}{r:Bs}(a:s.drop i=c::r)(x:LB W p s i lv h)(m:s.length≤1000000):
 Calls Tryz.prog 120 #[.pointer (some ⟨p,0,none⟩),.int .i64 tag] W (cN W (.int .u8 (c.toNat:Int))):=by
 obtain⟨k,l,-,-,-,-,-⟩:=x.lc;have e:=drop_cons a;have b:s[i]? =some c:=by have:=qD (xs:=s) (i:=i) (j:=0);rw[a] at this;simpa using this.symm
 have d:=ad b;have n:(0:Int)≤(i:Int):=by omega
 have o:(i:Int)<(s.length:Int):=by omega
 have q:((i:Int)==(s.length:Int))=false:=by rw[aL];omega
 clear a b e;go_enter Tryz.func120,Tryz.ntmps120;go_wp2_with fail
 go_quiet (fail)
 go_wp2_with fail
 go_quiet (fail)
 go_wp2_with fail;go_ret;exact⟨bW (by show((s[i]'(by omega)).toNat:Int)=_;rw[(cH.1 d.out).2]),rfl,rfl,rfl,ag _,fun _ _=>rfl⟩
theorem iY(tag:Int)(b:i=s.length)(x:LB W p s i lv h)(j:s.length≤1000000):
 Calls Tryz.prog 120 #[.pointer (some ⟨p,0,none⟩),.int .i64 tag] W (mL W.heap.size W tag 14):=by
 subst b;obtain⟨c,d,-,-,-,-,-⟩:=x.lc;go_enter Tryz.func120,Tryz.ntmps120;go_wp2_with fail
 go_quiet (fail)
 go_wp2_with fail;refine(fE tag 14 _).mono ?_;rintro e k⟨rfl,a⟩;go_wp2_with fail;exact⟨rfl,rfl,(ax _ _).trans a⟩
theorem jQ(tag:Int){c:UInt8}{r:Bs}(a:s.drop i=c::r)(x:LB W p s i lv h)(l:s.length≤1000000):
 Calls Tryz.prog 122 #[.pointer (some ⟨p,0,none⟩),.int .i64 tag,.bool true] W fun e w'=>e=.returned (.tuple #[])∧LB w' p s (i+1) lv h∧ak p W w':=by
 have k:=drop_cons a;go_enter Tryz.func122,Tryz.ntmps122;go_wp2_with fail;refine(cX tag a x l).mono ?_;rintro e q⟨rfl,j⟩;have d:=ad (x.next j);obtain⟨-,m,-,-,n,-,-⟩:=d.out.lc;have b:=ad (d.out.iD (i+1));rw[show((i+1:Nat):Int)=(i:Int)+1 by omega] at b;have o:(i:Int)+1≤1000001:=by omega
 clear a k;go_wp2_with fail
 go_end0
 exact⟨rfl,b.out,(ak.ai j).set⟩
theorem lP(tag:Int){c:UInt8}{r:Bs}(d:s.drop i=c::r)(x:LB W p s i lv h)(j:s.length≤1000000):
 Calls Tryz.prog 122 #[.pointer (some ⟨p,0,none⟩),.int .i64 tag,.bool false] W (mL W.heap.size W i 12):=by
 go_enter Tryz.func122,Tryz.ntmps122;go_wp2_with fail;refine(cX tag d x j).mono ?_;rintro e m⟨rfl,a⟩;obtain⟨-,k,-,-,l,-,-⟩:=(x.next a).lc;go_wp2_with fail;refine(fE i 12 _).mono ?_;rintro e n⟨rfl,b⟩;go_wp2_with fail;exact⟨rfl,rfl,a.trans (b.mono a.size)⟩
end
def j4(W:World)(p:Nat):Nat:=match W.cell? ⟨p,1,none⟩ with|some (.int _ n)=>n.toNat|_=>0
theorem LB.at_{W:World}{p:Nat}{s:Bs}{i:Nat}{lv:Value}{h:Int}(x:LB W p s i lv h):j4 W p=i:=by unfold j4;rw[x.lc.c1];simp
theorem BN{q:UInt8→Bool}{l:Bs}{k:Nat}(h:k<lead q l):∃c,l[k]? =some c∧q c=true:=by
 unfold lead at h;have a:(l.takeWhile q)[k]? =some (l.takeWhile q)[k]:=cA h;have hq:=eV.1 (List.all_takeWhile (p:=q) (l:=l)) _ (wI h);refine⟨(l.takeWhile q)[k], ?_,hq⟩;obtain⟨t,d⟩:=List.takeWhile_prefix (l:=l) q;have b:(l.takeWhile q++t)[k]? =some (l.takeWhile q)[k]:=by rw[qC h];exact a
 rw[←b,d]
theorem xn{q:UInt8→Bool}{l:Bs}{c:UInt8}(h:l[lead q l]? =some c):q c=false:=by
 have b:=cz q l;have a:l.dropWhile q=c::l.drop (lead q l+1):=by rw[←b];have d:=(cH.1 h).1;rw[lG d,(cH.1 h).2]
 have:=List.head_dropWhile_not (p:=q) (l:=l) (by rw[a];simp);simpa[a] using this
section
variable{W:World}{p:Nat}{s:Bs}{i:Nat}{lv:Value}{h:Int}
theorem NF(L:i≤s.length)(x:LB W p s i lv h)(O:s.length≤1000000):
 Calls Tryz.prog 162 #[.pointer (some ⟨p,0,none⟩)] W fun e w'=>e=.returned (.string ⟨((s.drop i).take (db s i)).toArray⟩)∧LB w' p s (i+db s i) lv h∧ak p W w':=by
 have K:=ad x;have N:=iI s L;have C:=ad (fun k (G:k<db s i)=>BN (q:=mo) (l:=s.drop i) (k:=k) G);have D:=ad (fun c (j:(s.drop i)[db s i]? =some c)=>xn (q:=mo) (l:=s.drop i) j);obtain⟨n,H⟩:∃n,db s i=n:=⟨_,rfl⟩;rw[H] at N C D⊢;obtain⟨y,d,-,-,-,-,-⟩:=x.lc;clear x H;go_enter Tryz.func162,Tryz.ntmps162;go_upto_region 2 with fail;clear y d
 go_loopw [] (fun wr=>∃k:Nat,k≤n∧Hid (LB wr p s (i+k) lv h)∧Hid (ak p W wr)) (fun wr=>s.length-j4 wr p)
 case atStart=>exact⟨0,aH _,K,ad (ak.refl _ _)⟩
 case round=>
  obtain⟨k,G,a,u⟩:=hrel;obtain⟨y,d,-,-,E,-,-⟩:=a.out.lc;have F:=ad a.out.at_;obtain⟨m,r⟩:∃m,i+k=m:=⟨_,rfl⟩;rw[r] at a d F;have V:(0:Int)≤(m:Int):=by omega
  by_cases M:k<n
  ·have I:(m:Int)<(s.length:Int):=by omega
   have b:m<s.length:=by omega
   obtain⟨c,j,o⟩:=C.out k M;rw[qD,r] at j;have t:=ad (show∀W:World,Calls Tryz.prog 164 #[.int .u8 (((⟨s.toArray⟩:ByteArray)[m]'(by simpa[ByteArray.size] using b)).toNat:Int)] W fun e w'=>e=.returned (.bool true)∧w'=W from fun W=>by
    have:((⟨s.toArray⟩:ByteArray)[m]'(by simpa[ByteArray.size] using b))=c:=by show s[m]=c;exact(cH.1 j).2
    rw[this,←o];exact(pY c W).mono fun e w' ⟨z,A⟩=>⟨z,A.symm⟩)
   clear j o;go_upto_region 2 with fail
   go_quiet ((go_at_call 164;with_reducible exact mG (t.out _)))
   have B:=ad (a.out.next (ax wr nq));have J:=ad (u.out.trans (ak.ai (ax wr nq)));clear y d E a u t;generalize wr.drewN nq=X at*;obtain⟨-,d,-,-,E,-,-⟩:=B.out.lc;have w:=ad (B.out.iD (m+1));rw[show((m+1:Nat):Int)=(m:Int)+1 by omega] at w;have T:(m:Int)+1≤1000001:=by omega
   go_wp2_with fail
   go_roundw
   case rel=>exact⟨k+1,by omega,by rw[show i+(k+1)=m+1 by omega];exact w,ad J.out.set⟩
   case measure=>(show s.length-j4 _ p<s.length-j4 wr p;rw[w.out.at_,F.out];omega)
  ·obtain rfl:k=n:=by omega
   have Q:((⟨s.toArray⟩:ByteArray).extract i m)=⟨((s.drop i).take k).toArray⟩:=by apply uG;apply Array.ext';rw[cf];simp[show m-i=k by omega]
   have i8:(i:Int)≤(m:Int):=by omega
   have S:(m:Int)≤(s.length:Int):=by omega
   have R:(0:Int)≤(i:Int):=by omega
   by_cases b:m<s.length
   ·have I:(m:Int)<(s.length:Int):=by omega
    have o:=D.out s[m] (by rw[qD,r];exact cA b);have t:=ad (show∀W:World,Calls Tryz.prog 164 #[.int .u8 (((⟨s.toArray⟩:ByteArray)[m]'(by simpa[ByteArray.size] using b)).toNat:Int)] W fun e w'=>e=.returned (.bool false)∧w'=W from fun W=>by
     rw[show((⟨s.toArray⟩:ByteArray)[m]'(by simpa[ByteArray.size] using b))=s[m] from rfl,←o]
     exact(pY s[m] W).mono fun e w' ⟨z,A⟩=>⟨z,A.symm⟩)
    clear o;go_upto_region 2 with fail
    go_quiet ((go_at_call 164;with_reducible exact mG (t.out _)))
    go_wp2_with fail
    go_quiet (fail)
    go_wp2_with fail;go_ret;exact⟨rfl,by rw[r];exact a.out.next ⟨rfl,rfl,rfl,ag _,fun _ _=>rfl⟩,u.out.trans (ak.ai ⟨rfl,rfl,rfl,ag _,fun _ _=>rfl⟩)⟩
   ·have I:decide ((m:Int)<(s.length:Int))=false:=cL (by omega);go_upto_region 2 with fail
    go_quiet (fail)
    go_wp2_with fail
    go_quiet (fail)
    go_wp2_with fail;go_ret;exact⟨rfl,by rw[r];exact a.out.next ⟨rfl,rfl,rfl,ag _,fun _ _=>rfl⟩,u.out.trans (ak.ai ⟨rfl,rfl,rfl,ag _,fun _ _=>rfl⟩)⟩
theorem DA(L:i≤s.length)(x:LB W p s i lv h)(M:s.length≤1000000):
 Calls Tryz.prog 119 #[.pointer (some ⟨p,0,none⟩)] W fun e w'=>e=.returned (.int .i64 (lead mE (s.drop i):Int))∧LB w' p s (i+lead mE (s.drop i)) lv h∧ak p W w':=by
 have I:=ad x;have K:i+lead mE (s.drop i)≤s.length:=by have:=iV mE (s.drop i);rw[bK] at this;omega
 have A:=ad (fun k (E:k<lead mE (s.drop i))=>BN (q:=mE) (l:=s.drop i) (k:=k) E);have B:=ad (fun c (j:(s.drop i)[lead mE (s.drop i)]? =some c)=>xn (q:=mE) (l:=s.drop i) j);obtain⟨n,F⟩:∃n,lead mE (s.drop i)=n:=⟨_,rfl⟩;rw[F] at K A B⊢;obtain⟨y,d,-,-,-,-,-⟩:=x.lc;clear x F;go_enter Tryz.func119,Tryz.ntmps119;go_upto_region 2 with fail;clear y d
 go_loopw [] (fun wr=>∃k:Nat,k≤n∧Hid (LB wr p s (i+k) lv h)∧Hid (ak p W wr)) (fun wr=>s.length-j4 wr p)
 case atStart=>exact⟨0,aH _,I,ad (ak.refl _ _)⟩
 case round=>
  obtain⟨k,E,a,u⟩:=hrel;obtain⟨y,d,-,-,C,-,-⟩:=a.out.lc;have D:=ad a.out.at_;obtain⟨m,r⟩:∃m,i+k=m:=⟨_,rfl⟩;rw[r] at a d D;have S:(0:Int)≤(m:Int):=by omega
  by_cases J:k<n
  ·have G:(m:Int)<(s.length:Int):=by omega
   have b:m<s.length:=by omega
   obtain⟨c,j,o⟩:=A.out k J;rw[qD,r] at j;have t:=ad (show∀W:World,Calls Tryz.prog 70 #[.int .u8 (((⟨s.toArray⟩:ByteArray)[m]'(by simpa[ByteArray.size] using b)).toNat:Int)] W fun e w'=>e=.returned (.bool true)∧w'=W from fun W=>by
    have:((⟨s.toArray⟩:ByteArray)[m]'(by simpa[ByteArray.size] using b))=c:=by show s[m]=c;exact(cH.1 j).2
    rw[this,←o];exact tT c W)
   clear j o;go_upto_region 2 with fail
   go_quiet ((go_at_call 70;with_reducible exact mG (t.out _)))
   have z:=ad (a.out.next (ax wr nq));have H:=ad (u.out.trans (ak.ai (ax wr nq)));clear y d C a u t;generalize wr.drewN nq=T at*;obtain⟨-,d,-,-,C,-,-⟩:=z.out.lc;have w:=ad (z.out.iD (m+1));rw[show((m+1:Nat):Int)=(m:Int)+1 by omega] at w;have R:(m:Int)+1≤1000001:=by omega
   go_wp2_with fail
   go_roundw
   case rel=>exact⟨k+1,by omega,by rw[show i+(k+1)=m+1 by omega];exact w,ad H.out.set⟩
   case measure=>(show s.length-j4 _ p<s.length-j4 wr p;rw[w.out.at_,D.out];omega)
  ·obtain rfl:k=n:=by omega
   have N:(m:Int)-(i:Int)=(k:Int):=by omega
   have i8:(i:Int)≤(m:Int):=by omega
   have Q:(m:Int)≤(s.length:Int):=by omega
   have O:(0:Int)≤(i:Int):=by omega
   by_cases b:m<s.length
   ·have G:(m:Int)<(s.length:Int):=by omega
    have o:=B.out s[m] (by rw[qD,r];exact cA b);have t:=ad (show∀W:World,Calls Tryz.prog 70 #[.int .u8 (((⟨s.toArray⟩:ByteArray)[m]'(by simpa[ByteArray.size] using b)).toNat:Int)] W fun e w'=>e=.returned (.bool false)∧w'=W from fun W=>by
     rw[show((⟨s.toArray⟩:ByteArray)[m]'(by simpa[ByteArray.size] using b))=s[m] from rfl,←o]
     exact tT s[m] W)
    clear o;go_upto_region 2 with fail
    go_quiet ((go_at_call 70;with_reducible exact mG (t.out _)))
    go_wp2_with fail;go_ret;exact⟨bW (by omega),by rw[r];exact a.out.next ⟨rfl,rfl,rfl,ag _,fun _ _=>rfl⟩,u.out.trans (ak.ai ⟨rfl,rfl,rfl,ag _,fun _ _=>rfl⟩)⟩
   ·have G:decide ((m:Int)<(s.length:Int))=false:=cL (by omega);go_upto_region 2 with fail
    go_quiet (fail)
    go_wp2_with fail;go_ret;exact⟨bW (by omega),by rw[r];exact a.out.next ⟨rfl,rfl,rfl,ag _,fun _ _=>rfl⟩,u.out.trans (ak.ai ⟨rfl,rfl,rfl,ag _,fun _ _=>rfl⟩)⟩
end
theorem Vk:Tryz.prog.globalNamed "strings.asciiSpace" =some 1:=by kernel_rfl
structure GL (w:World):Prop where
 gx:GX w
 sp:Lib.TabIs Tryz.prog w "strings.asciiSpace" .u8 Lib.asciiSpaceTab
theorem GL.next{w w':World}(h:GL w)(a:Below w.heap.size w w'):GL w':=⟨h.gx.next a,sv Vk h.sp (by decide+kernel) a⟩
def rh:Bs:=[105,110,99,108,117,100,101,32,105,110,108,105,110,101,32,114,101,109,111,118,101,32,99,111,109,109,101,110,116,32,116,114,121,32,97,116,116,101,109,112,116,32,101,120,99,101,112,116,32,99,104,111,111,115,101,32,119,104,101,110,32,111,116,104,101,114,119,105,115,101,32,118,97,114,115]
theorem BO:Lib.fields rh=elems:=by kernel_rfl
theorem DB:∀(j:Nat) b,rh[j]? =some b→b.toNat<128:=fun j b h=>by
 have a:∀b∈rh,b.toNat<128:=by decide
 exact a b (eQ h)
theorem mr(l:List Bs)(x:Bs):Lib.containsS (l.map fun b=>(⟨b.toArray⟩:ByteArray)) ⟨x.toArray⟩=l.contains x:=by
 rw[gf,Lib.containsS_iff,r8,qE];constructor
 ·rintro⟨b,c,d⟩;have:=congrArg (fun a:ByteArray=>a.data.toList) d;simp at this;rw[←this];exact c
 ·intro h;exact⟨x,h,rfl⟩
theorem Gq(w:World)(l:List Bs)(j:Nat)(a:j<(l.map fun b=>(⟨b.toArray⟩:ByteArray)).length):(w.alloc (.cells (l.map fun x=>Value.string ⟨x.toArray⟩).toArray 9)).cell? ⟨w.heap.size,0+j,none⟩=some (.string ((l.map fun b=>(⟨b.toArray⟩:ByteArray)).getD j ByteArray.empty)):=by rw[dH];refine bH w _ _ j _ ?_;rw[jo] at a;simp[cA a]
theorem KM(nm:Bs)(w:World):Calls Tryz.prog 115 #[.slice (some ⟨w.heap.size,0,none⟩) 11 11,.string ⟨nm.toArray⟩] (w.alloc (.cells (elems.map fun x=>Value.string ⟨x.toArray⟩).toArray 9)) fun e w'=>e=.returned (.bool (elems.contains nm))∧w'=w.alloc (.cells (elems.map fun x=>Value.string ⟨x.toArray⟩).toArray 9):=by have h:=Tryz.slices_Contains_string w.heap.size 0 11 11 (elems.map fun b=>(⟨b.toArray⟩:ByteArray)) ⟨nm.toArray⟩ (w.alloc (.cells (elems.map fun x=>Value.string ⟨x.toArray⟩).toArray 9)) (by decide) (by decide) (fun j a=>Gq w elems j a);rw[oe (by decide),mr] at h;exact h
theorem Gr(w:World)(c:GL w):Calls Tryz.prog 163 #[.string ⟨rh.toArray⟩] w fun e w'=>e=.returned (.slice (some ⟨w.heap.size,0,none⟩) 11 11)∧w'=w.alloc (.cells (elems.map fun x=>Value.string ⟨x.toArray⟩).toArray 9):=by have h:=Tryz.strings_Fields ⟨rh.toArray⟩ w (by decide) (fun j b a=>DB j b (by simpa using a)) c.sp;rw[show(⟨rh.toArray⟩:ByteArray).data.toList=rh from rfl,BO] at h;exact h
section
variable{W:World}{p:Nat}{s:Bs}{i:Nat}{lv:Value}{h:Int}
def Rc(p:Nat)(W:World)(s:Bs)(i:Nat)(lv:Value)(h tag:Int)(q:Bool)(nm:Bs)(n:Nat):Ending→World→Prop:=fun e w'=>(q=true→e=.returned (.string ⟨nm.toArray⟩)∧LB w' p s (i+n) lv h∧ak p W w')∧(q=false→mL p W tag 11 e w')
theorem DC(c:World)(u:GL c)(B:Below c.heap.size c W)(F:c.heap.size≤p)(tag:Int)(H:i≤s.length)(x:LB W p s i lv h)(J:s.length≤1000000):
 Calls Tryz.prog 118 #[.pointer (some ⟨p,0,none⟩),.int .i64 tag] W (Rc p W s i lv h tag (elems.contains ((s.drop i).take (db s i))) ((s.drop i).take (db s i)) (db s i)):=by
 have b:=ad (NF H x J);obtain⟨n,y⟩:∃n,db s i=n:=⟨_,rfl⟩;rw[y] at b⊢;obtain⟨nm,z⟩:∃nm,(s.drop i).take n=nm:=⟨_,rfl⟩;rw[z] at b⊢;have d:=ad (KM nm);obtain⟨q,hq⟩:∃q,elems.contains nm=q:=⟨_,rfl⟩;rw[hq] at d⊢;clear y z hq;have I:=x.lt;have E:=ad u;have k:=ad B;clear B u;go_enter Tryz.func118,Tryz.ntmps118;go_wp2_with fail;refine b.out.mono ?_;rintro e a⟨rfl,w,m⟩;have o:=ad w;have r:=ad m;have t:=ad (k.out.trans (m.below F k.out.size));have A:p≤W.heap.size:=om I;clear w m b;go_wp2_with fail;refine(Gr a (E.out.next t.out)).mono ?_;rintro e K⟨rfl,rfl⟩;have l:Below a.heap.size a (a.alloc (.cells (elems.map fun x=>Value.string ⟨x.toArray⟩).toArray 9)):=(ar _ _).alloc (ag _) _;have D:=ad (o.out.next l);have j:=ad (r.out.trans (ak.ai l));clear l o r t k;go_wp2_with fail;refine(d.out a).mono ?_;rintro e C⟨rfl,rfl⟩;clear d;generalize a.alloc (.cells (elems.map fun x=>Value.string ⟨x.toArray⟩).toArray 9)=C at*;rcases q with _|_
 ·go_wp2_with fail;refine(fE tag 11 C).mono ?_;rintro e L⟨rfl,G⟩;go_wp2_with fail;exact⟨rfl,fun h=>(by cases h),fun _=>⟨rfl,(j.out.below (ag _) A).trans (G.mono (bP A j.out.size))⟩⟩
 ·go_wp2_with fail;go_ret;exact⟨fun _=>⟨rfl,D.out,j.out⟩,fun h=>(by cases h)⟩
end
end Go.Proofs.YtogchgjfialleaaGreatDoor
namespace Go.Proofs.YtogchgjfialleaaGreatDoor
open Go.RowKit Go.ChangeShapes Go.WideShapes Go.ChangeAt
theorem own:ownKnob Tryz.prog.godebug=none:=by kernel_rfl
theorem yg{W:World}(h:W.ShapedOpen Tryz.prog):Good W:=
 cell_of_shapedOpen_int (P:=Tryz.prog) (g:=0) (t:=3) (zero:=#[.int .i64 0]) h (dv (by kernel_rfl)) (by kernel_rfl) rfl (by kernel_rfl) (by kernel_rfl) u3
theorem EE{H:Type}{enc:TypeId×Value→H}{C:Checked}{os:Os}{f:FuncId}{fn:Func}{s:OpenSpec}{b:List PathCond}{apart:Bool}{laid:List (String×DataW Unit)}(a:World)(args:Array Value)(d:a.os=os)
 (h:(a.forCall (fun _ _=>0) ⟨#[],args,[]⟩).Shaped C.prog)
 (c:Input.okWideB C.prog (a.forCall (fun _ _=>0) ⟨#[],args,[]⟩) f ⟨#[],args,[]⟩=true)
 (e:s.preRow enc C.prog fn b apart laid (a.forCall (fun _ _=>0) ⟨#[],args,[]⟩).memory args):
 ∃(w:World) (tape:Tape) (i:Input),w.os=os∧(w.forCall tape i).Shaped C.prog∧i.vars=[]∧Input.okWide C.prog (w.forCall tape i) .any w.heap.size f i∧
  s.preRow enc C.prog fn b apart laid (w.forCall tape i).memory i.args∧({}:Assume).holds C.prog (lone (Frame.enter C.prog f i.args .normal) [] (w.forCall tape i)):=
 ⟨a,fun _ _=>0,⟨#[],args,[]⟩,d,h,(Input.okWide_of_okWideB (base:=0) c).1,(Input.okWide_of_okWideB c).2,e,by simp only[Assume.holds];exact⟨by simp,by simp,by simp,by simp,by simp⟩⟩
abbrev lj:List (String×DataW Unit):=Rows.pageKnownRow.laid
theorem O0(os:Os)(args:Array Value):laidMetH Tryz.prog lj ((World.laidAll Tryz.prog os lj).forCall (fun _ _=>0) ⟨#[],args,[]⟩).memory:=by rw[MakeChecks.laidMetH_plain _ _ _ (by kernel_rfl)];exact laidMet_laidAll _ (by kernel_rfl) (by kernel_rfl)
theorem EF(os:Os)(args:Array Value):((World.laidAll Tryz.prog os lj).forCall (fun _ _=>0) ⟨#[],args,[]⟩).Shaped Tryz.prog:=
 World.shaped_of_ZipB (by kernel_rfl) (by kernel_rfl)
theorem O1:(Tryz.prog.globals[4]?).map (·.type)=some 270:=by kernel_rfl
theorem O2:(Tryz.prog.globals[6]?).map (·.type)=some 170:=by kernel_rfl
theorem O3:(Tryz.prog.globals[7]?).map (·.type)=some 170:=by kernel_rfl
theorem JU: "*" ++ "errors.errorString" = "*errors.errorString" :=by decide
theorem O4(u:TypeId)(h:Tryz.prog.typeName? 3 u=some "*errors.errorString"):u=305:=
 typeName_ptr_named (nm:= "errors.errorString") (by rw[JU];kernel_rfl) (by kernel_rfl) (by decide) u (by rw[JU];exact h)
theorem VI:wv (Tryz.prog.underlying 307)=some [(0,9)]:=by kernel_rfl
theorem Uy{d:Option TypeDesc}{o:Nat}{c:TypeId}(h:wv d=some [(o,c)]):∃f,d=some (.struct #[f])∧f.type=c∧f.offset=o:=by
 obtain⟨⟨fs⟩,b,a⟩:=Cd h
 match fs,a,b with
 |[f],a,b=>simp only[kg,List.map_nil,List.cons.injEq,kj,and_true] at a;exact⟨f,b,a.2,a.1⟩
theorem LG:∃f,Tryz.prog.underlying 307=some (.struct #[f])∧f.type=9∧f.offset=0:=Uy VI
def Uz:Option TypeDesc→Bool
 |some (.interface _)=>true
 |_=>false
theorem EG{d:Option TypeDesc}(h:Uz d=true):∃a,d=some (.interface a):=by
 cases d with
 |none=>cases h
 |some d=>cases d<;>first|(cases h;done)|exact⟨_,rfl⟩
theorem LH:∃a,Tryz.prog.underlying 170=some (.interface a):=EG (by kernel_rfl)
theorem Sd:(Tryz.prog.globals[1]?).map (·.type)=some 263:=by kernel_rfl
theorem Hx{W:World}(k:W.ShapedOpen Tryz.prog)(h:laidMet Tryz.prog lj W):GX W:=by obtain⟨f,j,c,i⟩:=LG;obtain⟨p,d⟩:=LH;have a:=h.tail.tail;have b:=a.tail.tail;obtain⟨o,q,l,-,-,-⟩:=laid_sentinel b TE O3 d O4 (te:=307) (by kernel_rfl) j c i u9 (by kernel_rfl) TB;obtain⟨a1,r,m,-,-,-⟩:=laid_sentinel b.tail TF O2 d O4 (te:=307) (by kernel_rfl) j c i u9 (by kernel_rfl) TB;exact⟨yg k,Lib.tabIs_of_head TG O1 (n:=20) (e:=216) (by kernel_rfl) (by kernel_rfl) (by kernel_rfl) (by kernel_rfl) a,⟨_,_,m⟩,⟨_,_,l⟩⟩
theorem Hy{W:World}(a:W.ShapedOpen Tryz.prog)(h:laidMet Tryz.prog lj W):GL W:=
 ⟨Hx a h,Lib.tabIs_of_head Vk Sd (n:=256) (e:=5) (by kernel_rfl) (by kernel_rfl) (by kernel_rfl) (by kernel_rfl) h.tail.tail.tail.tail.tail.tail.tail⟩
theorem EH{W:World}(a:W.ShapedOpen Tryz.prog)(h:laidMetH Tryz.prog lj W):GL W:=Hy a (by rw[MakeChecks.laidMetH_plain _ _ _ (by kernel_rfl)] at h;exact h)
end Go.Proofs.YtogchgjfialleaaGreatDoor
namespace Go.Proofs.YtogchgjfialleaaGreatDoor
open Go.RowKit
abbrev BF(a:bQ):List Value:=[.string ⟨a.name.toArray⟩,.string ⟨a.val.toArray⟩,.int .i64 a.place]
abbrev Tk(a:bQ):Value:=.agg #[.string ⟨a.name.toArray⟩,.string ⟨a.val.toArray⟩,.int .i64 a.place]
def fY:List bQ→List Value
 |[]=>[]
 |a::r=>BF a++fY r
theorem xo:∀l m:List bQ,fY (l++m)=fY l++fY m
 |[],m=>rfl
 |a::r,m=>by rw[di,fY,fY,xo r m,jl]
theorem xz:∀{l:List bQ} {i:Nat} {a:bQ},l[i]? =some a→(fY l)[i*3]? =some (.string ⟨a.name.toArray⟩)∧(fY l)[i*3+1]? =some (.string ⟨a.val.toArray⟩)∧(fY l)[i*3+2]? =some (.int .i64 a.place)
 |[],_,_,h=>by simp at h
 |b::r,0,a,h=>by simp at h;subst h;exact⟨rfl,rfl,rfl⟩
 |b::r,i+1,a,h=>by
  obtain⟨c,d,e⟩:=xz (l:=r) (i:=i) (a:=a) (by simpa using h);rw[fY];refine⟨?_, ?_, ?_⟩
  ·rw[jL (by show 3≤_;omega)];rw[←c];congr 1;show(i+1)*3-3=_;omega
  ·rw[jL (by show 3≤_;omega)];rw[←d];congr 1;show(i+1)*3+1-3=_;omega
  ·rw[jL (by show 3≤_;omega)];rw[←e];congr 1;show(i+1)*3+2-3=_;omega
def aP(A:Nat→Prop)(W:World)(l:List bQ)(v:Value):Prop:=(l=[]∧∃a c,v=.slice a 0 c)∨∃b o c,v=.slice (some ⟨b,o,none⟩) l.length c∧l.length≤c∧A b∧b<W.heap.size∧eI W b o (fY l)
theorem aP.cO{A A':Nat→Prop}{W W':World}{l:List bQ}{v:Value}(h:aP A W l v)(m:W.heap.size≤W'.heap.size)(e:∀b,A b→b<W.heap.size→A' b∧W'.heap[b]? =W.heap[b]?):aP A' W' l v:=by
 rcases h with h|⟨b,o,c,i,j,d,a,k⟩
 ·exact .inl h
 ·exact .inr ⟨b,o,c,i,j,(e b d a).1,ej a m,k.cO (e b d a).2⟩
theorem aP.next{A:Nat→Prop}{W W':World}{l:List bQ}{v:Value}(h:aP A W l v)(a:Below W.heap.size W W'):aP A W' l v:=h.cO a.size fun b c d=>⟨c,a.block b d⟩
theorem aP.shape{A:Nat→Prop}{W:World}{l:List bQ}{v:Value}(h:aP A W l v):∃a c,v=.slice a l.length c:=by rcases h with⟨rfl,a,c,rfl⟩|⟨b,o,c,rfl,_⟩<;>exact⟨_,_,rfl⟩
theorem aP.get{A:Nat→Prop}{W:World}{l:List bQ}{k:Option Addr}{n c i:Nat}{a:bQ}(h:aP A W l (.slice k n c))(j:l[i]? =some a):∃b o,k=some ⟨b,o,none⟩∧b<W.heap.size∧A b∧l.length≤c∧
 ∀B:BW W,B.val.cell? ⟨b,o+i*3,none⟩=some (.string ⟨a.name.toArray⟩)∧B.val.cell? ⟨b,o+i*3+1,none⟩=some (.string ⟨a.val.toArray⟩)∧B.val.cell? ⟨b,o+i*3+2,none⟩=some (.int .i64 a.place):=by
 rcases h with⟨rfl,_⟩|⟨b,o,y,t,u,w,e,x⟩
 ·simp at j
 ·injection t with m z p;subst m;subst p;refine⟨b,o,rfl,e,w,u,fun B=> ?_⟩;have d:=x.cO (B.below.block b e);obtain⟨q,r,s⟩:=xz j;exact⟨d _ _ q,by have:=d _ _ r;rw[←oh] at this;exact this,by have:=d _ _ s;rw[←oh] at this;exact this⟩
def tM(q:bQ→Bool)(l:List bQ):Int:=match l.findIdx? q with|some k=>(k:Int)|none=>-1
theorem K5{q:bQ→Bool}{l:List bQ}(h:∀k:Nat,∀a,l[k]? =some a→q a=false):tM q l=-1:=by unfold tM;rw[zL.2];intro a b;obtain⟨k,c⟩:=zP.1 b;exact h k a c
theorem K6{q:bQ→Bool}{l:List bQ}{k:Nat}{a:bQ}(h:∀j:Nat,j<k→∀a,l[j]? =some a→q a=false)(b:l[k]? =some a)(hq:q a=true):tM q l=(k:Int):=by unfold tM;have d:=(cH.1 b).1;rw[zM.2 ⟨d,by rw[(cH.1 b).2];exact hq,fun j c=> ?_⟩];have:=h j c _ (cA (by omega));simpa using this
theorem oK(f:FuncId)(ca:Array Value)(q:bQ→Bool)(l:List bQ)(hl:l.length≤1000000)(Q:Option Addr)(c:Nat)(w:World)(he:∀(vs:Array Value) (w:World),(callFunc f vs).run Tryz.prog w=.ok (.enter f vs) w)
 (O:∀a∈l,∀W,Below w.heap.size w W→Calls Tryz.prog f (#[Tk a]++ca) W (cN W (.bool (q a))))(A:Nat→Prop)(d:aP A w l (.slice Q l.length c)):
 Calls Tryz.prog 56 #[.slice Q l.length c,.func (.func f) #[] ca] w (cN w (.int .i64 (tM q l))):=by
 have R:=ad O;have G:=ad d;obtain⟨V,p⟩:∃V,tM q l=V:=⟨_,rfl⟩;rw[p];have S:=ad (fun h=>p.symm.trans (K5 (q:=q) (l:=l) h));have X:=ad (fun k a h d hq=>p.symm.trans (K6 (q:=q) (l:=l) (k:=k) (a:=a) h d hq));obtain⟨n,z⟩:∃n,l.length=n:=⟨_,rfl⟩;have H:=ad z;rw[z] at G hl⊢;clear O d p z;go_enter Tryz.func56,Tryz.ntmps56;go_upto_region 2 with fail
 go_loopw [8] (fun C wr=>∃i:Nat,i≤n∧C=.int .i64 i∧Hid (∀j:Nat,j<i→∀a,l[j]? =some a→q a=false)∧Hid (Below w.heap.size w wr)) (fun C _=>n-(intOf C).toNat)
 case atStart=>exact⟨0,aH _,rfl,ad (fun j Z=>by omega),ad (ar _ _)⟩
 case round=>
  obtain⟨i,hi,rfl,u,m⟩:=hrel;by_cases ab:i<n
  ·have i1:(i:Int)<(n:Int):=by omega
   have i0:(0:Int)≤(i:Int):=by omega
   obtain⟨a,s⟩:∃a,l[i]? =some a:=⟨_,cA (by rw[H.out];exact ab)⟩;have D:=ad s;obtain⟨b,o,rfl,Y,-,-,N⟩:=G.out.get s;obtain⟨J,K,L⟩:=N ⟨wr,m.out⟩;dsimp only at J K L;have F:=ad (R.out a (eQ s) wr m.out);obtain⟨r,B⟩:∃r,q a=r:=⟨_,rfl⟩;rw[B] at F;have I:=ad B;clear s N B Y;go_wp2_with fail;refine F.out.mono ?_;rintro e w3⟨rfl,M⟩;have E:=ad (m.out.trans (M.mono m.out.size));clear M J K L;rcases r with _|_
   ·have T:=ad (fun(j:Nat) (Z:j<i+1) (x:bQ) (y:l[j]? =some x)=>show q x=false by
     by_cases aa:j<i
     ·exact u.out j aa x y
     ·obtain rfl:j=i:=by omega
      rw[D.out] at y;cases y;exact I.out)
    go_wp2_with fail
    go_roundw
    case rel=>exact⟨i+1,by omega,by go_num,T,E⟩
    case measure=>(simp[intOf]<;>omega)
   ·have t:=ad (X.out i a u.out D.out I.out);go_wp2_with fail;go_ret;exact⟨by rw[t.out];rfl,E.out⟩
  ·obtain rfl:i=n:=by omega
   have t:=ad (S.out fun k a d=>u.out k (by rw[←H.out];exact(cH.1 d).1) a d);go_wp2_with fail;go_ret;exact⟨by rw[t.out];rfl,m.out⟩
theorem N9(q:bQ→Bool)(l:List bQ):decide (0≤tM q l)=l.any q:=by
 unfold tM;cases h:l.findIdx? q with
 |none=>rw[zL] at h;rw[List.any_eq_false.2 fun a b=>by rw[h a b];decide];rfl
 |some k=>obtain⟨c,hq,_⟩:=zM.1 h;rw[lF.2 ⟨_,wI c,hq⟩];exact bN (Int.natCast_nonneg k)
theorem lL(f:FuncId)(ca:Array Value)(q:bQ→Bool)(l:List bQ)(o:l.length≤1000000)(b:Option Addr)(c:Nat)(w:World)(h:∀(vs:Array Value) (w:World),(callFunc f vs).run Tryz.prog w=.ok (.enter f vs) w)
 (d:∀a∈l,∀W,Below w.heap.size w W→Calls Tryz.prog f (#[Tk a]++ca) W (cN W (.bool (q a))))(A:Nat→Prop)(i:aP A w l (.slice b l.length c)):
 Calls Tryz.prog 125 #[.slice b l.length c,.func (.func f) #[] ca] w (cN w (.bool (l.any q))):=by
 have k:=ad (oK f ca q l o b c w h d A i);have j:=ad (N9 q l);generalize tM q l=V at*;generalize l.any q=R at*;generalize l.length=n at*;clear d i h;go_enter Tryz.func125,Tryz.ntmps125;go_wp2_with fail;refine k.out.mono ?_;rintro e p⟨rfl,m⟩;go_wp2_with fail;go_ret;exact⟨cq j.out,m⟩
