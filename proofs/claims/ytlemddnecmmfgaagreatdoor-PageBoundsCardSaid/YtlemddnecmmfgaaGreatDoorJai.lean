/- The walk of the lexer's attr. -/
import Derived.Test.YtlemddnecmmfgaaGreatDoorJaf
import Derived.Test.YtlemddnecmmfgaaGreatDoorJah
import Derived.Test.YtlemddnecmmfgaaGreatDoorTie
import Derived.Test.YtlemddnecmmfgaaGreatDoorCards
import Derived.Lay
import Derived.LaidMore
import Derived.Stop.LaidErr
import Derived.Deep.DeepHandedRow
import Derived.Deep.DeepCutAuto
set_option linter.unusedVariables false
set_option maxRecDepth 100000
set_option maxHeartbeats 8000000
namespace Go.Proofs.YtlemddnecmmfgaaGreatDoor
open Go.RowKit
variable{b:Bs}{n:UInt8}
def LB(W:aaK)(p:Nat)(s:Bs)(i:Nat)(lv:aaL)(h:Int):Prop:=W.heap[p]? =some (.cells #[.string ⟨s.toArray⟩,.int .i64 (i:Int),lv,.int .i64 h] 98)
structure LC (W:aaK) (p:Nat) (s:Bs) (i:Nat) (lv:aaL) (h:Int):Prop where
 c0:W.cell? ⟨p,0,none⟩=some (.string ⟨s.toArray⟩)
 c1:W.cell? ⟨p,1,none⟩=some (.int .i64 (i:Int))
 c2:W.cell? ⟨p,2,none⟩=some lv
 c3:W.cell? ⟨p,3,none⟩=some (.int .i64 h)
 f1:W.frozen? ⟨p,1,none⟩=false
 f2:W.frozen? ⟨p,2,none⟩=false
 f3:W.frozen? ⟨p,3,none⟩=false
section
variable{W W':aaK}{p:Nat}{s:Bs}{i:Nat}{lv:aaL}{h:Int}
theorem LB.lc(x:LB W p s i lv h):LC W p s i lv h:=
 ⟨tH _ _ 0 _ _ _ x,tH _ _ 1 _ _ _ x,tH _ _ 2 _ _ _ x,tH _ _ 3 _ _ _ x,aF _ _ 1 _ _ x,aF _ _ 2 _ _ x,aF _ _ 3 _ _ x⟩
theorem LB.lt(x:LB W p s i lv h):p<W.heap.size:=aV x.lc.c0
theorem LB.next(x:LB W p s i lv h)(a:Below W.heap.size W W'):LB W' p s i lv h:=(a.block p x.lt).t x
theorem LB.iD(x:LB W p s i lv h)(j:Nat):LB (W.setCell ⟨p,1,none⟩ (.int .i64 (j:Int))) p s j lv h:=aw (j:=1) x
theorem LB.Dz(x:LB W p s i lv h)(v:aaL):LB (W.setCell ⟨p,2,none⟩ v) p s i v h:=aw (j:=2) x
theorem LB.Gp(x:LB W p s i lv h)(k:Int):LB (W.setCell ⟨p,3,none⟩ (.int .i64 k)) p s i lv k:=aw (j:=3) x
end
def tS(place e:Int):PanicEntry:={v:=.iface 95 (.agg #[.int .i64 place,.int .i64 e]),recovered:=false}
def mL(n:Nat)(w:aaK)(place e:Int):Ending→aaK→Prop:=fun a w'=>a=.panicked [tS place e]∧Below n w w'
theorem ax(w:aaK)(n:Nat):Below w.heap.size w (w.drewN n):=⟨rfl,rfl,rfl,ag _,fun _ _=>rfl⟩
theorem fE(place e:Int)(w:aaK):Calls Tryz.prog 38 #[.int .i64 place,.int .i64 e] w (mL w.heap.size w place e):=by go_enter Tryz.func38,Tryz.ntmps38;go_wp2;exact⟨rfl,rfl,ar _ _⟩
theorem pY(c:UInt8)(w:aaK):Calls Tryz.prog 154 #[.int .u8 (c.toNat:Int)] w fun e w'=>e=.returned (.bool (mo c))∧w=w':=by
 obtain⟨q,hq⟩:∃q,mo c=q:=⟨_,rfl⟩;rw[hq];have j:=ad hq;unfold mo at hq;rcases dT (97≤c.toNat) with b|b
 ·have h:(97:Int)≤(c.toNat:Int):=by omega
  rcases dT (c.toNat≤122) with d|d
  ·have i:(c.toNat:Int)≤122:=by omega
   have a:=ad (show q=true by rw[←hq,bN (by omega)]);clear hq b d;go_enter Tryz.func154,Tryz.ntmps154;go_wp2_with fail;go_ret;exact⟨cq a.o.symm,rfl⟩
  ·have i:¬(c.toNat:Int)≤122:=by omega
   have a:=ad (show q=false by rw[←hq,cL (by omega)]);clear hq b d;go_enter Tryz.func154,Tryz.ntmps154;go_wp2_with fail;go_ret;exact⟨cq a.o.symm,rfl⟩
 ·have h:¬(97:Int)≤(c.toNat:Int):=by omega
  have a:=ad (show q=false by rw[←hq,cL (by omega)]);clear hq b;go_enter Tryz.func154,Tryz.ntmps154;go_wp2_with fail;go_ret;exact⟨cq a.o.symm,rfl⟩
theorem Rb(c:UInt8):([32,9,10,13]:Bs).contains c=mE c:=congrFun An c
theorem tT(c:UInt8)(w:aaK):Calls Tryz.prog 73 #[.int .u8 (c.toNat:Int)] w fun e w'=>e=.returned (.bool (mE c))∧w'=w:=by
 have a:=eO ⟨#[32,9,10,13]⟩ c;rw[show(⟨#[32,9,10,13]⟩:aaM).data.toList=[32,9,10,13] from rfl,Rb] at a;have b:=ad a;obtain⟨q,hq⟩:∃q,mE c=q:=⟨_,rfl⟩;rw[hq] at b⊢;clear hq a;go_enter Tryz.func73,Tryz.ntmps73;go_wp2_with fail;refine(b.o w).m ?_;rintro e d⟨rfl,rfl⟩;rcases q with _|_
 ·go_wp2_with fail;go_ret;exact⟨rfl,rfl⟩
 ·go_wp2_with fail;go_ret;exact⟨cq (by simp),rfl⟩
section
variable{W:aaK}{p:Nat}{s:Bs}{i:Nat}{lv:aaL}{h:Int}
theorem cX(tag:Int)(a:s.drop i=n::b)(x:LB W p s i lv h)(t:s.length≤1000000):
 Calls Tryz.prog 115 #[.pointer (some ⟨p,0,none⟩),.int .i64 tag] W (cN W (.int .u8 (n.toNat:Int))):=by
 obtain⟨l,m,-,-,-,-,-⟩:=x.lc;have k:=drop_cons a;have d:s[i]? =some n:=by have:=qD (xs:=s) (i:=i) (j:=0);rw[a] at this;simpa using this.symm
 have e:=ad d;have u:(0:Int)≤(i:Int):=by omega
 have w:(i:Int)<(s.length:Int):=by omega
 have q:((i:Int)==(s.length:Int))=false:=by rw[aL];omega
 clear a d k;go_enter Tryz.func115,Tryz.ntmps115;go_wp2_with fail
 go_quiet (fail)
 go_wp2_with fail
 go_quiet (fail)
 go_wp2_with fail;go_ret;exact⟨bW (by show((s[i]'(by omega)).toNat:Int)=_;rw[(cH.1 e.o).2]),rfl,rfl,rfl,ag _,fun _ _=>rfl⟩
theorem iY(tag:Int)(b:i=s.length)(x:LB W p s i lv h)(j:s.length≤1000000):
 Calls Tryz.prog 115 #[.pointer (some ⟨p,0,none⟩),.int .i64 tag] W (mL W.heap.size W tag 14):=by
 subst b;obtain⟨c,d,-,-,-,-,-⟩:=x.lc;go_enter Tryz.func115,Tryz.ntmps115;go_wp2_with fail
 go_quiet (fail)
 go_wp2_with fail;refine(fE tag 14 _).m ?_;rintro e k⟨rfl,a⟩;go_wp2_with fail;exact⟨rfl,rfl,(ax _ _).t a⟩
theorem jQ(tag:Int)(a:s.drop i=n::b)(x:LB W p s i lv h)(q:s.length≤1000000):
 Calls Tryz.prog 117 #[.pointer (some ⟨p,0,none⟩),.int .i64 tag,.bool true] W fun e w'=>e=.returned (.tuple #[])∧LB w' p s (i+1) lv h∧ak p W w':=by
 have l:=drop_cons a;go_enter Tryz.func117,Tryz.ntmps117;go_wp2_with fail;refine(cX tag a x q).m ?_;rintro e y⟨rfl,k⟩;have j:=ad (x.next k);obtain⟨-,t,-,-,u,-,-⟩:=j.o.lc;have d:=ad (j.o.iD (i+1));rw[show((i+1:Nat):Int)=(i:Int)+1 by omega] at d;have w:(i:Int)+1≤1000001:=by omega
 clear a l;go_wp2_with fail
 go_end0
 exact⟨rfl,d.o,(ak.ai k).set⟩
theorem lP(tag:Int)(j:s.drop i=n::b)(x:LB W p s i lv h)(k:s.length≤1000000):
 Calls Tryz.prog 117 #[.pointer (some ⟨p,0,none⟩),.int .i64 tag,.bool false] W (mL W.heap.size W i 12):=by
 go_enter Tryz.func117,Tryz.ntmps117;go_wp2_with fail;refine(cX tag j x k).m ?_;rintro e q⟨rfl,a⟩;obtain⟨-,l,-,-,o,-,-⟩:=(x.next a).lc;go_wp2_with fail;refine(fE i 12 _).m ?_;rintro e u⟨rfl,d⟩;go_wp2_with fail;exact⟨rfl,rfl,a.t (d.m a.size)⟩
end
def j4(W:aaK)(p:Nat):Nat:=match W.cell? ⟨p,1,none⟩ with|some (.int _ n)=>n.toNat|_=>0
theorem LB.at_{W:aaK}{p:Nat}{s:Bs}{i:Nat}{lv:aaL}{h:Int}(x:LB W p s i lv h):j4 W p=i:=by unfold j4;rw[x.lc.c1];simp
theorem BN{q:UInt8→Bool}{l:Bs}{k:Nat}(h:k<lead q l):∃c,l[k]? =some c∧q c=true:=by
 unfold lead at h;have a:(l.takeWhile q)[k]? =some (l.takeWhile q)[k]:=cA h;have hq:=eV.1 (List.all_takeWhile (p:=q) (l:=l)) _ (wI h);refine⟨(l.takeWhile q)[k], ?_,hq⟩;obtain⟨t,d⟩:=List.takeWhile_prefix (l:=l) q;have b:(l.takeWhile q++t)[k]? =some (l.takeWhile q)[k]:=by rw[qC h];exact a
 rw[←b,d]
theorem xn{q:UInt8→Bool}{l:Bs}(h:l[lead q l]? =some n):q n=false:=by
 have b:=cz q l;have a:l.dropWhile q=n::l.drop (lead q l+1):=by rw[←b];have d:=(cH.1 h).1;rw[lG d,(cH.1 h).2]
 have:=List.head_dropWhile_not (p:=q) (l:=l) (by rw[a];simp);simpa[a] using this
section
variable{W:aaK}{p:Nat}{s:Bs}{i:Nat}{lv:aaL}{h:Int}
theorem NF(O:i≤s.length)(x:LB W p s i lv h)(S:s.length≤1000000):
 Calls Tryz.prog 152 #[.pointer (some ⟨p,0,none⟩)] W fun e w'=>e=.returned (.string ⟨((s.drop i).take (db s i)).toArray⟩)∧LB w' p s (i+db s i) lv h∧ak p W w':=by
 have N:=ad x;have R:=iI s O;have F:=ad (fun k (J:k<db s i)=>BN (q:=mo) (l:=s.drop i) (k:=k) J);have G:=ad (fun c (r:(s.drop i)[db s i]? =some c)=>xn (q:=mo) (l:=s.drop i) r);obtain⟨n,K⟩:∃n,db s i=n:=⟨_,rfl⟩;rw[K] at R F G⊢;obtain⟨B,j,-,-,-,-,-⟩:=x.lc;clear x K;go_enter Tryz.func152,Tryz.ntmps152;go_upto_region 2 with fail;clear B j
 go_loopw [] (fun wr=>∃k:Nat,k≤n∧Hid (LB wr p s (i+k) lv h)∧Hid (ak p W wr)) (fun wr=>s.length-j4 wr p)
 case atStart=>exact⟨0,aH _,N,ad (ak.refl _ _)⟩
 case round=>
  obtain⟨k,J,b,z⟩:=hrel;obtain⟨B,j,-,-,H,-,-⟩:=b.o.lc;have I:=ad b.o.at_;obtain⟨a,w⟩:∃a,i+k=a:=⟨_,rfl⟩;rw[w] at b j I;have Z:(0:Int)≤(a:Int):=by omega
  by_cases Q:k<n
  ·have L:(a:Int)<(s.length:Int):=by omega
   have d:a<s.length:=by omega
   obtain⟨c,r,u⟩:=F.o k Q;rw[qD,w] at r;have y:=ad (show∀W:aaK,Calls Tryz.prog 154 #[.int .u8 (((⟨s.toArray⟩:aaM)[a]'(by simpa[ByteArray.size] using d)).toNat:Int)] W fun e w'=>e=.returned (.bool true)∧w'=W from fun W=>by
    have:((⟨s.toArray⟩:aaM)[a]'(by simpa[ByteArray.size] using d))=c:=by show s[a]=c;exact(cH.1 r).2
    rw[this,←u];exact(pY c W).m fun e w' ⟨C,D⟩=>⟨C,D.symm⟩)
   clear r u;go_upto_region 2 with fail
   go_quiet ((go_at_call 154;with_reducible exact mG (y.o _)))
   have E:=ad (b.o.next (ax wr nq));have M:=ad (z.o.t (ak.ai (ax wr nq)));clear B j H b z y;generalize wr.drewN nq=w4 at*;obtain⟨-,j,-,-,H,-,-⟩:=E.o.lc;have A:=ad (E.o.iD (a+1));rw[show((a+1:Nat):Int)=(a:Int)+1 by omega] at A;have Y:(a:Int)+1≤1000001:=by omega
   go_wp2_with fail
   go_roundw
   case rel=>exact⟨k+1,by omega,by rw[show i+(k+1)=a+1 by omega];exact A,ad M.o.set⟩
   case measure=>(show s.length-j4 _ p<s.length-j4 wr p;rw[A.o.at_,I.out];omega)
  ·obtain rfl:k=n:=by omega
   have T:((⟨s.toArray⟩:aaM).extract i a)=⟨((s.drop i).take k).toArray⟩:=by apply uG;apply Array.ext';rw[cf];simp[show a-i=k by omega]
   have i8:(i:Int)≤(a:Int):=by omega
   have X:(a:Int)≤(s.length:Int):=by omega
   have V:(0:Int)≤(i:Int):=by omega
   by_cases d:a<s.length
   ·have L:(a:Int)<(s.length:Int):=by omega
    have u:=G.o s[a] (by rw[qD,w];exact cA d);have y:=ad (show∀W:aaK,Calls Tryz.prog 154 #[.int .u8 (((⟨s.toArray⟩:aaM)[a]'(by simpa[ByteArray.size] using d)).toNat:Int)] W fun e w'=>e=.returned (.bool false)∧w'=W from fun W=>by
     rw[show((⟨s.toArray⟩:aaM)[a]'(by simpa[ByteArray.size] using d))=s[a] from rfl,←u]
     exact(pY s[a] W).m fun e w' ⟨C,D⟩=>⟨C,D.symm⟩)
    clear u;go_upto_region 2 with fail
    go_quiet ((go_at_call 154;with_reducible exact mG (y.o _)))
    go_wp2_with fail
    go_quiet (fail)
    go_wp2_with fail;go_ret;exact⟨rfl,by rw[w];exact b.o.next ⟨rfl,rfl,rfl,ag _,fun _ _=>rfl⟩,z.o.t (ak.ai ⟨rfl,rfl,rfl,ag _,fun _ _=>rfl⟩)⟩
   ·have L:decide ((a:Int)<(s.length:Int))=false:=cL (by omega);go_upto_region 2 with fail
    go_quiet (fail)
    go_wp2_with fail
    go_quiet (fail)
    go_wp2_with fail;go_ret;exact⟨rfl,by rw[w];exact b.o.next ⟨rfl,rfl,rfl,ag _,fun _ _=>rfl⟩,z.o.t (ak.ai ⟨rfl,rfl,rfl,ag _,fun _ _=>rfl⟩)⟩
theorem DA(N:i≤s.length)(x:LB W p s i lv h)(O:s.length≤1000000):
 Calls Tryz.prog 114 #[.pointer (some ⟨p,0,none⟩)] W fun e w'=>e=.returned (.int .i64 (lead mE (s.drop i):Int))∧LB w' p s (i+lead mE (s.drop i)) lv h∧ak p W w':=by
 have K:=ad x;have M:i+lead mE (s.drop i)≤s.length:=by have:=iV mE (s.drop i);rw[bK] at this;omega
 have C:=ad (fun k (G:k<lead mE (s.drop i))=>BN (q:=mE) (l:=s.drop i) (k:=k) G);have D:=ad (fun c (j:(s.drop i)[lead mE (s.drop i)]? =some c)=>xn (q:=mE) (l:=s.drop i) j);obtain⟨n,H⟩:∃n,lead mE (s.drop i)=n:=⟨_,rfl⟩;rw[H] at M C D⊢;obtain⟨A,d,-,-,-,-,-⟩:=x.lc;clear x H;go_enter Tryz.func114,Tryz.ntmps114;go_upto_region 2 with fail;clear A d
 go_loopw [] (fun wr=>∃k:Nat,k≤n∧Hid (LB wr p s (i+k) lv h)∧Hid (ak p W wr)) (fun wr=>s.length-j4 wr p)
 case atStart=>exact⟨0,aH _,K,ad (ak.refl _ _)⟩
 case round=>
  obtain⟨k,G,a,y⟩:=hrel;obtain⟨A,d,-,-,E,-,-⟩:=a.o.lc;have F:=ad a.o.at_;obtain⟨m,u⟩:∃m,i+k=m:=⟨_,rfl⟩;rw[u] at a d F;have V:(0:Int)≤(m:Int):=by omega
  by_cases L:k<n
  ·have I:(m:Int)<(s.length:Int):=by omega
   have b:m<s.length:=by omega
   obtain⟨c,j,r⟩:=C.o k L;rw[qD,u] at j;have w:=ad (show∀W:aaK,Calls Tryz.prog 73 #[.int .u8 (((⟨s.toArray⟩:aaM)[m]'(by simpa[ByteArray.size] using b)).toNat:Int)] W fun e w'=>e=.returned (.bool true)∧w'=W from fun W=>by
    have:((⟨s.toArray⟩:aaM)[m]'(by simpa[ByteArray.size] using b))=c:=by show s[m]=c;exact(cH.1 j).2
    rw[this,←r];exact tT c W)
   clear j r;go_upto_region 2 with fail
   go_quiet ((go_at_call 73;with_reducible exact mG (w.o _)))
   have B:=ad (a.o.next (ax wr nq));have J:=ad (y.o.t (ak.ai (ax wr nq)));clear A d E a y w;generalize wr.drewN nq=X at*;obtain⟨-,d,-,-,E,-,-⟩:=B.o.lc;have z:=ad (B.o.iD (m+1));rw[show((m+1:Nat):Int)=(m:Int)+1 by omega] at z;have T:(m:Int)+1≤1000001:=by omega
   go_wp2_with fail
   go_roundw
   case rel=>exact⟨k+1,by omega,by rw[show i+(k+1)=m+1 by omega];exact z,ad J.o.set⟩
   case measure=>(show s.length-j4 _ p<s.length-j4 wr p;rw[z.o.at_,F.out];omega)
  ·obtain rfl:k=n:=by omega
   have Q:(m:Int)-(i:Int)=(k:Int):=by omega
   have i8:(i:Int)≤(m:Int):=by omega
   have S:(m:Int)≤(s.length:Int):=by omega
   have R:(0:Int)≤(i:Int):=by omega
   by_cases b:m<s.length
   ·have I:(m:Int)<(s.length:Int):=by omega
    have r:=D.o s[m] (by rw[qD,u];exact cA b);have w:=ad (show∀W:aaK,Calls Tryz.prog 73 #[.int .u8 (((⟨s.toArray⟩:aaM)[m]'(by simpa[ByteArray.size] using b)).toNat:Int)] W fun e w'=>e=.returned (.bool false)∧w'=W from fun W=>by
     rw[show((⟨s.toArray⟩:aaM)[m]'(by simpa[ByteArray.size] using b))=s[m] from rfl,←r]
     exact tT s[m] W)
    clear r;go_upto_region 2 with fail
    go_quiet ((go_at_call 73;with_reducible exact mG (w.o _)))
    go_wp2_with fail;go_ret;exact⟨bW (by omega),by rw[u];exact a.o.next ⟨rfl,rfl,rfl,ag _,fun _ _=>rfl⟩,y.o.t (ak.ai ⟨rfl,rfl,rfl,ag _,fun _ _=>rfl⟩)⟩
   ·have I:decide ((m:Int)<(s.length:Int))=false:=cL (by omega);go_upto_region 2 with fail
    go_quiet (fail)
    go_wp2_with fail;go_ret;exact⟨bW (by omega),by rw[u];exact a.o.next ⟨rfl,rfl,rfl,ag _,fun _ _=>rfl⟩,y.o.t (ak.ai ⟨rfl,rfl,rfl,ag _,fun _ _=>rfl⟩)⟩
end
theorem Vk:Tryz.prog.globalNamed "strings.asciiSpace" =some 3:=by kernel_rfl
structure GL (w:aaK):Prop where
 gx:GX w
 sp:Lib.TabIs Tryz.prog w "strings.asciiSpace" .u8 Lib.asciiSpaceTab
theorem GL.next{w w':aaK}(h:GL w)(a:Below w.heap.size w w'):GL w':=⟨h.gx.next a,sv Vk h.sp (by decide+kernel) a⟩
def rh:Bs:=[105,110,99,108,117,100,101,32,105,110,108,105,110,101,32,114,101,109,111,118,101,32,99,111,109,109,101,110,116,32,116,114,121,32,97,116,116,101,109,112,116,32,101,120,99,101,112,116,32,99,104,111,111,115,101,32,119,104,101,110,32,111,116,104,101,114,119,105,115,101,32,118,97,114,115]
theorem BO:Lib.fields rh=elems:=by kernel_rfl
theorem DB:∀(j:Nat) b,rh[j]? =some b→b.toNat<128:=fun j b h=>by
 have a:∀b∈rh,b.toNat<128:=by decide
 exact a b (eQ h)
theorem mr(l:List Bs)(x:Bs):Lib.containsS (l.map fun b=>(⟨b.toArray⟩:aaM)) ⟨x.toArray⟩=l.contains x:=by
 rw[gf,Lib.containsS_iff,r8,qE];constructor
 ·rintro⟨b,c,d⟩;have:=congrArg (fun a:aaM=>a.data.toList) d;simp at this;rw[←this];exact c
 ·intro h;exact⟨x,h,rfl⟩
theorem Gq(w:aaK)(l:List Bs)(j:Nat)(a:j<(l.map fun b=>(⟨b.toArray⟩:aaM)).length):(w.alloc (.cells (l.map fun x=>Value.string ⟨x.toArray⟩).toArray 9)).cell? ⟨w.heap.size,0+j,none⟩=some (.string ((l.map fun b=>(⟨b.toArray⟩:aaM)).getD j ByteArray.empty)):=by rw[dH];refine bH w _ _ j _ ?_;rw[jo] at a;simp[cA a]
theorem KM(nm:Bs)(w:aaK):Calls Tryz.prog 122 #[.slice (some ⟨w.heap.size,0,none⟩) 11 11,.string ⟨nm.toArray⟩] (w.alloc (.cells (elems.map fun x=>Value.string ⟨x.toArray⟩).toArray 9)) fun e w'=>e=.returned (.bool (elems.contains nm))∧w'=w.alloc (.cells (elems.map fun x=>Value.string ⟨x.toArray⟩).toArray 9):=by have h:=Tryz.slices_Contains_string w.heap.size 0 11 11 (elems.map fun b=>(⟨b.toArray⟩:aaM)) ⟨nm.toArray⟩ (w.alloc (.cells (elems.map fun x=>Value.string ⟨x.toArray⟩).toArray 9)) (by decide) (by decide) (fun j a=>Gq w elems j a);rw[oe (by decide),mr] at h;exact h
theorem abY(w:aaK)(c:GL w):Calls Tryz.prog 153 #[.string ⟨rh.toArray⟩] w fun e w'=>e=.returned (.slice (some ⟨w.heap.size,0,none⟩) 11 11)∧w'=w.alloc (.cells (elems.map fun x=>Value.string ⟨x.toArray⟩).toArray 9):=by have h:=Tryz.strings_Fields ⟨rh.toArray⟩ w (by decide) (fun j b a=>DB j b (by simpa using a)) c.sp;rw[show(⟨rh.toArray⟩:aaM).data.toList=rh from rfl,BO] at h;exact h
section
variable{W:aaK}{p:Nat}{s:Bs}{i:Nat}{lv:aaL}{h:Int}
def Rc(p:Nat)(W:aaK)(s:Bs)(i:Nat)(lv:aaL)(h tag:Int)(q:Bool)(nm:Bs)(n:Nat):Ending→aaK→Prop:=fun e w'=>(q=true→e=.returned (.string ⟨nm.toArray⟩)∧LB w' p s (i+n) lv h∧ak p W w')∧(q=false→mL p W tag 11 e w')
theorem DC(c:aaK)(z:GL c)(E:Below c.heap.size c W)(I:c.heap.size≤p)(tag:Int)(K:i≤s.length)(x:LB W p s i lv h)(M:s.length≤1000000):
 Calls Tryz.prog 113 #[.pointer (some ⟨p,0,none⟩),.int .i64 tag] W (Rc p W s i lv h tag (elems.contains ((s.drop i).take (db s i))) ((s.drop i).take (db s i)) (db s i)):=by
 have b:=ad (NF K x M);obtain⟨n,B⟩:∃n,db s i=n:=⟨_,rfl⟩;rw[B] at b⊢;obtain⟨nm,C⟩:∃nm,(s.drop i).take n=nm:=⟨_,rfl⟩;rw[C] at b⊢;have d:=ad (KM nm);obtain⟨q,hq⟩:∃q,elems.contains nm=q:=⟨_,rfl⟩;rw[hq] at d⊢;clear B C hq;have L:=x.lt;have H:=ad z;have k:=ad E;clear E z;go_enter Tryz.func113,Tryz.ntmps113;go_wp2_with fail;refine b.o.m ?_;rintro e a⟨rfl,A,r⟩;have u:=ad A;have w:=ad r;have y:=ad (k.o.t (r.below I k.o.size));have D:p≤W.heap.size:=om L;clear A r b;go_wp2_with fail;refine(abY a (H.o.next y.o)).m ?_;rintro e N⟨rfl,rfl⟩;have l:Below a.heap.size a (a.alloc (.cells (elems.map fun x=>Value.string ⟨x.toArray⟩).toArray 9)):=(ar _ _).alloc (ag _) _;have G:=ad (u.o.next l);have j:=ad (w.o.t (ak.ai l));clear l u w y k;go_wp2_with fail;refine(d.o a).m ?_;rintro e F⟨rfl,rfl⟩;clear d;generalize a.alloc (.cells (elems.map fun x=>Value.string ⟨x.toArray⟩).toArray 9)=F at*;rcases q with _|_
 ·go_wp2_with fail;refine(fE tag 11 F).m ?_;rintro e O⟨rfl,J⟩;go_wp2_with fail;exact⟨rfl,fun h=>(by cases h),fun _=>⟨rfl,(j.o.below (ag _) D).t (J.m (bP D j.o.size))⟩⟩
 ·go_wp2_with fail;go_ret;exact⟨fun _=>⟨rfl,G.o,j.o⟩,fun h=>(by cases h)⟩
end
end Go.Proofs.YtlemddnecmmfgaaGreatDoor
namespace Go.Proofs.YtlemddnecmmfgaaGreatDoor
open Go.RowKit Go.ChangeShapes Go.WideShapes Go.ChangeAt
variable{u:Option TypeDesc}{a:aaK}
theorem own:ownKnob Tryz.prog.godebug=none:=by kernel_rfl
theorem laidOut:laidOutB Tryz.prog=true:=by kernel_rfl
theorem yg(h:a.ShapedOpen Tryz.prog):Good a:=
 cell_of_shapedOpen_int (P:=Tryz.prog) (g:=0) (t:=3) (zero:=#[.int .i64 0]) h (dv (by kernel_rfl)) (by kernel_rfl) rfl (by kernel_rfl) (by kernel_rfl) u3
theorem EE{H:Type}{enc:TypeId×aaL→H}{C:Checked}{os:Os}{f:FuncId}{fn:Func}{s:OpenSpec}{b:List PathCond}{apart:Bool}{laid:List (String×DataW Unit)}(a:aaK)(args:Array aaL)(d:a.os=os)
 (h:(a.forCall (fun _ _=>0) ⟨#[],args,[]⟩).Shaped C.prog)
 (c:Input.okWideB C.prog (a.forCall (fun _ _=>0) ⟨#[],args,[]⟩) f ⟨#[],args,[]⟩=true)
 (e:s.preRow enc C.prog fn b apart laid (a.forCall (fun _ _=>0) ⟨#[],args,[]⟩).memory args):
 ∃(w:aaK) (tape:Tape) (i:Input),w.os=os∧(w.forCall tape i).Shaped C.prog∧i.vars=[]∧Input.okWide C.prog (w.forCall tape i) .any w.heap.size f i∧
  s.preRow enc C.prog fn b apart laid (w.forCall tape i).memory i.args∧({}:Assume).holds C.prog (lone (Frame.enter C.prog f i.args .normal) [] (w.forCall tape i)):=
 ⟨a,fun _ _=>0,⟨#[],args,[]⟩,d,h,(Input.okWide_of_okWideB (base:=0) c).1,(Input.okWide_of_okWideB c).2,e,by simp only[Assume.holds];exact⟨by simp,by simp,by simp,by simp,by simp⟩⟩
abbrev lj:List (String×DataW Unit):=Rows.pageBoundsRow.laid
theorem O0(os:Os)(args:Array aaL):laidMetH Tryz.prog lj ((World.laidAll Tryz.prog os lj).forCall (fun _ _=>0) ⟨#[],args,[]⟩).memory:=by rw[MakeChecks.laidMetH_plain _ _ _ (by kernel_rfl)];exact laidMet_laidAll _ (by kernel_rfl) (by kernel_rfl)
theorem EF(os:Os)(args:Array aaL):((World.laidAll Tryz.prog os lj).forCall (fun _ _=>0) ⟨#[],args,[]⟩).Shaped Tryz.prog:=
 World.shaped_of_ZipB (by kernel_rfl) (by kernel_rfl)
theorem O1:(Tryz.prog.globals[4]?).map (·.type)=some 282:=by kernel_rfl
theorem O2:(Tryz.prog.globals[7]?).map (·.type)=some 123:=by kernel_rfl
theorem O3:(Tryz.prog.globals[8]?).map (·.type)=some 123:=by kernel_rfl
theorem JU: "*" ++ "errors.errorString" = "*errors.errorString" :=by decide
theorem O4(u:TypeId)(h:Tryz.prog.typeName? 3 u=some "*errors.errorString"):u=322:=
 typeName_ptr_named (nm:= "errors.errorString") (by rw[JU];kernel_rfl) (by kernel_rfl) (by decide) u (by rw[JU];exact h)
theorem VI:wv (Tryz.prog.underlying 324)=some [(0,9)]:=by kernel_rfl
theorem Uy{o:Nat}{c:TypeId}(h:wv u=some [(o,c)]):∃f,u=some (.struct #[f])∧f.type=c∧f.offset=o:=by
 obtain⟨⟨fs⟩,b,a⟩:=Cd h
 match fs,a,b with
 |[f],a,b=>simp only[kg,List.map_nil,Xy,kj,and_true] at a;exact⟨f,b,a.2,a.1⟩
theorem LG:∃f,Tryz.prog.underlying 324=some (.struct #[f])∧f.type=9∧f.offset=0:=Uy VI
def Uz:Option TypeDesc→Bool
 |some (.interface _)=>true
 |_=>false
theorem EG(h:Uz u=true):∃a,u=some (.interface a):=by
 cases u with
 |none=>cases h
 |some u=>cases u<;>first|(cases h;done)|exact⟨_,rfl⟩
theorem Y8:∃a,Tryz.prog.underlying 123=some (.interface a):=EG (by kernel_rfl)
theorem Sd:(Tryz.prog.globals[3]?).map (·.type)=some 245:=by kernel_rfl
theorem Hx(l:a.ShapedOpen Tryz.prog)(h:laidMet Tryz.prog lj a):GX a:=by obtain⟨f,k,d,j⟩:=LG;obtain⟨q,i⟩:=Y8;have b:=h.tail.tail;have c:=b.tail.tail;obtain⟨p,r,m,-,-,-⟩:=laid_sentinel c TE O3 i O4 (te:=324) (by kernel_rfl) k d j u9 (by kernel_rfl) TB;obtain⟨a1,s,o,-,-,-⟩:=laid_sentinel c.tail TF O2 i O4 (te:=324) (by kernel_rfl) k d j u9 (by kernel_rfl) TB;exact⟨yg l,Lib.tabIs_of_head TG O1 (n:=20) (e:=230) (by kernel_rfl) (by kernel_rfl) (by kernel_rfl) (by kernel_rfl) b,⟨_,_,o⟩,⟨_,_,m⟩⟩
theorem Hy(b:a.ShapedOpen Tryz.prog)(h:laidMet Tryz.prog lj a):GL a:=
 ⟨Hx b h,Lib.tabIs_of_head Vk Sd (n:=256) (e:=5) (by kernel_rfl) (by kernel_rfl) (by kernel_rfl) (by kernel_rfl) h.tail.tail.tail.tail.tail.tail.tail⟩
theorem EH(b:a.ShapedOpen Tryz.prog)(h:laidMetH Tryz.prog lj a):GL a:=Hy b (by rw[MakeChecks.laidMetH_plain _ _ _ (by kernel_rfl)] at h;exact h)
end Go.Proofs.YtlemddnecmmfgaaGreatDoor
namespace Go.Proofs.YtlemddnecmmfgaaGreatDoor
open Go.RowKit
variable{y:List bQ}{d:Nat→Prop}{e:aaK}
abbrev BF(a:bQ):List aaL:=[.string ⟨a.name.toArray⟩,.string ⟨a.val.toArray⟩,.int .i64 a.place]
abbrev Tk(a:bQ):aaL:=.agg #[.string ⟨a.name.toArray⟩,.string ⟨a.val.toArray⟩,.int .i64 a.place]
def fY:List bQ→List aaL
 |[]=>[]
 |a::r=>BF a++fY r
theorem xo:∀l m:List bQ,fY (l++m)=fY l++fY m
 |[],m=>rfl
 |a::r,m=>by rw[di,fY,fY,xo r m,jl]
theorem xz:∀{l:List bQ} {i:Nat} {a:bQ},l[i]? =some a→(fY l)[i*3]? =some (.string ⟨a.name.toArray⟩)∧(fY l)[i*3+1]? =some (.string ⟨a.val.toArray⟩)∧(fY l)[i*3+2]? =some (.int .i64 a.place)
 |[],_,_,h=>by simp at h
 |b::r,0,a,h=>by simp at h;subst h;exact⟨rfl,rfl,rfl⟩
 |b::r,i+1,a,h=>by
  obtain⟨c,d,e⟩:=xz (l:=r) (i:=i) (a:=a) (by simpa using h);rw[fY];refine⟨?_, ?_, ?_⟩
  ·rw[jL (by show 3≤_;omega)];rw[←c];congr 1;show(i+1)*3-3=_;omega
  ·rw[jL (by show 3≤_;omega)];rw[←d];congr 1;show(i+1)*3+1-3=_;omega
  ·rw[jL (by show 3≤_;omega)];rw[←e];congr 1;show(i+1)*3+2-3=_;omega
def aP(A:Nat→Prop)(W:aaK)(l:List bQ)(v:aaL):Prop:=(l=[]∧∃a c,v=.slice a 0 c)∨∃b o c,v=.slice (some ⟨b,o,none⟩) l.length c∧l.length≤c∧A b∧b<W.heap.size∧eI W b o (fY l)
theorem aP.cO{A A':Nat→Prop}{W W':aaK}{l:List bQ}{v:aaL}(h:aP A W l v)(m:W.heap.size≤W'.heap.size)(e:∀b,A b→b<W.heap.size→A' b∧W'.heap[b]? =W.heap[b]?):aP A' W' l v:=by
 rcases h with h|⟨b,o,c,i,j,d,a,k⟩
 ·exact .inl h
 ·exact .inr ⟨b,o,c,i,j,(e b d a).1,ej a m,k.cO (e b d a).2⟩
theorem aP.next{W W':aaK}{v:aaL}(h:aP d W y v)(a:Below W.heap.size W W'):aP d W' y v:=h.cO a.size fun b c e=>⟨c,a.block b e⟩
theorem aP.shape{v:aaL}(h:aP d e y v):∃a c,v=.slice a y.length c:=by rcases h with⟨rfl,a,c,rfl⟩|⟨b,o,c,rfl,_⟩<;>exact⟨_,_,rfl⟩
theorem aP.get{p:Option Addr}{n c i:Nat}{a:bQ}(h:aP d e y (.slice p n c))(m:y[i]? =some a):∃b o,p=some ⟨b,o,none⟩∧b<e.heap.size∧d b∧y.length≤c∧
 ∀B:BW e,B.val.cell? ⟨b,o+i*3,none⟩=some (.string ⟨a.name.toArray⟩)∧B.val.cell? ⟨b,o+i*3+1,none⟩=some (.string ⟨a.val.toArray⟩)∧B.val.cell? ⟨b,o+i*3+2,none⟩=some (.int .i64 a.place):=by
 rcases h with⟨rfl,_⟩|⟨b,o,D,w,x,z,k,C⟩
 ·simp at m
 ·injection w with q E r;subst q;subst r;refine⟨b,o,rfl,k,z,x,fun B=> ?_⟩;have j:=C.cO (B.below.block b k);obtain⟨s,t,u⟩:=xz m;exact⟨j _ _ s,by have:=j _ _ t;rw[←oh] at this;exact this,by have:=j _ _ u;rw[←oh] at this;exact this⟩
def tM(q:bQ→Bool)(l:List bQ):Int:=match l.findIdx? q with|some k=>(k:Int)|none=>-1
theorem K5{q:bQ→Bool}{l:List bQ}(h:∀k:Nat,∀a,l[k]? =some a→q a=false):tM q l=-1:=by unfold tM;rw[zL.2];intro a b;obtain⟨k,c⟩:=zP.1 b;exact h k a c
theorem K6{q:bQ→Bool}{l:List bQ}{k:Nat}{a:bQ}(h:∀j:Nat,j<k→∀a,l[j]? =some a→q a=false)(b:l[k]? =some a)(hq:q a=true):tM q l=(k:Int):=by unfold tM;have d:=(cH.1 b).1;rw[zM.2 ⟨d,by rw[(cH.1 b).2];exact hq,fun j c=> ?_⟩];have:=h j c _ (cA (by omega));simpa using this
theorem oK(f:FuncId)(ca:Array aaL)(q:bQ→Bool)(l:List bQ)(hl:l.length≤1000000)(S:Option Addr)(c:Nat)(w:aaK)(he:∀(vs:Array aaL) (w:aaK),(callFunc f vs).run Tryz.prog w=.ok (.enter f vs) w)
 (R:∀a∈l,∀W,Below w.heap.size w W→Calls Tryz.prog f (#[Tk a]++ca) W (cN W (.bool (q a))))(A:Nat→Prop)(d:aP A w l (.slice S l.length c)):
 Calls Tryz.prog 92 #[.slice S l.length c,.func (.func f) #[] ca] w (cN w (.int .i64 (tM q l))):=by
 have T:=ad R;have I:=ad d;obtain⟨V,s⟩:∃V,tM q l=V:=⟨_,rfl⟩;rw[s];have X:=ad (fun h=>s.symm.t (K5 (q:=q) (l:=l) h));have Z:=ad (fun k a h d hq=>s.symm.t (K6 (q:=q) (l:=l) (k:=k) (a:=a) h d hq));obtain⟨n,C⟩:∃n,l.length=n:=⟨_,rfl⟩;have J:=ad C;rw[C] at I hl⊢;clear R d s C;go_enter Tryz.func92,Tryz.ntmps92;go_upto_region 2 with fail
 go_loopw [8] (fun E wr=>∃i:Nat,i≤n∧E=.int .i64 i∧Hid (∀j:Nat,j<i→∀a,l[j]? =some a→q a=false)∧Hid (Below w.heap.size w wr)) (fun E _=>n-(intOf E).toNat)
 case atStart=>exact⟨0,aH _,rfl,ad (fun j hj=>by omega),ad (ar _ _)⟩
 case round=>
  obtain⟨i,hi,rfl,y,p⟩:=hrel;by_cases ab:i<n
  ·have i1:(i:Int)<(n:Int):=by omega
   have i0:(0:Int)≤(i:Int):=by omega
   obtain⟨a,u⟩:∃a,l[i]? =some a:=⟨_,cA (by rw[J.o];exact ab)⟩;have F:=ad u;obtain⟨b,o,rfl,hb,-,-,Q⟩:=I.o.get u;obtain⟨L,M,N⟩:=Q ⟨wr,p.o⟩;dsimp only at L M N;have H:=ad (T.o a (eQ u) wr p.o);obtain⟨r,D⟩:∃r,q a=r:=⟨_,rfl⟩;rw[D] at H;have K:=ad D;clear u Q D hb;go_wp2_with fail;refine H.o.m ?_;rintro e w3⟨rfl,O⟩;have G:=ad (p.o.t (O.m p.o.size));clear O L M N;rcases r with _|_
   ·have Y:=ad (fun(j:Nat) (hj:j<i+1) (z:bQ) (B:l[j]? =some z)=>show q z=false by
     by_cases aa:j<i
     ·exact y.o j aa z B
     ·obtain rfl:j=i:=by omega
      rw[F.o] at B;cases B;exact K.o)
    go_wp2_with fail
    go_roundw
    case rel=>exact⟨i+1,by omega,by go_num,Y,G⟩
    case measure=>(simp[intOf]<;>omega)
   ·have x:=ad (Z.o i a y.o F.o K.o);go_wp2_with fail;go_ret;exact⟨by rw[x.o];rfl,G.o⟩
  ·obtain rfl:i=n:=by omega
   have x:=ad (X.o fun k a d=>y.o k (by rw[←J.o];exact(cH.1 d).1) a d);go_wp2_with fail;go_ret;exact⟨by rw[x.o];rfl,p.o⟩
theorem N9(q:bQ→Bool)(l:List bQ):decide (0≤tM q l)=l.any q:=by
 unfold tM;cases h:l.findIdx? q with
 |none=>rw[zL] at h;rw[aaV.2 fun a b=>by rw[h a b];decide];rfl
 |some k=>obtain⟨c,hq,_⟩:=zM.1 h;rw[lF.2 ⟨_,wI c,hq⟩];exact bN (Int.natCast_nonneg k)
theorem lL(f:FuncId)(ca:Array aaL)(q:bQ→Bool)(l:List bQ)(r:l.length≤1000000)(b:Option Addr)(c:Nat)(w:aaK)(h:∀(vs:Array aaL) (w:aaK),(callFunc f vs).run Tryz.prog w=.ok (.enter f vs) w)
 (d:∀a∈l,∀W,Below w.heap.size w W→Calls Tryz.prog f (#[Tk a]++ca) W (cN W (.bool (q a))))(A:Nat→Prop)(i:aP A w l (.slice b l.length c)):
 Calls Tryz.prog 120 #[.slice b l.length c,.func (.func f) #[] ca] w (cN w (.bool (l.any q))):=by
 have k:=ad (oK f ca q l r b c w h d A i);have j:=ad (N9 q l);generalize tM q l=V at*;generalize l.any q=R at*;generalize l.length=n at*;clear d i h;go_enter Tryz.func120,Tryz.ntmps120;go_wp2_with fail;refine k.o.m ?_;rintro e s⟨rfl,p⟩;go_wp2_with fail;go_ret;exact⟨cq j.o,p⟩
variable{a:Bs}{z:Int}{u y:Nat}{n:UInt8}{d:aaK}{A:aaL}
theorem KN(nm:Bs)(b:bQ)(a:Nat)(W:aaK)(d:W.cell? ⟨a,0,none⟩=some (.string ⟨nm.toArray⟩)):
 Calls Tryz.prog 155 #[Tk b,.pointer (some ⟨a,0,none⟩)] W (cN W (.bool (nm==b.name))):=by
 have c:Below W.heap.size W (W.alloc (.cells (BF b).toArray 159)):=(ar _ _).alloc (ag _) _;have e:=ad c;have h:(W.alloc (.cells (BF b).toArray 159)).cell? ⟨a,0,none⟩=some (.string ⟨nm.toArray⟩):=(c.cell (p:=⟨a,0,none⟩) (aV d)).t d;have i:=bH W (BF b).toArray 159 0 _ rfl;clear c d;go_enter Tryz.func155,Tryz.ntmps155;go_wp2_with fail;go_ret;exact⟨rfl,e.o⟩
structure TZ (s:Bs) (tag i:Nat) (l:List bQ) (nm:Bs) (j:Nat) (R:Lx bQ):Prop where
 dup:l.any (fun b=>nm==b.name)=true→R=.bad i 12
 Wz:l.any (fun b=>nm==b.name)=false→s.drop j=[]→R=.bad tag 14
 eq:l.any (fun b=>nm==b.name)=false→∀c r,s.drop j=c::r→(c==61&& !nm.isEmpty)=false→R=.bad j 12
 WA:l.any (fun b=>nm==b.name)=false→nm≠[]→s.drop j=[61]→R=.bad tag 14
 mark:l.any (fun b=>nm==b.name)=false→nm≠[]→∀m q,s.drop j=61::m::q→(m==34||m==39)=false→R=.bad (j+1) 12
 open_:l.any (fun b=>nm==b.name)=false→nm≠[]→∀m q,s.drop j=61::m::q→(m==34||m==39)=true→q.contains m=false→R=.bad tag 14
 aq:l.any (fun b=>nm==b.name)=false→nm≠[]→∀m q,s.drop j=61::m::q→(m==34||m==39)=true→q.contains m=true→R=.aq ⟨nm,upto m q,(i:Int)⟩ (j+2+(upto m q).length+1)
theorem Rd{tag i:Nat}{l:List bQ}{nm:Bs}{j:Nat}(u:(a.drop i).take (min 16 (db a i))=nm)(t:i+nm.length=j):TZ a tag i l nm j (fU a tag i l):=by
 have k:fU a tag i l=if l.any (fun b=>nm==b.name) then .bad i 12 else
  match a.drop j with
  |[]=>.bad tag 14
  |c::r=>
   if c==61&& !nm.isEmpty then
    match r with
    |[]=>.bad tag 14
    |m::q=>
     if m==34||m==39 then
      (if q.contains m then .aq ⟨nm,upto m q,(i:Int)⟩ (j+2+(upto m q).length+1) else .bad tag 14)
     else .bad (j+1) 12
   else .bad j 12:=by
  subst t;subst u;rfl
 have o:nm≠[]→nm.isEmpty=false:=fun h=>by cases nm with|nil=>exact(h rfl).elim|cons=>rfl
 refine⟨fun h=> ?_,fun h d=> ?_,fun h c r d e=> ?_,fun h d e=> ?_,fun h d m q e n=> ?_,fun h d m q e n p=> ?_,fun h d m q e n p=> ?_⟩
 ·rw[k,h];rfl
 ·rw[k,h,d];rfl
 ·rw[k,h,d];simp only[wG,if_false];rw[e];rfl
 ·rw[k,h,e,o d];rfl
 ·rw[k,h,e,o d];simp only[wG,if_false,qS,Bool.not_false,Bool.and_self,if_true];rw[n];rfl
 ·rw[k,h,e,o d];simp only[wG,if_false,qS,Bool.not_false,Bool.and_self,if_true];rw[n,p];rfl
 ·rw[k,h,e,o d];simp only[wG,if_false,qS,Bool.not_false,Bool.and_self,if_true];rw[n,p];rfl
theorem vY(s:Bs)(a b:Nat)(v:Bs)(h:(s.drop a).take (b-a)=v):((⟨s.toArray⟩:aaM).extract a b)=⟨v.toArray⟩:=by apply uG;apply Array.ext';rw[cf];simpa using h
theorem jx{p b j:Nat}{W W':aaK}{v:aaL}(h:ak p W W')(d:W.heap.size≤b):ak p W (W'.setCell ⟨b,j,none⟩ v):=
 ⟨h.os,h.tape,h.output,by
  have:(W'.setCell ⟨b,j,none⟩ v).heap.size=W'.heap.size:=by simp[World.setCell]
  rw[this];exact h.size,fun k a c=>(dy W' ⟨b,j,none⟩ v k (by show k≠b;omega)).t (h.block k a c)⟩
theorem Ao{w:aaK}{b v0 v1 v2:aaL}(c:LB w u a y b z)(l:w.heap[d.heap.size]? =some (.cells #[.string ⟨#[]⟩,.string ⟨#[]⟩,.int .i64 0] 159))(m:ak u d w)(n:0≤0)(k:d.heap.size≠u):
 (((w.setCell ⟨d.heap.size,0,none⟩ v0).setCell ⟨d.heap.size,1,none⟩ v1).setCell ⟨d.heap.size,2,none⟩ v2).heap[d.heap.size]? =some (.cells #[v0,v1,v2] 159)∧
 LB (((w.setCell ⟨d.heap.size,0,none⟩ v0).setCell ⟨d.heap.size,1,none⟩ v1).setCell ⟨d.heap.size,2,none⟩ v2) u a y b z∧
 ak u d (((w.setCell ⟨d.heap.size,0,none⟩ v0).setCell ⟨d.heap.size,1,none⟩ v1).setCell ⟨d.heap.size,2,none⟩ v2):=by
 refine⟨aw (j:=2) (aw (j:=1) (aw (j:=0) l)), ?_,jx (jx (jx m (ag _)) (ag _)) (ag _)⟩;have e:∀(w:aaK) (j:Nat) (v:aaL),LB w u a y b z→LB (w.setCell ⟨d.heap.size,j,none⟩ v) u a y b z:=fun w j v c=>(dy w ⟨d.heap.size,j,none⟩ v u (by show u≠d.heap.size;exact eo k)).t c;exact e _ _ _ (e _ _ _ (e _ _ _ c))
theorem sw{fn:Func}{tmps:Array aaL}{v1 v2:aaL}(h:fn.results=#[.cell y 159])(c:tmps.getD y undef=.pointer (some ⟨u,0,none⟩))(a:d.heap[u]? =some (.cells #[A,v1,v2] 159)):
 (results fn tmps).run Tryz.prog d=.ok (.agg #[A,v1,v2]) d:=by
 obtain⟨i,j,k⟩:=qX3 (aj a) 0 1 2;have e:tmps[y]?.getD undef=.pointer (some ⟨u,0,none⟩):=by rw[←c];simp
 simp[results,h,go_sem,e,i,j,k]
theorem nz{d:UInt8}(h:(n==d)=false):((n.toNat:Int)==(d.toNat:Int))=false:=by rw[aL] at h⊢;intro e;exact h (UInt8.toNat_inj.1 (by omega))
theorem Gs(h:(n==34||n==39)=true):n=34∨n=39:=by rw[wH,bZ,bZ] at h;exact h
def Re(p:Nat)(W:aaK)(s:Bs)(b:aaL)(h:Int):Lx bQ→Ending→aaK→Prop
 |.aq a t=>fun e w'=>e=.returned (Tk a)∧LB w' p s t b h∧ak p W w'
 |.bad q c=>mL p W q c
theorem NG(tag:Nat)(l:List bQ)(hl:l.length≤1000000)(sa:Option Addr)(sc:Nat)(d6:aP (fun b=>b≠u) d l (.slice sa l.length sc))(hi:y≤a.length)(x:LB d u a y A z)(S:a.length≤1000000):
 Calls Tryz.prog 116 #[.pointer (some ⟨u,0,none⟩),.int .i64 (tag:Int),.slice sa l.length sc] d (Re u d a A z (fU a tag y l)):=by
 have hn:=iI a hi;have b8:=ad (fun k (hk:k<db a y)=>BN (q:=mo) (l:=a.drop y) (k:=k) hk);have ca:=ad (fun c (Q:(a.drop y)[db a y]? =some c)=>xn (q:=mo) (l:=a.drop y) Q);obtain⟨nm,bn⟩:∃nm,(a.drop y).take (min 16 (db a y))=nm:=⟨_,rfl⟩;have a4:nm.length=min 16 (db a y):=by rw[←bn,gu,bK];omega
 have HR:=ad (Rd (tag:=tag) (l:=l) bn rfl);have b9:=ad bn;obtain⟨R,hR⟩:∃R,fU a tag y l=R:=⟨_,rfl⟩;rw[hR] at HR⊢;clear hR bn;obtain⟨n0,ea⟩:∃n,db a y=n:=⟨_,rfl⟩;rw[ea] at hn b8 ca b9 a4;obtain⟨n,c4⟩:∃n,min 16 n0=n:=⟨_,rfl⟩;rw[c4] at b9 a4;rw[a4] at HR;have HN:=ad (And.intro c4.symm (show n≤16∧n≤n0∧(n<16→n=n0) by omega));clear ea c4;have e3:=ad a4;clear a4;have hA:Below d.heap.size d (d.alloc (.cells #[.string ⟨#[]⟩,.string ⟨#[]⟩,.int .i64 0] 159)):=(ar _ _).alloc (ag _) _;have cn:=ad (x.next hA);have dq:=ad (ak.ai (p:=u) hA);have d4:=ad (d6.next hA);have cb:=ad (au d (.cells #[.string ⟨#[]⟩,.string ⟨#[]⟩,.int .i64 0] 159));have hp:=x.lt;obtain⟨Y,D,-,-,-,-,-⟩:=cn.o.lc;clear d6 x hA;go_enter Tryz.func116,Tryz.ntmps116;go_upto_region 1 with fail;generalize d.alloc (.cells #[.string ⟨#[]⟩,.string ⟨#[]⟩,.int .i64 0] 159)=W0 at*;go_upto_region 2 with fail;clear Y D
 go_loopw [] (fun wr=>∃k:Nat,k≤n∧Hid (LB wr u a (y+k) A z)∧Hid (ak u W0 wr)) (fun wr=>a.length-j4 wr u)
 case atStart=>exact⟨0,aH _,cn,ad (ak.refl _ _)⟩
 case round=>
  obtain⟨k,hk,HB,HT⟩:=hrel;obtain⟨Y,D,-,-,O,-,-⟩:=HB.o.lc;have cs:=ad HB.o.at_;obtain⟨ev,ez,eb⟩:=HN.o.2;obtain⟨C,hm⟩:∃C,y+k=C:=⟨_,rfl⟩;rw[hm] at HB D cs;have m0:(0:Int)≤(C:Int):=by omega
  by_cases eu:k<n
  ·have m1:(C:Int)<(a.length:Int):=by omega
   have m2:(C:Int)-(y:Int)<16:=by omega
   have ac:C<a.length:=by omega
   obtain⟨c,Q,d9⟩:=b8.o k (by omega);rw[qD,hm] at Q;have HS:=ad (show∀d:aaK,Calls Tryz.prog 154 #[.int .u8 (((⟨a.toArray⟩:aaM)[C]'(by simpa[ByteArray.size] using ac)).toNat:Int)] d fun e w'=>e=.returned (.bool true)∧w'=d from fun d=>by
    have:((⟨a.toArray⟩:aaM)[C]'(by simpa[ByteArray.size] using ac))=c:=by show a[C]=c;exact(cH.1 Q).2
    rw[this,←d9];exact(pY c d).m fun e w' ⟨Z,h2⟩=>⟨Z,h2.symm⟩)
   clear Q d9;go_upto_region 2 with fail
   go_quiet ((go_at_call 154;with_reducible exact mG (HS.o _)))
   have K:=ad (HB.o.next (ax wr nq));have bk:=ad (HT.o.t (ak.ai (ax wr nq)));clear Y D O HB HT HS;generalize wr.drewN nq=w4 at*;obtain⟨-,D,-,-,O,-,-⟩:=K.o.lc;have HE:=ad (K.o.iD (C+1));rw[show((C+1:Nat):Int)=(C:Int)+1 by omega] at HE;have i9:(C:Int)+1≤1000001:=by omega
   go_wp2_with fail
   go_roundw
   case rel=>exact⟨k+1,by omega,by rw[show y+(k+1)=C+1 by omega];exact HE,ad bk.o.set⟩
   case measure=>(show a.length-j4 _ u<a.length-j4 wr u;rw[HE.o.at_,cs.out];omega)
  ·obtain rfl:k=n:=by omega
   go_upto_region 2 with fail
   go_cut [45] (fun t wx=>t=.bool false∧Hid (Below wr.heap.size wr wx))
   case first=>
    by_cases ac:C<a.length
    ·have m1:(C:Int)<(a.length:Int):=by omega
     obtain⟨q,hq⟩:∃q,mo a[C]=q:=⟨_,rfl⟩;have HS:=ad (show∀d:aaK,Calls Tryz.prog 154 #[.int .u8 (((⟨a.toArray⟩:aaM)[C]'(by simpa[ByteArray.size] using ac)).toNat:Int)] d fun e w'=>e=.returned (.bool q)∧w'=d from fun d=>by
      rw[show((⟨a.toArray⟩:aaM)[C]'(by simpa[ByteArray.size] using ac))=a[C] from rfl,←hq]
      exact(pY a[C] d).m fun e w' ⟨Z,h2⟩=>⟨Z,h2.symm⟩)
     rcases q with _|_
     ·clear hq
      go_quiet ((go_at_call 154;with_reducible exact mG (HS.o _)))
      go_wp2_with fail
      go_meet
      exact⟨rfl,ad (ax _ _)⟩
     ·have m2:¬(C:Int)-(y:Int)<16:=by
       by_cases et:k<16
       ·exfalso;have:=ca.o a[C] (by rw[qD,←eb et,hm];exact cA ac);rw[hq] at this;cases this
       ·omega
      clear hq
      go_quiet ((go_at_call 154;with_reducible exact mG (HS.o _)))
      go_wp2_with fail
      go_meet
      exact⟨rfl,ad (ax _ _)⟩
    ·have m1:decide ((C:Int)<(a.length:Int))=false:=cL (by omega)
     go_quiet (fail)
     go_wp2_with fail
     go_meet
     exact⟨rfl,ad (ax _ _)⟩
   case rest=>
   obtain⟨rfl,bd⟩:=hcut;go_upto_region 4 with fail;have K:=ad (HB.o.next bd.o);have bk:=ad (HT.o.t (ak.ai bd.o));have dp:=ad (bP HT.o.size bd.o.size);rw[hm] at HR;clear Y D O HB HT bd cs b8 ca;obtain⟨Y,D,-,-,O,-,-⟩:=K.o.lc;have hx:((⟨a.toArray⟩:aaM).extract y C)=⟨nm.toArray⟩:=by apply uG;apply Array.ext';rw[cf,←b9.o];simp[show C-y=k by omega]
   have i8:(y:Int)≤(C:Int):=by omega
   have i7:(C:Int)≤(a.length:Int):=by omega
   have i6:(0:Int)≤(y:Int):=by omega
   have ac:C≤a.length:=by omega
   clear hm hk eu ev ez eb HN hn;have en:∀aa,(wc.alloc aa).cell? ⟨u,0,none⟩=some (.string ⟨a.toArray⟩):=fun aa=>(K.o.next ((ar _ _).alloc (ag _) aa)).lc.c0;have er:∀aa,(wc.alloc aa).cell? ⟨u,1,none⟩=some (.int .i64 (C:Int)):=fun aa=>(K.o.next ((ar _ _).alloc (ag _) aa)).lc.c1;go_region;have hA2:Below wc.heap.size wc (wc.alloc (.cells #[.string ⟨nm.toArray⟩,.string ⟨#[]⟩,.int .i64 (y:Int)] 159)).drew:=((ar _ _).alloc (ag _) _).drew;have c8:=ad (K.o.next hA2);have aN:=ad (bk.o.t (ak.ai hA2));have ap:=ad (show(wc.alloc (.cells #[.string ⟨nm.toArray⟩,.string ⟨#[]⟩,.int .i64 (y:Int)] 159)).drew.heap[wc.heap.size]? =some (.cells #[.string ⟨nm.toArray⟩,.string ⟨#[]⟩,.int .i64 (y:Int)] 159) from au wc _);have d5:=ad (d4.o.cO aN.o.size (A':=fun b=>b≠u) fun b Z h2=>⟨Z,aN.o.block b h2 (by intro e;cases e;exact Z rfl)⟩);have ec:=(aB.1 cb.o).1;have ce:=ad ((aN.o.block d.heap.size ec (by intro e;cases e;omega)).t cb.o);have I:=ad (show u<wc.heap.size∧d.heap.size<wc.heap.size∧d.heap.size≠u by have:=dp.o;have:=K.o.lt;omega);have L:=ad (dq.o.t aN.o);clear hA2 Y D O en er K bk dp aN d4 cb cn dq ec hx;generalize(wc.alloc (.cells #[.string ⟨nm.toArray⟩,.string ⟨#[]⟩,.int .i64 (y:Int)] 159)).drew=W2 at*;generalize wc.heap.size=F at*;have e4:∀(fn:Fn) (first cap:Array aaL) (w:aaK),(Instr.makeFunc fn first cap).run Tryz.prog w=.ok (.func fn first cap) w:=fun _ _ _ _=>rfl;have be:=ad (lL 155 #[.pointer (some ⟨F,0,none⟩)] (fun b=>nm==b.name) l hl sa sc W2 (fun vs w=>cP Tryz.func155 (by kernel_rfl) rfl vs w)
    (fun b _ W3 h3=>KN nm b F W3 (tH _ _ 0 _ _ _ ((h3.block _ (aB.1 ap.o).1).t ap.o))) _ d5.o)
   obtain⟨co,J⟩:∃co,(l.any fun b=>nm==b.name)=co:=⟨_,rfl⟩;rw[J] at be;have T:=ad J;obtain⟨N,hN⟩:∃N,l.length=N:=⟨_,rfl⟩;rw[hN] at be⊢;clear J hN d5;go_wp2_with fail;refine be.o.m ?_;rintro e w6⟨rfl,a0⟩;have a8:=ad (c8.o.next a0);have M:=ad (L.o.t (ak.ai a0));have bJ:=ad ((a0.block _ (aB.1 ap.o).1).t ap.o);have ch:=ad ((a0.block _ (aB.1 ce.o).1).t ce.o);clear a0 c8 L ap ce be;have L:=M;clear M;have E:u≤d.heap.size:=om hp;have X:=ad HR.o;clear HR;rcases co with _|_
   ·cases J:a.drop C with
    |nil=>
     obtain rfl:=X.o.Wz T.o J;have c2:C=a.length:=by have:=List.drop_eq_nil_iff.1 J;omega
     clear J;go_wp2_with fail;refine(iY tag c2 a8.o S).m ?_;rintro e wz⟨rfl,G⟩;go_wp2_with fail;exact⟨rfl,rfl,(L.o.below (ag _) E).t (G.m (bP E L.o.size))⟩
    |cons c r=>
     have H:=ad J;have e5:=ku J;go_wp2_with fail;refine(cX tag H.o a8.o S).m ?_;rintro e w7⟨rfl,a2⟩;have a9:=ad (a8.o.next a2);have M:=ad (L.o.t (ak.ai a2));have am:=ad ((a2.block _ (aB.1 bJ.o).1).t bJ.o);have ci:=ad ((a2.block _ (aB.1 ch.o).1).t ch.o);clear a2 a8 L bJ ch;clear J;rcases dT (c=61) with rfl|Q
     ·rcases dT (nm=[]) with rfl|c3
      ·obtain rfl:=X.o.eq T.o _ _ H.o rfl;have n0:=aj am.o 0;go_wp2_with fail;refine(lP tag H.o a9.o S).m ?_;rintro e wz⟨rfl,G⟩;go_wp2_with fail;exact⟨rfl,rfl,(M.o.below (ag _) E).t (G.m (bP E M.o.size))⟩
      ·have n0:=tH _ _ 0 _ _ _ am.o;have hq:nm.isEmpty=false:=by cases nm with|nil=>exact(c3 rfl).elim|cons=>rfl
       have bg:=ad c3;clear c3;go_wp2_with fail;refine(jQ tag H.o a9.o S).m ?_;rintro e w8⟨rfl,d8,bp⟩;clear n0 hq;have bb:=ad d8;have bl:=ad (M.o.t bp);have b3:=ad ((bp.block _ (aB.1 am.o).1 (by intro e;cases e;have:=I.o;omega)).t am.o);have ck:=ad ((bp.block _ (aB.1 ci.o).1 (by intro e;cases e;exact absurd rfl I.o.2.2)).t ci.o);clear d8 bp a9 M am ci;cases hr:r with
       |nil=>
        subst hr;obtain rfl:=X.o.WA T.o bg.o H.o;have c2:C+1=a.length:=by have:=drop_cons H.o;simpa using this
        go_wp2_with fail;refine(iY tag c2 bb.o S).m ?_;rintro e wz⟨rfl,G⟩;go_wp2_with fail;exact⟨rfl,rfl,(bl.o.below (ag _) E).t (G.m (bP E bl.o.size))⟩
       |cons mk q=>
        subst hr;have cx:a.drop (C+1)=mk::q:=tK H.o;have av:=ad cx;have e6:=ku cx;clear cx;go_wp2_with fail;refine(cX tag av.o bb.o S).m ?_;rintro e w9⟨rfl,a3⟩;have b7:=ad (bb.o.next a3);have bm:=ad (bl.o.t (ak.ai a3));have b4:=ad ((a3.block _ (aB.1 b3.o).1).t b3.o);have cl:=ad ((a3.block _ (aB.1 ck.o).1).t ck.o);clear a3 bb bl b3 ck;obtain⟨e2,ab⟩:∃b,(mk==34||mk==39)=b:=⟨_,rfl⟩;have bf:=ad ab;rcases e2 with _|_
        ·have q1:((mk.toNat:Int)==34)=false:=by rw[uF] at ab;exact nz ab.1
         have q2:((mk.toNat:Int)==39)=false:=by rw[uF] at ab;exact nz ab.2
         clear ab;obtain rfl:=X.o.mark T.o bg.o _ _ H.o bf.o;go_wp2_with fail;refine(lP tag av.o b7.o S).m ?_;rintro e wz⟨rfl,G⟩;go_wp2_with fail;exact⟨rfl,rfl,(bm.o.below (ag _) E).t (G.m (bP E bm.o.size))⟩
        ·clear ab;go_upto_region 9 with fail;have e0:(((mk.toNat:Int)==34)=true)∨(((mk.toNat:Int)==34)=false∧((mk.toNat:Int)==39)=true):=by
          rcases Gs bf.o with z|z<;>rw[z]
          ·exact Or.inl rfl
          ·exact Or.inr ⟨rfl,rfl⟩
         rcases e0 with q1|⟨q1,q2⟩;all_goals
          go_wp2_with fail;refine(jQ tag av.o b7.o S).m ?_;rintro e ao⟨rfl,d7,bo⟩;have b5:=ad d7;have bi:=ad (bm.o.t bo);have bv:=ad ((bo.block _ (aB.1 b4.o).1 (by intro e;cases e;have:=I.o;omega)).t b4.o);have cc:=ad ((bo.block _ (aB.1 cl.o).1 (by intro e;cases e;exact absurd rfl I.o.2.2)).t cl.o);clear d7 bo b7 bm b4 cl;have cK:a.drop (C+1+1)=q:=tK av.o;have e7:C+1+1+q.length=a.length:=by have:=drop_cons av.o;omega
          have e1:((⟨a.toArray⟩:aaM).extract (C+1+1) a.length)=⟨q.toArray⟩:=by have:=ic a (C+1+1) a.length (ag _);rw[cK] at this;exact this
          have hC:=(show∀d:aaK,Calls Tryz.prog 30 #[.string ⟨q.toArray⟩,.int .u8 (mk.toNat:Int)] d fun e w'=>e=.returned (.int .i64 (if q.contains mk then(lead (·!=mk) q:Int) else-1))∧w'=d from fun d=>(eO ⟨q.toArray⟩ mk d).m fun e w' ⟨Z,h2⟩=>⟨Z,h2.symm⟩);obtain⟨hit,an⟩:∃b,q.contains mk=b:=⟨_,rfl⟩;rw[an] at hC;obtain⟨Y,D,-,-,O,-,-⟩:=b5.o.lc;have j0:(0:Int)≤(C:Int)+1+1:=by omega
          have j1:(C:Int)+1+1≤(a.length:Int):=by omega
          have ct:ao.cell? ⟨u,1,none⟩=some (.int .i64 ((C:Int)+1+1)):=by rw[D];rfl
          clear D;rcases hit with _|_
          ·have HC:=ad (show∀d:aaK,Calls Tryz.prog 30 #[.string ⟨q.toArray⟩,.int .u8 (mk.toNat:Int)] d fun e w'=>e=.returned (.int .i64 (-1))∧w'=d from hC);obtain rfl:=X.o.open_ T.o bg.o _ _ H.o bf.o an;clear hC an;go_upto_region 10 with fail
           go_quiet ((go_at_call 30;with_reducible exact mG (HC.o _)))
           go_wp2_with fail;refine(fE tag 14 _).m ?_;rintro e wz⟨rfl,G⟩;go_wp2_with fail;exact⟨rfl,rfl,(bi.o.below (ag _) E).t ((ar _ _).t (show Below u _ _ from((show Below ao.heap.size ao (ao.drewN nq) from ax _ _).t G).m (bP E bi.o.size)))⟩
          ·obtain⟨t,ht⟩:∃t,lead (·!=mk) q=t:=⟨_,rfl⟩;have e8:t<q.length:=by rw[←ht];exact kx mk q an
           have HC:=ad (show∀d:aaK,Calls Tryz.prog 30 #[.string ⟨q.toArray⟩,.int .u8 (mk.toNat:Int)] d fun e w'=>e=.returned (.int .i64 (t:Int))∧w'=d from ht▸hC);have hg:=X.o.aq T.o bg.o _ _ H.o bf.o an;have br:(upto mk q).length=t:=ht;rw[br] at hg;subst hg;have c5:((⟨a.toArray⟩:aaM).extract (C+1+1) (C+1+1+t))=⟨(upto mk q).toArray⟩:=vY a _ _ _ (by rw[show C+1+1+t-(C+1+1)=t by omega,cK,←ht];exact kF mk q);clear hC an ht cK;obtain⟨V,hV⟩:∃V,upto mk q=V:=⟨_,rfl⟩;rw[hV] at c5 br⊢;have em:=ad (And.intro hV br);clear hV br;go_upto_region 10 with fail
           go_quiet ((go_at_call 30;with_reducible exact mG (HC.o _)))
           have aU:=ax ao nq;have a7:=ad (b5.o.next aU);have ds:=ad (bi.o.t (ak.ai aU));have bx:=ad ((aU.block _ (aB.1 bv.o).1).t bv.o);have cd:=ad ((aU.block _ (aB.1 cc.o).1).t cc.o);clear aU b5 bi bv cc;clear Y ct O e1 HC;generalize ao.drewN nq=al at*;have k0:(0:Int)≤(t:Int):=by omega
           have k1:(C:Int)+1+1+(t:Int)≤(a.length:Int):=by omega
           have k2:(C:Int)+1+1≤(C:Int)+1+1+(t:Int):=by omega
           have k3:IntKind.i64.wrap ((C:Int)+1+1+(t:Int))=(C:Int)+1+1+(t:Int):=IntWalk.i64_in _ (by omega);go_upto_region 13 with fail;have d0:∀B:BW al,B.val.cell? ⟨u,0,none⟩=some (.string ⟨a.toArray⟩):=fun B=>(a7.o.next B.below).lc.c0;have d1:∀B:BW al,B.val.cell? ⟨u,1,none⟩=some (.int .i64 ((C:Int)+1+1)):=fun B=>(a7.o.next B.below).lc.c1
           haveI:Nonempty (BW al):=⟨⟨al,ar _ _⟩⟩
           refine aY 16 (fun B:BW al=>B.val) ⟨al.drew,ax al 1⟩ rfl (by kernel_rfl) (by rfl) (by rfl) (by kernel_rfl) (by kernel_rfl) (by kernel_rfl) ?_;simp only[ki,kL];repeat(quiet_step (fail))
           refine wpQuiet_nil ?_;rintro w'⟨B,rfl⟩;rw[ah (by rfl)];have c7:=ad (a7.o.next B.below);have d2:=ad (ds.o.t (ak.ai B.below));have a6:=ad ((B.below.block _ (aB.1 bx.o).1).t bx.o);have c9:=ad ((B.below.block _ (aB.1 cd.o).1).t cd.o);clear d0 d1 a7 ds bx cd;have a1:=aj a6.o 1;have af:=aF _ _ 1 _ _ a6.o;go_simp;generalize B.val=a5 at*;rw[show((C:Int)+1+1).toNat=C+1+1 by omega,show((C:Int)+1+1+(t:Int)).toNat=C+1+1+t by omega,c5];have b6:=ad (show LB (a5.setCell ⟨F,1,none⟩ (.string ⟨V.toArray⟩)) u a (C+1+1) A z from(dy a5 ⟨F,1,none⟩ _ u (by have:=I.o;show u≠F;omega)).t c7.o);have c6:=ad (show(a5.setCell ⟨F,1,none⟩ (.string ⟨V.toArray⟩)).heap[F]? =some (.cells #[.string ⟨nm.toArray⟩,.string ⟨V.toArray⟩,.int .i64 (y:Int)] 159) from aw (j:=1) a6.o);have dl:=ad ((dy a5 ⟨F,1,none⟩ (.string ⟨V.toArray⟩) d.heap.size (by have:=I.o;show d.heap.size≠F;omega)).t c9.o);have d3:=ad (jx d2.o (b:=F) (j:=1) (v:=.string ⟨V.toArray⟩) (by have:=I.o;omega));clear a1 af c7 a6 c9 d2 c5 k1 k2 k3;generalize a5.setCell ⟨F,1,none⟩ (.string ⟨V.toArray⟩)=bs at*;obtain⟨-,D,-,-,O,-,-⟩:=b6.o.lc;have ct:bs.cell? ⟨u,1,none⟩=some (.int .i64 ((C:Int)+1+1)):=by rw[D];rfl
           clear D;have HE:=ad (b6.o.iD (C+2+t+1));rw[show((C+2+t+1:Nat):Int)=(C:Int)+1+1+((t:Int)+1) by omega] at HE;have ek:=ad ((dy bs ⟨u,1,none⟩ (.int .i64 ((C:Int)+1+1+((t:Int)+1))) F (by have:=I.o;show F≠u;omega)).t c6.o);have ay:=ad ((dy bs ⟨u,1,none⟩ (.int .i64 ((C:Int)+1+1+((t:Int)+1))) d.heap.size I.o.2.2).t dl.o);have el:=ad (d3.o.set (j:=1) (v:=.int .i64 ((C:Int)+1+1+((t:Int)+1))));clear b6 c6 dl d3;go_upto_region 15 with fail;clear ct O;generalize bs.setCell ⟨u,1,none⟩ (.int .i64 ((C:Int)+1+1+((t:Int)+1)))=fa at*;obtain⟨b0,b1,b2⟩:=qX3 (aj ek.o) 0 1 2;obtain⟨r0,r1,r2⟩:=qX3 (aj ay.o) 0 1 2;have g0:=aF _ _ 0 _ _ ay.o;have g1:=aF _ _ 1 _ _ ay.o;have g2:=aF _ _ 2 _ _ ay.o;have HZ:=ad (Ao (v0:=.string ⟨nm.toArray⟩) (v1:=.string ⟨V.toArray⟩) (v2:=.int .i64 (y:Int)) HE.o ay.o el.o (by omega) I.o.2.2);go_wp2_with fail;clear b0 b1 b2 r0 r1 r2 g0 g1 g2;refine aD (v:=Tk ⟨nm,V,(y:Int)⟩) ?_ rfl ⟨by rw[em.o.1],HZ.o.2.1,HZ.o.2.2⟩;exact sw rfl rfl HZ.o.1
     ·have e9:((c.toNat:Int)==61)=false:=nz (aL.2 Q);have n0:=aj am.o 0;obtain rfl:=X.o.eq T.o _ _ H.o (by rw[aL.2 Q];rfl);clear Q;go_wp2_with fail;refine(lP tag H.o a9.o S).m ?_;rintro e wz⟨rfl,G⟩;go_wp2_with fail;exact⟨rfl,rfl,(M.o.below (ag _) E).t (G.m (bP E M.o.size))⟩
   ·obtain rfl:=X.o.dup T.o;go_wp2_with fail;refine(fE y 12 w6).m ?_;rintro e wz⟨rfl,G⟩;go_wp2_with fail;exact⟨rfl,rfl,(L.o.below (ag _) E).t (G.m (bP E L.o.size))⟩
