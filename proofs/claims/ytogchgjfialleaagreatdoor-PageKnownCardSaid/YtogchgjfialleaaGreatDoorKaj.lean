/- The lexer's and the parser's bounds: the places lie within the text, and what is wrong has a number. Plain. -/
import Derived.Test.YtogchgjfialleaaGreatDoorKai
import Derived.Test.YtogchgjfialleaaGreatDoorKae
import Derived.Lib.AppendIntMem
set_option linter.unusedVariables false
set_option maxRecDepth 100000
set_option maxHeartbeats 2000000
namespace Go.Proofs.YtogchgjfialleaaGreatDoor
open Go.RowKit
def js(s:Bs):Bool:=bh (fun _=>true) s
theorem Wb(a b:UInt8):(Lib.trimS [a,b] ly==[])=(dS a&&dS b):=by rw[mX,Mo];simp
theorem Kg(s:ByteArray)(w:World)(a:s.size≤1000000):Calls Tryz.prog 44 #[.string s,.string ⟨#[48,49,50,51,52,53,54,55,56,57,97,98,99,100,101,102,65,66,67,68,69,70]⟩] w (cN w (.string ⟨(Lib.trimS s.data.toList ly).toArray⟩)):=
 o9 s _ w (by omega) (by decide) (ascii_of_all (by decide))
theorem ze{s:ByteArray}{k:Nat}{a b c:UInt8}{r:Bs}(h:s.data.toList.drop k=a::b::c::r):k+3≤s.size∧(s.extract (k+1) (k+3)).data.toList=[b,c]∧(s.extract k (k+3)).data.toList=[a,b,c]∧s.data.toList.drop (k+3)=r:=by
 have d:=congrArg List.length h;rw[bK,bj] at d;simp at d;refine⟨by omega, ?_, ?_, ?_⟩
 ·rw[cf,←fh,h];simp
 ·rw[cf,h];simp
 ·rw[←fh,h];rfl
structure SX (f:FuncId) (caps:Array Value) (s:ByteArray) (I:Nat→World→Prop):Prop where
 next:∀k w w',I k w→Below w.heap.size w w'→I k w'
 byte:∀k c r w,s.data.toList.drop k=c::r→c≠37→I k w→Calls Tryz.prog f (#[.string ⟨#[c]⟩]++caps) w fun e w'=>e=.returned (.tuple #[])∧I (k+1) w'
 Xf:∀k a b r w,s.data.toList.drop k=37::a::b::r→(dS a&&dS b)=true→I k w→Calls Tryz.prog f (#[.string ⟨#[37,a,b]⟩]++caps) w fun e w'=>e=.returned (.tuple #[])∧I (k+3) w'
def jK(s:ByteArray)(I:Nat→World→Prop)(e:Ending)(w':World):Prop:=(js s.data.toList=true∧e=.returned (.bool true)∧I s.size w')∨(js s.data.toList=false∧e=.returned (.bool false)∧∃k,I k w')
theorem wF(l:Bs):(⟨l.toArray⟩:ByteArray).size=l.length:=rfl
def uC:Value→Nat
 |.string b=>b.size
 |_=>0
theorem drop_nil{s:ByteArray}{k:Nat}(a:k≤s.size)(h:s.data.toList.drop k=[]):k=s.size:=by have:=congrArg List.length h;rw[bK,bj] at this;simp at this;omega
end Go.Proofs.YtogchgjfialleaaGreatDoor
namespace Go.Proofs.YtogchgjfialleaaGreatDoor
open Go.RowKit
theorem CG(J K:Value)(s:ByteArray)(I:Nat→World→Prop)(N:SX 91 #[J,K] s I)(w:World)(L:I 0 w)(hs:s.size≤1000000):
 Calls Tryz.prog 90 #[.string s,.func (.func 91) #[] #[J,K]] w (jK s I):=by
 have C:=Lib.hid N;have S:=Lib.hid L;clear N L;go_enter Tryz.func90,Tryz.ntmps90;go_wp2_with fail
 go_loopw [0,5] (fun t n wr=>∃k:Nat,k≤s.size∧t=.string ⟨(s.data.toList.drop k).toArray⟩∧Hid (js (s.data.toList.drop k)=js s.data.toList)∧Hid (I k wr)) (fun t _ _=>uC t)
 case atStart=>exact⟨0,aH _,by rw[List.drop_zero],Lib.hid rfl,S⟩
 case round=>
  obtain⟨k,Y,rfl,m,u⟩:=hrel;rcases d:s.data.toList.drop k with _|⟨c,r⟩
  ·have Q:=drop_nil Y d;have l:=Lib.hid (show jK s I (.returned (.bool true)) wr from .inl ⟨by rw[←m.out,d];rfl,rfl,by rw[←Q];exact u.out⟩);clear d Q;go_wp2_with fail;go_ret;exact l.out
  ·have H:=Lib.hid d;have hx:∀h,((⟨(c::r).toArray⟩:ByteArray)[0]'h)=c:=fun _=>rfl
   by_cases B:c=37
   ·subst B;have an:((37:UInt8).toNat:Int)=37:=rfl;rcases z:r with _|⟨a,_|⟨b,i⟩⟩
    ·have l:=Lib.hid (show jK s I (.returned (.bool false)) wr from .inr ⟨by rw[←m.out,d,z];rfl,rfl,k,u.out⟩);subst z;clear d;go_wp2_with fail;go_ret;exact l.out
    ·have l:=Lib.hid (show jK s I (.returned (.bool false)) wr from .inr ⟨by rw[←m.out,d,z];rfl,rfl,k,u.out⟩);subst z;clear d;go_wp2_with fail;go_ret;exact l.out
    ·subst z;obtain⟨T,V,W,M⟩:=ze d;have ac:¬((i.length:Int)+1+1+1<3):=by omega
     have af:(3:Int)≤(i.length:Int)+1+1+1:=by omega
     have A:=Lib.hid (show js (s.data.toList.drop k)=(dS a&&dS b&&js i) by rw[d];exact iR);have o:=Lib.hid M;have ai:(⟨(37::a::b::i).toArray⟩:ByteArray).extract 1 3=⟨[a,b].toArray⟩:=dU (by rw[cf];rfl);have X:(⟨(37::a::b::i).toArray⟩:ByteArray).extract 0 3=⟨#[37,a,b]⟩:=dU (by rw[cf];rfl);have aa:(⟨(37::a::b::i).toArray⟩:ByteArray).extract 3 (i.length+1+1+1)=⟨i.toArray⟩:=dU (by rw[cf];simp);clear d V W M;go_wp2_with fail;refine(Kg ⟨[a,b].toArray⟩ wr (by show 2≤_;omega)).mono ?_;rintro e R⟨rfl,E⟩;have F:=Lib.hid (C.out.next k _ _ u.out E);have j:=Wb a b;rcases x:(dS a&&dS b) with _|_
     ·rw[x] at j;have al:((⟨(Lib.trimS (⟨[a,b].toArray⟩:ByteArray).data.toList ly).toArray⟩:ByteArray).toList==[])=false:=by rw[Lib.toList_data];exact j
      have l:=Lib.hid (show jK s I (.returned (.bool false)) R from .inr ⟨by rw[←m.out,A.out,x];rfl,rfl,k,F.out⟩);have am:(Lib.trimS (⟨[a,b].toArray⟩:ByteArray).data.toList ly).isEmpty=false:=by
       cases hq:Lib.trimS [a,b] ly with
       |nil=>rw[hq] at j;cases j
       |cons p q=>rfl
      clear E j;go_wp2_with fail;go_ret;exact l.out
     ·rw[x] at j;have O:Lib.trimS (⟨[a,b].toArray⟩:ByteArray).data.toList ly=[]:=eq_of_beq j;rw[O];have G:=Lib.hid x;clear E j O x;go_wp2_with fail;refine(C.out.Xf k a b i R H.out G.out F.out).mono ?_;rintro e w2⟨rfl,y⟩;have D:=Lib.hid y;clear y;go_wp2_with fail
      go_roundw
      case rel=>exact⟨k+3,T,by rw[o.out],Lib.hid (by rw[o.out,←m.out,A.out,G.out];rfl),D⟩
      case measure=>(simp[uC,wF]<;>omega)
   ·have ab:((c.toNat:Int)==37)=false:=by rw[aL];exact fun e=>B (by rw[Ei];show c.toNat=37;omega)
    have Z:k+1≤s.size:=by have:=congrArg List.length d;rw[bK,bj] at this;simp at this;omega
    have o:=Lib.hid (show s.data.toList.drop (k+1)=r by rw[←fh,d];rfl);have A:=Lib.hid (show js (s.data.toList.drop k)=js r by rw[d];exact eh B);have X:(⟨(c::r).toArray⟩:ByteArray).extract 0 1=⟨#[c]⟩:=dU (by rw[cf];rfl);have aa:(⟨(c::r).toArray⟩:ByteArray).extract 1 (r.length+1)=⟨r.toArray⟩:=dU (by rw[cf];simp);clear d;go_wp2_with fail;refine(C.out.byte k c r wr H.out B u.out).mono ?_;rintro e w2⟨rfl,y⟩;have D:=Lib.hid y;clear y;go_wp2_with fail
    go_roundw
    case rel=>exact⟨k+1,Z,by rw[o.out],Lib.hid (by rw[o.out,←m.out,A.out]),D⟩
    case measure=>(simp[uC,wF]<;>omega)
end Go.Proofs.YtogchgjfialleaaGreatDoor
namespace Go.Proofs.YtogchgjfialleaaGreatDoor
open Go.RowKit
theorem CK(J:Value)(s:ByteArray)(I:Nat→World→Prop)(M:SX 153 #[J] s I)(w:World)(K:I 0 w)(hs:s.size≤1000000):
 Calls Tryz.prog 90 #[.string s,.func (.func 153) #[] #[J]] w (jK s I):=by
 have C:=Lib.hid M;have R:=Lib.hid K;clear M K;go_enter Tryz.func90,Tryz.ntmps90;go_wp2_with fail
 go_loopw [0,5] (fun t n wr=>∃k:Nat,k≤s.size∧t=.string ⟨(s.data.toList.drop k).toArray⟩∧Hid (js (s.data.toList.drop k)=js s.data.toList)∧Hid (I k wr)) (fun t _ _=>uC t)
 case atStart=>exact⟨0,aH _,by rw[List.drop_zero],Lib.hid rfl,R⟩
 case round=>
  obtain⟨k,X,rfl,m,u⟩:=hrel;rcases d:s.data.toList.drop k with _|⟨c,r⟩
  ·have O:=drop_nil X d;have l:=Lib.hid (show jK s I (.returned (.bool true)) wr from .inl ⟨by rw[←m.out,d];rfl,rfl,by rw[←O];exact u.out⟩);clear d O;go_wp2_with fail;go_ret;exact l.out
  ·have H:=Lib.hid d;have hx:∀h,((⟨(c::r).toArray⟩:ByteArray)[0]'h)=c:=fun _=>rfl
   by_cases B:c=37
   ·subst B;have am:((37:UInt8).toNat:Int)=37:=rfl;rcases z:r with _|⟨a,_|⟨b,i⟩⟩
    ·have l:=Lib.hid (show jK s I (.returned (.bool false)) wr from .inr ⟨by rw[←m.out,d,z];rfl,rfl,k,u.out⟩);subst z;clear d;go_wp2_with fail;go_ret;exact l.out
    ·have l:=Lib.hid (show jK s I (.returned (.bool false)) wr from .inr ⟨by rw[←m.out,d,z];rfl,rfl,k,u.out⟩);subst z;clear d;go_wp2_with fail;go_ret;exact l.out
    ·subst z;obtain⟨S,T,V,L⟩:=ze d;have ab:¬((i.length:Int)+1+1+1<3):=by omega
     have ac:(3:Int)≤(i.length:Int)+1+1+1:=by omega
     have A:=Lib.hid (show js (s.data.toList.drop k)=(dS a&&dS b&&js i) by rw[d];exact iR);have o:=Lib.hid L;have af:(⟨(37::a::b::i).toArray⟩:ByteArray).extract 1 3=⟨[a,b].toArray⟩:=dU (by rw[cf];rfl);have W:(⟨(37::a::b::i).toArray⟩:ByteArray).extract 0 3=⟨#[37,a,b]⟩:=dU (by rw[cf];rfl);have Z:(⟨(37::a::b::i).toArray⟩:ByteArray).extract 3 (i.length+1+1+1)=⟨i.toArray⟩:=dU (by rw[cf];simp);clear d T V L;go_wp2_with fail;refine(Kg ⟨[a,b].toArray⟩ wr (by show 2≤_;omega)).mono ?_;rintro e Q⟨rfl,E⟩;have F:=Lib.hid (C.out.next k _ _ u.out E);have j:=Wb a b;rcases x:(dS a&&dS b) with _|_
     ·rw[x] at j;have ai:((⟨(Lib.trimS (⟨[a,b].toArray⟩:ByteArray).data.toList ly).toArray⟩:ByteArray).toList==[])=false:=by rw[Lib.toList_data];exact j
      have l:=Lib.hid (show jK s I (.returned (.bool false)) Q from .inr ⟨by rw[←m.out,A.out,x];rfl,rfl,k,F.out⟩);have al:(Lib.trimS (⟨[a,b].toArray⟩:ByteArray).data.toList ly).isEmpty=false:=by
       cases hq:Lib.trimS [a,b] ly with
       |nil=>rw[hq] at j;cases j
       |cons p q=>rfl
      clear E j;go_wp2_with fail;go_ret;exact l.out
     ·rw[x] at j;have N:Lib.trimS (⟨[a,b].toArray⟩:ByteArray).data.toList ly=[]:=eq_of_beq j;rw[N];have G:=Lib.hid x;clear E j N x;go_wp2_with fail;refine(C.out.Xf k a b i Q H.out G.out F.out).mono ?_;rintro e w2⟨rfl,y⟩;have D:=Lib.hid y;clear y;go_wp2_with fail
      go_roundw
      case rel=>exact⟨k+3,S,by rw[o.out],Lib.hid (by rw[o.out,←m.out,A.out,G.out];rfl),D⟩
      case measure=>(simp[uC,wF]<;>omega)
   ·have aa:((c.toNat:Int)==37)=false:=by rw[aL];exact fun e=>B (by rw[Ei];show c.toNat=37;omega)
    have Y:k+1≤s.size:=by have:=congrArg List.length d;rw[bK,bj] at this;simp at this;omega
    have o:=Lib.hid (show s.data.toList.drop (k+1)=r by rw[←fh,d];rfl);have A:=Lib.hid (show js (s.data.toList.drop k)=js r by rw[d];exact eh B);have W:(⟨(c::r).toArray⟩:ByteArray).extract 0 1=⟨#[c]⟩:=dU (by rw[cf];rfl);have Z:(⟨(c::r).toArray⟩:ByteArray).extract 1 (r.length+1)=⟨r.toArray⟩:=dU (by rw[cf];simp);clear d;go_wp2_with fail;refine(C.out.byte k c r wr H.out B u.out).mono ?_;rintro e w2⟨rfl,y⟩;have D:=Lib.hid y;clear y;go_wp2_with fail
    go_roundw
    case rel=>exact⟨k+1,Y,by rw[o.out],Lib.hid (by rw[o.out,←m.out,A.out]),D⟩
    case measure=>(simp[uC,wF]<;>omega)
end Go.Proofs.YtogchgjfialleaaGreatDoor
namespace Go.Proofs.YtogchgjfialleaaGreatDoor
open Go.RowKit
theorem TG:Tryz.prog.globalNamed "internal/strconv.uint64pow10" =some 4:=by kernel_rfl
theorem TF:Tryz.prog.globalNamed "strconv.ErrSyntax" =some 6:=by kernel_rfl
theorem TE:Tryz.prog.globalNamed "strconv.ErrRange" =some 7:=by kernel_rfl
structure GX (w:World):Prop where
 aq:Good w
 Tz:Lib.TabIs Tryz.prog w "internal/strconv.uint64pow10" .u64 Lib.pow10Tab
 Xd:∃tp p,w.var? Tryz.prog "strconv.ErrSyntax" =some #[.iface tp p]
 Xe:∃tp p,w.var? Tryz.prog "strconv.ErrRange" =some #[.iface tp p]
theorem sv{w w':World}{n:String}{g:Nat}{a:Array Value}(c:Tryz.prog.globalNamed n=some g)(h:w.var? Tryz.prog n=some a)(d:0<a.size)(e:Below w.heap.size w w'):w'.var? Tryz.prog n=some a:=by have b:=World.var?_cell c h 0;rw[MM d] at b;exact var?_below e c (aV b) h
theorem GX.next{w w':World}(h:GX w)(a:Below w.heap.size w w'):GX w':=by obtain⟨i,d,b⟩:=h.Xd;obtain⟨j,e,c⟩:=h.Xe;exact⟨h.aq.next a,sv TG h.Tz (by decide) a,⟨i,d,sv TF b Nat.zero_lt_one a⟩,⟨j,e,sv TE c Nat.zero_lt_one a⟩⟩
theorem QB(n:Nat)(w:World)(a:GX w)(b:n<1000000):
 Calls Tryz.prog 48 #[.int .i64 (n:Int)] w (cN w (.string ⟨(rQ n).toArray⟩)):=by
 refine(Tryz.strconv_Itoa n (by omega) (by omega) w a.Tz).mono ?_;rintro e w'⟨rfl,k,os,rfl⟩;refine⟨by rw[uz n b], ?_⟩;exact Lib.below_grow _ w (ag _) k os
theorem QC(w:World)(b:UInt8)(v:Int)(d:v=(b.toNat:Int)):(convert 63 9 (.slice (some ⟨w.heap.size,0,none⟩) 1 1)).run Tryz.prog (w.alloc (.cells #[.int .u8 v] 5))=.ok (.string ⟨[b].toArray⟩) (w.alloc (.cells #[.int .u8 v] 5)):=by
 subst d;have:=run_convert_bytes_back (P:=Tryz.prog) (w.alloc (.cells #[.int .u8 (b.toNat:Int)] 5)) 63 9 5 ⟨w.heap.size,0,none⟩ 1 [b] u63 u5 u9 (fun j a=>by
  have c:j=0:=by simpa using a
  subst c;have:((⟨w.heap.size,0,none⟩:Addr).add 0)=⟨w.heap.size,0,none⟩:=rfl;rw[this];exact bH w _ _ 0 _ rfl)
 exact this
end Go.Proofs.YtogchgjfialleaaGreatDoor
namespace Go.Proofs.YtogchgjfialleaaGreatDoor
open Go.RowKit
abbrev uV(u:U):Value:=.agg #[.string ⟨u.scheme.toArray⟩,.string ⟨u.host.toArray⟩,.int .i64 u.port,.string ⟨u.path.toArray⟩,.string ⟨u.query.toArray⟩,.bool u.hq]
def ma(W:World)(b:Nat)(u:U):Prop:=W.heap[b]? =some (.cells #[.string ⟨u.scheme.toArray⟩,.string ⟨u.host.toArray⟩,.int .i64 u.port,.string ⟨u.path.toArray⟩,.string ⟨u.query.toArray⟩,.bool u.hq] 34)
theorem ma.lt{W:World}{b:Nat}{u:U}(h:ma W b u):b<W.heap.size:=(aB.1 h).1
theorem ma.next{W W':World}{b:Nat}{u:U}(h:ma W b u)(a:Below W.heap.size W W'):ma W' b u:=(a.block _ h.lt).trans h
structure Qm (W:World) (b:Nat) (u:U):Prop where
 c0:W.cell? ⟨b,0,none⟩=some (.string ⟨u.scheme.toArray⟩)
 c1:W.cell? ⟨b,1,none⟩=some (.string ⟨u.host.toArray⟩)
 c2:W.cell? ⟨b,2,none⟩=some (.int .i64 u.port)
 c3:W.cell? ⟨b,3,none⟩=some (.string ⟨u.path.toArray⟩)
 c4:W.cell? ⟨b,4,none⟩=some (.string ⟨u.query.toArray⟩)
 c5:W.cell? ⟨b,5,none⟩=some (.bool u.hq)
theorem ma.cells{W:World}{b:Nat}{u:U}(h:ma W b u):Qm W b u:=
 ⟨cell_of_row _ _ 0 _ _ _ h,cell_of_row _ _ 1 _ _ _ h,cell_of_row _ _ 2 _ _ _ h,cell_of_row _ _ 3 _ _ _ h,cell_of_row _ _ 4 _ _ _ h,cell_of_row _ _ 5 _ _ _ h⟩
theorem sP(w:World)(u:U):ma (w.alloc (.cells #[.string ⟨u.scheme.toArray⟩,.string ⟨u.host.toArray⟩,.int .i64 u.port,.string ⟨u.path.toArray⟩,.string ⟨u.query.toArray⟩,.bool u.hq] 34)) w.heap.size u:=heap_alloc_new w _
structure xv (u:U):Prop where
 scheme:u.scheme.length≤10000
 host:u.host.length≤10000
 path:u.path.length≤10000
 query:u.query.length≤10000
theorem Ho(a b:Bs):(⟨a.toArray⟩:ByteArray)++⟨b.toArray⟩=⟨(a++b).toArray⟩:=by apply uG;simp
theorem yf(u:U):gU u=u.scheme++[58,47,47]++u.host++(bif u.port==0 then[] else[58]++rQ u.port.toNat)++u.path++(bif u.hq then[63]++u.query else[]):=rfl
theorem CJ(u:U)(w:World)(m:GX w)(E:xv u)(F:0≤u.port∧u.port≤65535):
 Calls Tryz.prog 24 #[uV u] w (cN w (.string ⟨(gU u).toArray⟩)):=by
 obtain⟨h,c,a,pa,d,hq⟩:=u;obtain⟨G,H,I,J⟩:=E;obtain⟨K,L⟩:=F;simp only at G H I J K L;have k:=Lib.hid (yf ⟨h,c,a,pa,d,hq⟩);have q:=Lib.hid (sP w ⟨h,c,a,pa,d,hq⟩);have b:=Lib.hid ((Below.refl w.heap.size w).alloc (ag _) (.cells #[.string ⟨h.toArray⟩,.string ⟨c.toArray⟩,.int .i64 a,.string ⟨pa.toArray⟩,.string ⟨d.toArray⟩,.bool hq] 34));have s:=Lib.hid m;clear m;by_cases j:a=0
 ·subst j;go_enter Tryz.func24,Tryz.ntmps24;cases hq;all_goals
   go_wp2_with fail;go_ret;exact⟨jF (by rw[k.out];simp),b.out⟩
 ·obtain⟨n,rfl⟩:∃n:Nat,a=n:=⟨a.toNat,by omega⟩;have o:((n:Int)==0)=false:=by rw[aL];exact j
  have M:((n:Int)!=0)=true:=by rw[bne_iff_ne];exact j
  have p:=zh 6 5 n (by omega) (by omega);have r:=Lib.hid o;clear o;go_enter Tryz.func24,Tryz.ntmps24;go_wp2_with fail;generalize w.alloc (.cells #[.string ⟨h.toArray⟩,.string ⟨c.toArray⟩,.int .i64 (n:Int),.string ⟨pa.toArray⟩,.string ⟨d.toArray⟩,.bool hq] 34)=W at*;refine(QB n W (s.out.next b.out) (by omega)).mono ?_;rintro e O⟨rfl,i⟩;obtain⟨y,z,A,B,C,D⟩:=(q.out.next i).cells;have x:=Lib.hid (b.out.trans (i.mono b.out.size));clear i;simp only at y z A B C D;have N:(rQ n).length≤5:=p;generalize l:rQ n=nb at*;have t:=Lib.hid l;clear l p;cases hq;all_goals
   go_wp2_with fail;go_ret;exact⟨jF (by rw[k.out,r.out,Int.toNat_natCast,t.out];simp),x.out⟩
end Go.Proofs.YtogchgjfialleaaGreatDoor
namespace Go.Proofs.YtogchgjfialleaaGreatDoor
open Go.RowKit
def iz(w:World)(b:Nat)(v:Value)(t:TypeId):Prop:=w.heap[b]? =some (.cells #[v] t)
theorem iz.lt{w:World}{b:Nat}{v:Value}{t:TypeId}(h:iz w b v t):b<w.heap.size:=(aB.1 h).1
theorem iz.next{w w':World}{b:Nat}{v:Value}{t:TypeId}(h:iz w b v t)(a:Below w.heap.size w w'):iz w' b v t:=(a.block _ h.lt).trans h
theorem iz.cell{w:World}{b:Nat}{v:Value}{t:TypeId}(h:iz w b v t):w.cell? ⟨b,0,none⟩=some v:=cell_of_row _ _ 0 _ _ _ h
theorem iz.free{w:World}{b:Nat}{v:Value}{t:TypeId}(h:iz w b v t):w.frozen? ⟨b,0,none⟩=false:=frozen_of_row _ _ 0 _ _ h
theorem iz.set{w:World}{b:Nat}{v u:Value}{t:TypeId}(h:iz w b v t):iz (w.setCell ⟨b,0,none⟩ u) b u t:=by have:=aw (j:=0) (v:=u) h;simpa[iz] using this
theorem iz.other{w:World}{b c:Nat}{v u:Value}{t:TypeId}(h:iz w b v t)(a:b≠c):iz (w.setCell ⟨c,0,none⟩ u) b v t:=(Below.heap_setCell w ⟨c,0,none⟩ u b a).trans h
theorem Good.set{w:World}{b:Nat}{v u:Value}{t:TypeId}(h:Good w)(e:iz w b v t)(d:b≠0):Good (w.setCell ⟨b,0,none⟩ u):=by obtain⟨m,c⟩:=h;exact⟨m,(World.cell?_of_block (a:=⟨0,0,none⟩) (Below.heap_setCell w ⟨b,0,none⟩ u _ (eo d))).trans c⟩
structure MI (w0:World) (bg bo:Nat) (of s:ByteArray) (p:UInt8→Bool) (k:Nat) (w:World):Prop where
 aq:Good w
 of:iz w bo (.string of) 9
 at':∃g,iz w bg (.bool g) 4∧(g&&bh p (s.data.toList.drop k))=bh p s.data.toList
 JV:Below w0.heap.size w0 w
theorem MI.step{d w w':World}{a c:Nat}{of s:ByteArray}{p:UInt8→Bool}{k j:Nat}{g g':Bool}(x:MI d a c of s p k w)(b:Below w.heap.size w w')(h:d.heap.size≤a)(n:a≠c)(i:a≠0)(m:iz w a (.bool g) 4)
 (l:(g&&bh p (s.data.toList.drop k))=bh p s.data.toList)(o:(g&&bh p (s.data.toList.drop k))=(g'&&bh p (s.data.toList.drop j))):MI d a c of s p j (w'.setCell ⟨a,0,none⟩ (.bool g')):=by
 have e:=m.next b;exact⟨(x.aq.next b).set e i,(x.of.next b).other (eo n),⟨g',e.set,by rw[←o,l]⟩,(x.JV.trans (b.mono x.JV.size)).setCell (p:=⟨a,0,none⟩) h _⟩
theorem Mk(F:World)(h o:Nat)(of s:ByteArray)(p:UInt8→Bool)(B:∀c,of.data.toList.contains c=p c)(y:F.heap.size≤h)(A:h≠o)(z:h≠0)(L:of.size≤1000):
 SX 91 #[.pointer (some ⟨h,0,none⟩),.pointer (some ⟨o,0,none⟩)] s (MI F h o of s p):=by
 refine⟨?_, ?_, ?_⟩
 ·intro k w w' x t;obtain⟨g,d,i⟩:=x.at';exact⟨x.aq.next t,x.of.next t,⟨g,d.next t,i⟩,x.JV.trans (t.mono x.JV.size)⟩
 ·intro k c r w l K x;obtain⟨g,d,i⟩:=x.at';have q:s.data.toList.drop (k+1)=r:=by rw[←fh,l];rfl
  have m:bh p (s.data.toList.drop k)=(p c&&bh p (s.data.toList.drop (k+1))):=by rw[q,l];exact eh K
  have u:=Lib.hid x;have C:=Lib.hid d;have D:=Lib.hid i;have H:=d.cell;have J:=d.free;have I:=x.of.cell;clear d i x l q;show Calls Tryz.prog 91 #[.string ⟨#[c]⟩,.pointer (some ⟨h,0,none⟩),.pointer (some ⟨o,0,none⟩)] w _;cases g
  ·have n:=Lib.hid (u.out.step (Below.refl _ _) y A z C.out D.out (show(false&&bh p (s.data.toList.drop k))=(false&&bh p (s.data.toList.drop (k+1))) from rfl));clear m;go_enter Tryz.func91,Tryz.ntmps91;go_wp2_with fail
   go_end0
   exact⟨rfl,n.out⟩
  ·have n:=Lib.hid (u.out.step (g':=p c) (j:=k+1) (Below.refl _ _) y A z C.out D.out (by rw[m,Bool.true_and]));have G:=Lib.hid (B c);clear m B;go_enter Tryz.func91,Tryz.ntmps91;go_wp2_with fail;refine(nn of ⟨#[c]⟩ w u.out.aq (by omega)).mono ?_;rintro e M⟨rfl,rfl⟩;rw[show Lib.contains of.data.toList (⟨#[c]⟩:ByteArray).data.toList=p c from(De _ _).trans G.out];go_wp2_with fail
   go_end0
   exact⟨rfl,n.out⟩
 ·intro k a b r w l E x;obtain⟨g,d,i⟩:=x.at';have q:s.data.toList.drop (k+3)=r:=by rw[←fh,l];rfl
  have m:bh p (s.data.toList.drop k)=bh p (s.data.toList.drop (k+3)):=by rw[q,l];rw[iR,E];rfl
  have n:=Lib.hid (x.step (Below.refl _ _) y A z d i (show(g&&bh p (s.data.toList.drop k))=(g&&bh p (s.data.toList.drop (k+3))) by rw[m]));have H:=d.cell;have J:=d.free;have I:=x.of.cell;clear d i x l q m B E;show Calls Tryz.prog 91 #[.string ⟨#[37,a,b]⟩,.pointer (some ⟨h,0,none⟩),.pointer (some ⟨o,0,none⟩)] w _;cases g;all_goals
   go_enter Tryz.func91,Tryz.ntmps91;go_wp2_with fail
   go_end0
   exact⟨rfl,n.out⟩
theorem FE(s of:ByteArray)(p:UInt8→Bool)(t:∀c,of.data.toList.contains c=p c)(w:World)(m:Good w)(u:s.size≤1000000)(r:of.size≤1000):
 Calls Tryz.prog 46 #[.string s,.string of] w (cN w (.bool (bh p s.data.toList))):=by
 have b:=Lib.hid (jG w (.cells #[.string of] 9) (.cells #[.bool true] 4));have z:=m.lt;have o:=Lib.hid m;clear m;go_enter Tryz.func46,Tryz.ntmps46;go_wp2_with fail;generalize(w.alloc (.cells #[.string of] 9)).alloc (.cells #[.bool true] 4)=W at*;have l:MI w (w.heap.size+1) w.heap.size of s p 0 W:=⟨o.out.next b.out.below,b.out.b1,⟨true,b.out.b2,by rw[List.drop_zero,Bool.true_and]⟩,b.out.below⟩;refine(CG _ _ s _ (Mk w (w.heap.size+1) w.heap.size of s p t (by omega) (by omega) (by omega) r) W l u).mono ?_;rintro e A(⟨a,rfl,x⟩|⟨a,rfl,k,x⟩)
 ·obtain⟨g,n,j⟩:=x.at';have y:=n.cell;rw[←bj,List.drop_length] at j;have d:=Lib.hid (show g=bh p s.data.toList by rw[←j];cases g<;>rfl);have i:=Lib.hid x.JV;clear n j x a l;go_wp2_with fail;go_ret;exact⟨cq d.out,i.out⟩
 ·have d:=Lib.hid (show bh p s.data.toList=false by
   cases h:bh p s.data.toList
   ·rfl
   ·have:=rO (q:=fun _=>true) (fun _ _=>rfl) h;unfold js at a;rw[this] at a;cases a)
  have i:=Lib.hid x.JV;clear x a l;go_wp2_with fail;go_ret;exact⟨cq d.out.symm,i.out⟩
end Go.Proofs.YtogchgjfialleaaGreatDoor
namespace Go.Proofs.YtogchgjfialleaaGreatDoor
open Go.RowKit
theorem indexB(l:Bs)(c:UInt8):Lib.indexByte l c=if l.contains c then(lead (·!=c) l:Int) else-1:=by rw[←Lib.index_one,iG]
theorem eO(s:ByteArray)(c:UInt8)(w:World):
 Calls Tryz.prog 47 #[.string s,.int .u8 (c.toNat:Int)] w fun e w'=>e=.returned (.int .i64 (if s.data.toList.contains c then(lead (·!=c) s.data.toList:Int) else-1))∧w=w':=by
 refine(Tryz.strings_IndexByte s (c.toNat:Int) w).mono ?_;rintro e w'⟨rfl,rfl⟩;refine⟨?_,rfl⟩;have:((c.toNat:Int)).toNat.toUInt8=c:=by rw[Int.toNat_natCast];exact UInt8.ofNat_toNat
 rw[this,indexB]
theorem cV{u:U}(h:gK u=false):aQ u=4:=by unfold aQ;rw[h];rfl
theorem yV{u:U}(h:gK u=true)(a:ee<(gU u).length):aQ u=3:=by unfold aQ;rw[h,cL (by omega)];rfl
theorem yW{u:U}(h:gK u=true)(a:(gU u).length≤ee):aQ u=0:=by unfold aQ;rw[h,bN a];rfl
theorem IX{u:U}(a:¬u.scheme=my)(b:¬u.scheme=ir):gK u=false:=by
 cases h:gK u
 ·rfl
 ·rcases((ef u).1 h).scheme with e|e
  ·exact(a e).elim
  ·exact(b e).elim
theorem FF{u:U}(h:¬(1≤u.host.length∧u.host.length≤253)):gK u=false:=by
 cases a:gK u
 ·rfl
 ·exact(h ((ef u).1 a).hlen).elim
theorem Bp{u:U}(h:u.host.all mh=false):gK u=false:=by
 cases a:gK u
 ·rfl
 ·rw[((ef u).1 a).host] at h;cases h
theorem yU{u:U}(h:¬(0≤u.port∧u.port≤65535)):gK u=false:=by
 cases a:gK u
 ·rfl
 ·exact(h ((ef u).1 a).port).elim
theorem tj{u:U}(h:jE u.path=false):gK u=false:=by unfold gK;rw[h];simp
theorem Qn{u:U}(a:u.hq=false)(b:¬u.query=[]):gK u=false:=by
 cases c:gK u
 ·rfl
 ·rcases((ef u).1 c).query with e|e
  ·rw[a] at e;cases e
  ·exact(b e).elim
theorem Bq{u:U}(h:bh mB u.query=false):gK u=false:=by
 cases a:gK u
 ·rfl
 ·rw[((ef u).1 a).made] at h;cases h
theorem tm(a:Bs)(w:World)(b:a.length≤1000000):Calls Tryz.prog 44 #[.string ⟨a.toArray⟩,.string ⟨dA.toArray⟩] w (cN w (.string ⟨(Lib.trimS a dA).toArray⟩)):=
 o9 ⟨a.toArray⟩ _ w (by show a.length≤_;omega) (by decide) (ascii_of_all (by decide))
theorem Br{a:Bs}(h:a.all mh=true):Lib.trimS a dA=[]:=by have:=mX a dA;rw[od,h] at this;exact eq_of_beq this
theorem tq{c:Bs}(h:c.all mh=false):(Lib.trimS c dA).isEmpty=false:=by
 have:=mX c dA;rw[od,h] at this;cases hq:Lib.trimS c dA with
 |nil=>rw[hq] at this;cases this
 |cons a b=>rfl
theorem FG(s:Bs)(w:World)(a:Good w)(b:s.length≤1000000):Calls Tryz.prog 46 #[.string ⟨s.toArray⟩,.string ⟨wE.toArray⟩] w (cN w (.bool (bh mi s))):=
 FE ⟨s.toArray⟩ ⟨wE.toArray⟩ mi (fun c=>congrFun IY c) w a b (by decide)
theorem qq(s:Bs)(w:World)(a:Good w)(b:s.length≤1000000):Calls Tryz.prog 46 #[.string ⟨s.toArray⟩,.string ⟨yX.toArray⟩] w (cN w (.bool (bh mB s))):=
 FE ⟨s.toArray⟩ ⟨yX.toArray⟩ mB (fun c=>congrFun FH c) w a b (by decide)
theorem sQ(u:U)(w:World)(a:¬u.scheme=my)(b:¬u.scheme=ir):
 Calls Tryz.prog 23 #[uV u] w (cN w (.int .i64 (aQ u))):=by
 have c:=Lib.hid (cV (IX a b));have d:=Lib.hid ((Below.refl w.heap.size w).alloc (ag _) (.cells #[.string ⟨u.scheme.toArray⟩,.string ⟨u.host.toArray⟩,.int .i64 u.port,.string ⟨u.path.toArray⟩,.string ⟨u.query.toArray⟩,.bool u.hq] 34));have e:¬u.scheme=[104,116,116,112]:=a;have h:(!u.scheme==[104,116,116,112])=true:=by rw[Bool.not_eq_true',aL];exact a
 have i:(!u.scheme==[104,116,116,112,115])=true:=by rw[Bool.not_eq_true',aL];exact b
 clear a b;go_enter Tryz.func23,Tryz.ntmps23;go_wp2_with fail;go_ret;exact⟨bW c.out.symm,d.out⟩
end Go.Proofs.YtogchgjfialleaaGreatDoor
namespace Go.Proofs.YtogchgjfialleaaGreatDoor
open Go.Lib
structure bQ where
 name:Bs
 val:Bs
 place:Int
deriving DecidableEq
structure Tok where
 kind:Int
 name:Bs
 attrs:List bQ
 text:Bs
 src:Nat
 bJ:Nat
inductive Nd where
 |mk (kind place:Int) (text:Bs) (attrs:List bQ) (kids:List Nd)
def Nd.kind:Nd→Int|.mk k _ _ _ _=>k
def Nd.place:Nd→Int|.mk _ p _ _ _=>p
def Nd.text:Nd→Bs|.mk _ _ t _ _=>t
def Nd.attrs:Nd→List bQ|.mk _ _ _ a _=>a
def Nd.kids:Nd→List Nd|.mk _ _ _ _ l=>l
def ny:Nd:=.mk 0 0 [] [] []
theorem Nd.eta(n:Nd):n=.mk n.kind n.place n.text n.attrs n.kids:=by cases n;rfl
inductive Lx (α:Type) where
 |aq (x:α) (to_:Nat)
 |bad (place:Nat) (e:Int)
def mo(c:UInt8):Bool:=decide (97≤c.toNat∧c.toNat≤122)
def db(s:Bs)(i:Nat):Nat:=lead mo (s.drop i)
def eY:Bs:=[60,101,115,105,58]
def bD:Bs:=[60,47,101,115,105,58]
def jv:Bs:=[60,33,45,45,101,115,105]
def oJ:Bs:=[45,45,62]
def eJ:Bs:=[105,110,99,108,117,100,101]
def cF:Bs:=[105,110,108,105,110,101]
def bS:Bs:=[114,101,109,111,118,101]
def gz:Bs:=[99,111,109,109,101,110,116]
def zt:Bs:=[116,114,121]
def iW:Bs:=[97,116,116,101,109,112,116]
def lK:Bs:=[101,120,99,101,112,116]
def nu:Bs:=[99,104,111,111,115,101]
def Aa:Bs:=[119,104,101,110]
def kQ:Bs:=[111,116,104,101,114,119,105,115,101]
def Vz:Bs:=[118,97,114,115]
def elems:List Bs:=[eJ,cF,bS,gz,zt,iW,lK,nu,Aa,kQ,Vz]
def fU(s:Bs)(tag i:Nat)(l:List bQ):Lx bQ:=
 let nm:=(s.drop i).take (min 16 (db s i));let j:=i+nm.length
 if l.any (fun b=>nm==b.name) then .bad i 12 else
 match s.drop j with
 |[]=>.bad tag 14
 |c::r=>
  if c==61&& !nm.isEmpty then
   match r with
   |[]=>.bad tag 14
   |m::q=>
    if m==34||m==39 then
     (if q.contains m then .aq ⟨nm,upto m q,(i:Int)⟩ (j+2+(upto m q).length+1) else .bad tag 14)
    else .bad (j+1) 12
  else .bad j 12
def cE(s:Bs)(tag:Nat):Nat→Nat→List bQ→Lx (List bQ)
 |0,_,_=>.bad 0 0
 |k+1,i,l=>
  let j:=pa s i
  match s.drop j with
  |[]=>.bad tag 14
  |c::_=>
   if c==62||c==47 then .aq l j
   else if j==i then .bad i 12
   else match fU s tag j l with
    |.bad p e=>.bad p e
    |.aq a t=>cE s tag k t (l++[a])
def GO(s:Bs)(i j:Nat):Bs:=(s.drop i).take (j-i)
def cS(s:Bs)(k:Int)(nm:Bs)(l:List bQ)(i j:Nat):Tok:=⟨k,nm,l,GO s i j,i,j⟩
def gv(s:Bs)(tag:Nat)(nm:Bs)(l:List bQ)(k:Int)(j:Nat):Lx Tok:=
 match s.drop j with
 |[]=>.bad tag 14
 |c::_=>if c==62 then .aq (cS s k nm l tag (j+1)) (j+1) else .bad j 12
def qw(s:Bs)(tag:Nat)(nm:Bs)(i:Nat):Lx Tok:=
 match cE s tag (s.length+1) i [] with
 |.bad p e=>.bad p e
 |.aq l j=>if(s.drop j).head?==some 47 then gv s tag nm l 3 (j+1) else gv s tag nm l 2 j
def iU(s:Bs)(nm:Bs)(tag i:Nat):Lx Tok:=
 let r:=s.drop i;let n:=index r (bD++nm)
 if n<0 then .bad tag 14
 else
  let k:=index (r.take n.toNat) eY
  if 0≤k∧nm=bS then .bad (i+k.toNat) 13
  else .aq (cS s 7 [] [] i (i+n.toNat)) (i+n.toNat)
def dB(s:Bs)(tag:Nat):Lx (List Tok):=
 let i:=tag+5;let n:=db s i;let nm:=(s.drop i).take n
 if elems.contains nm then
  match qw s tag nm (i+n) with
  |.bad p e=>.bad p e
  |.aq t j=>
   if t.kind=2∧(nm=bS∨nm=cF) then
    match iU s nm tag j with
    |.bad p e=>.bad p e
    |.aq r m=>.aq [t,r] m
   else .aq [t] j
 else .bad tag 11
def de(s:Bs)(tag:Nat):Lx (List Tok):=
 let i:=tag+6;let n:=db s i;let nm:=(s.drop i).take n
 if elems.contains nm then
  match s.drop (pa s (i+n)) with
  |[]=>.bad tag 14
  |c::_=>if c==62 then .aq [cS s 4 nm [] tag (pa s (i+n)+1)] (pa s (i+n)+1) else .bad tag 11
 else .bad tag 11
def dw(r:Bs)(hid:Bool):Nat:=
 if hasPrefix r eY then 1
 else if hasPrefix r bD then 2
 else if hasPrefix r jv&&((r.drop 7).head?.map mE).getD false then 3
 else if hasPrefix r oJ&&hid then 4
 else 0
def fq(s:Bs)(k i:Nat)(hid:Option Nat):Lx (List Tok×Option Nat):=
 if k=1 then match dB s i with|.bad p e=>.bad p e|.aq l j=>.aq (l,hid) j
 else if k=2 then match de s i with|.bad p e=>.bad p e|.aq l j=>.aq (l,hid) j
 else if k=3 then(if hid.isSome then .bad i 13 else .aq ([cS s 5 [] [] i (i+8)],some i) (i+8))
 else .aq ([cS s 6 [] [] i (i+3)],none) (i+3)
def dc(s:Bs)(src i:Nat):List Tok:=if src<i then[cS s 1 [] [] src i] else[]
def gS(s:Bs):Nat→Nat→Nat→Option Nat→List Tok→Lx (List Tok)
 |0,_,_,_,_=>.bad 0 0
 |f+1,src,i,hid,l=>
  if i<s.length then
   let k:=dw (s.drop i) hid.isSome
   if k=0 then gS s f src (i+1) hid l
   else match fq s k i hid with
    |.bad p e=>.bad p e
    |.aq x j=>gS s f j j x.2 (l++dc s src i++x.1)
  else match hid with
   |some h=>.bad h 14
   |none=>.aq (l++dc s src i) i
def lexB(s:Bs):Lx (List Tok):=gS s (s.length+1) 0 0 none []
def kindOf(nm:Bs):Int:=
 if nm=eJ then 3 else if nm=cF then 4 else if nm=bS then 5 else if nm=gz then 6 else if nm=zt then 7
 else if nm=iW then 8 else if nm=lK then 9 else if nm=nu then 10 else if nm=Aa then 11 else if nm=kQ then 12 else 13
def lC:Bs:=[115,114,99]
def lD:Bs:=[97,108,116]
def dj:Bs:=[111,110,101,114,114,111,114]
def kO:Bs:=[110,97,109,101]
def eN:Bs:=[102,101,116,99,104,97,98,108,101]
def qH:Bs:=[116,101,120,116]
def gT:Bs:=[116,101,115,116]
def iJ:Bs:=[99,111,110,116,105,110,117,101]
def Da:Bs:=[121,101,115]
def Tm:Bs:=[110,111]
def aE(k:Int):List Bs×Nat:=
 if k=3 then([lC,lD,dj],1) else if k=4 then([kO,eN],1) else if k=6 then([qH],1) else if k=11 then([gT],1) else([],0)
def lJ(nm v:Bs):Bool:=
 if nm=dj then v==iJ else if nm=eN then v==Da||v==Tm else if nm=qH then true else !v.isEmpty
def fo(n:Nd):Int:=match n.kids.getLast? with|none=>0|some x=>x.kind
def oy(a:Nd)(k:Int):Bool:=
 if a.kind=7 then decide (k=8∧fo a=0∨k=9∧fo a=8)
 else if a.kind=10 then decide (k=11∧fo a≠12∨k=12∧fo a=11)
 else !decide (k=8∨k=9∨k=11∨k=12)
def fV(n k:Nd):Nd:=.mk n.kind n.place n.text n.attrs (n.kids++[k])
def vN(n:Nd)(t:Bs):Nd:=.mk n.kind n.place t n.attrs n.kids
def mD(a b:Option (Nat×Int)):Option (Nat×Int):=match a with|some x=>some x|none=>b
def fW:List (Option (Nat×Int))→Option (Nat×Int)
 |[]=>none
 |some x::_=>some x
 |none::r=>fW r
def qZ(k:Int)(t:Tok):Option (Nat×Int):=
 mD (fW (((aE k).1.take (aE k).2).map fun nm=>if t.attrs.any (fun a=>a.name==nm) then none else some (t.src,12)))
  (fW (t.attrs.map fun a=>if(aE k).1.contains a.name&&lJ a.name a.val then none else some (a.place.toNat,12)))
structure rf where
 top:Nd
 below:List Nd
inductive Px where
 |aq (x:rf)
 |bad (place:Nat) (e:Int)
def px(e:Option (Nat×Int))(x:rf):Px:=match e with|none=>.aq x|some p=>.bad p.1 p.2
def BL(x:rf)(t:Tok):Px:=
 let k:=kindOf t.name;let empty:=decide (k=3∨k=6);let a:=if(empty !=decide (t.kind=3))|| !oy x.top k then some (t.src,(13:Int)) else none;let b:=if 16<x.below.length+1 then some (t.src,(3:Int)) else none;let n:=Nd.mk k t.src [] t.attrs []
 px (mD (mD a b) (qZ k t)) (if empty then⟨fV x.top n,x.below⟩ else⟨n,x.top::x.below⟩)
def Jo(x:rf)(t:Tok):Px:=
 let a:=if oy x.top 14 then none else some (t.src,(13:Int));let b:=if 16<x.below.length+1 then some (t.src,(3:Int)) else none
 px (mD a b) ⟨.mk 14 t.src [] [] [],x.top::x.below⟩
def Q9(x:rf)(t:Tok):Px:=
 let k:=if t.kind=4 then kindOf t.name else 14
 if x.top.kind≠k∨(k=7∧fo x.top≠9)∨(k=10∧fo x.top=0) then .bad t.src 13
 else match x.below with
  |[]=>.bad 0 0
  |y::r=>.aq ⟨fV y x.top,r⟩
def Dv(x:rf)(t:Tok):Px:=
 if x.top.kind≠7∧x.top.kind≠10 then .aq ⟨fV x.top (.mk 2 t.src t.text [] []),x.below⟩
 else match t.text.dropWhile mE with
  |[]=>.aq x
  |c::r=>.bad (t.bJ-(c::r).length) 13
def lM(x:rf)(t:Tok):Px:=
 if t.kind=1 then Dv x t else if t.kind=7 then .aq ⟨vN x.top t.text,x.below⟩
 else if t.kind=2∨t.kind=3 then BL x t else if t.kind=5 then Jo x t else Q9 x t
def fX:rf→List Tok→Px
 |x,[]=>.aq x
 |x,t::r=>match lM x t with|.bad p e=>.bad p e|.aq y=>fX y r
def lN:Nd:=.mk 1 0 [] [] []
def gW(s:Bs):Nd×Nat×Int:=
 if 65536<s.length then(ny,65536,3)
 else match lexB s with
  |.bad p e=>(ny,p,e)
  |.aq l _=>match fX ⟨lN,[]⟩ l with
   |.bad p e=>(ny,p,e)
   |.aq x=>if x.below.isEmpty then(x.top,0,0) else(ny,s.length,14)
def oH{a:Type}(n i:Nat):Lx a→Prop
 |.aq _ t=>i<t∧t≤n
 |.bad p e=>p≤n∧(e=11∨e=12∨e=13∨e=14)
theorem oH.mono{a:Type}{n i j:Nat}{x:Lx a}(h:oH n i x)(b:j≤i):oH n j x:=by
 cases x with
 |aq x t=>exact⟨by have:=h.1;omega,h.2⟩
 |bad p e=>exact h
theorem drop_cons{s:Bs}{i:Nat}{c:UInt8}{r:Bs}(h:s.drop i=c::r):i+r.length+1=s.length:=by have:=congrArg List.length h;rw[bK,bF] at this;omega
theorem tK{s:Bs}{i:Nat}{c:UInt8}{r:Bs}(h:s.drop i=c::r):s.drop (i+1)=r:=by rw[←fh,h];rfl
theorem ku{s:Bs}{i:Nat}{c:UInt8}{r:Bs}(h:s.drop i=c::r):i<s.length:=by have:=drop_cons h;omega
theorem tL{s:Bs}{tag i:Nat}{l:List bQ}(a:tag≤s.length)(e:i≤s.length):oH s.length i (fU s tag i l):=by
 have h:i+((s.drop i).take (min 16 (db s i))).length≤s.length:=by rw[gu,bK];omega
 unfold fU;dsimp only;split
 ·exact⟨e,.inr (.inl rfl)⟩
 split
 ·exact⟨a,.inr (.inr (.inr rfl))⟩
 rename_i c r d;have b:=drop_cons d;split
 ·split
  ·exact⟨a,.inr (.inr (.inr rfl))⟩
  rename_i m q;simp only[bF] at b;split
  ·split
   ·rename_i hq;have:=vV hq;exact⟨by omega,by omega⟩
   ·exact⟨a,.inr (.inr (.inr rfl))⟩
  ·exact⟨by omega,.inr (.inl rfl)⟩
 ·exact⟨h,.inr (.inl rfl)⟩
theorem sf{s:Bs}{tag:Nat}(m:tag≤s.length):∀(f i:Nat) (l:List bQ),i≤s.length→s.length<i+f→
 match cE s tag f i l with|.aq _ j=>i≤j∧j<s.length∧∃c r,s.drop j=c::r∧(c=62∨c=47)|.bad p e=>p≤s.length∧(e=11∨e=12∨e=13∨e=14)
 |0,i,l,k,y=>by omega
 |f+1,i,l,k,y=>by
  unfold cE;dsimp only;have z:=jP s k;cases n:s.drop (pa s i) with
  |nil=>exact⟨m,.inr (.inr (.inr rfl))⟩
  |cons c r=>
   have u:=ku n;dsimp only;by_cases d:(c==62||c==47)=true
   ·rw[ah d];refine⟨z,u,c,r,n, ?_⟩;rw[wH,bZ,bZ] at d;exact d
   ·rw[ae d];by_cases q:(pa s i==i)=true
    ·rw[ah q];exact⟨k,.inr (.inl rfl)⟩
    ·rw[ae q];have b:=tL (s:=s) (tag:=tag) (i:=pa s i) (l:=l) m (om u);cases o:fU s tag (pa s i) l with
     |bad p e=>rw[o] at b;exact b
     |aq a t=>
      rw[o] at b;have w:=sf m f t (l++[a]) b.2 (by have:=b.1;omega);have A:=b.1;dsimp only;revert w;cases cE s tag f t (l++[a]) with
      |bad p e=>exact id
      |aq x j=>exact fun h=>⟨by have:=h.1;omega,h.2⟩
theorem uM{s:Bs}{tag:Nat}{nm:Bs}{l:List bQ}{k:Int}{j:Nat}(d:tag≤s.length)(b:j≤s.length):oH s.length j (gv s tag nm l k j):=by
 unfold gv;split
 ·exact⟨d,.inr (.inr (.inr rfl))⟩
 rename_i c r a;have:=drop_cons a;split
 ·exact⟨by omega,by omega⟩
 ·exact⟨b,.inr (.inl rfl)⟩
theorem wT{s:Bs}{tag:Nat}{nm:Bs}{i:Nat}(a:tag≤s.length)(c:i≤s.length):oH s.length i (qw s tag nm i):=by
 have h:=sf a (s.length+1) i [] c (by omega);unfold qw;revert h;cases cE s tag (s.length+1) i [] with
 |bad p e=>exact id
 |aq l j=>
  intro h;have b:=h.1;have d:=h.2.1;dsimp only;split
  ·exact(uM a (by omega)).mono (by omega)
  ·exact(uM a (by omega)).mono b
theorem wU{s nm:Bs}{tag i:Nat}(h:tag≤s.length)(j:i≤s.length):match iU s nm tag i with|.aq _ t=>i≤t∧t≤s.length|.bad p e=>p≤s.length∧(e=11∨e=12∨e=13∨e=14):=by
 unfold iU;dsimp only;by_cases b:index (s.drop i) (bD++nm)<0
 ·rw[ah b];exact⟨h,.inr (.inr (.inr rfl))⟩
 ·rw[ae b];have d:=index_room (s.drop i) (bD++nm) (by omega);rw[bK] at d;by_cases a:0≤index ((s.drop i).take (index (s.drop i) (bD++nm)).toNat) eY∧nm=bS
  ·rw[ah a];have c:=index_room ((s.drop i).take (index (s.drop i) (bD++nm)).toNat) eY a.1;rw[gu,bK] at c;exact⟨by omega,.inr (.inr (.inl rfl))⟩
  ·rw[ae a];exact⟨by omega,by omega⟩
theorem iI(s:Bs){i:Nat}(h:i≤s.length):i+db s i≤s.length:=by have:=iV mo (s.drop i);rw[bK] at this;unfold db;omega
theorem Ko{s:Bs}{tag:Nat}(h:tag+5≤s.length):oH s.length tag (dB s tag):=by
 unfold dB;dsimp only;split
 ·have a:=wT (s:=s) (tag:=tag) (nm:=(s.drop (tag+5)).take (db s (tag+5))) (i:=tag+5+db s (tag+5)) (by omega) (iI s h);cases c:qw s tag ((s.drop (tag+5)).take (db s (tag+5))) (tag+5+db s (tag+5)) with
  |bad p e=>rw[c] at a;exact a
  |aq t j=>
   rw[c] at a;have l:=a.1;have k:=a.2;dsimp only;split
   ·have b:=wU (s:=s) (nm:=(s.drop (tag+5)).take (db s (tag+5))) (tag:=tag) (i:=j) (by omega) a.2;cases d:iU s ((s.drop (tag+5)).take (db s (tag+5))) tag j with
    |bad p e=>rw[d] at b;exact b
    |aq x m=>rw[d] at b;exact⟨by have:=b.1;omega,b.2⟩
   ·exact⟨by omega,k⟩
 ·exact⟨by omega,.inl rfl⟩
theorem wV{s:Bs}{tag:Nat}(h:tag+6≤s.length):oH s.length tag (de s tag):=by
 unfold de;dsimp only;split
 ·split
  ·exact⟨by omega,.inr (.inr (.inr rfl))⟩
  rename_i c r a;have b:=drop_cons a;have d:=jP s (iI s h);split
  ·exact⟨by omega,by omega⟩
  ·exact⟨by omega,.inl rfl⟩
 ·exact⟨by omega,.inl rfl⟩
theorem wW{s p:Bs}{i:Nat}(h:hasPrefix (s.drop i) p=true)(a:i≤s.length):i+p.length≤s.length:=by have:=gL h;rw[bK] at this;omega
theorem pS{s:Bs}{i:Nat}{hid:Bool}(e:i<s.length):(dw (s.drop i) hid=1→i+5≤s.length)∧(dw (s.drop i) hid=2→i+6≤s.length)∧(dw (s.drop i) hid=3→i+8≤s.length)∧(dw (s.drop i) hid=4→i+3≤s.length)∧dw (s.drop i) hid≤4:=by
 unfold dw;split
 ·rename_i h;have:=wW h (by omega);exact⟨fun _=>this,fun h=>(by omega),fun h=>(by omega),fun h=>(by omega),by omega⟩
 split
 ·rename_i h;have:=wW h (by omega);exact⟨fun h=>(by omega),fun _=>this,fun h=>(by omega),fun h=>(by omega),by omega⟩
 split
 ·rename_i h;rw[cW] at h;have d:i+8≤s.length:=by
   have a:=h.2;cases b:(s.drop i).drop 7 with
   |nil=>rw[b] at a;cases a
   |cons c r=>have:=congrArg List.length b;rw[bK,bK,bF] at this;omega
  exact⟨fun h=>(by omega),fun h=>(by omega),fun _=>d,fun h=>(by omega),by omega⟩
 split
 ·rename_i h;rw[cW] at h;have:=wW h.1 (by omega);exact⟨fun h=>(by omega),fun h=>(by omega),fun h=>(by omega),fun _=>this,by omega⟩
 ·exact⟨fun h=>(by omega),fun h=>(by omega),fun h=>(by omega),fun h=>(by omega),by omega⟩
theorem mH{s:Bs}{i:Nat}{hid:Option Nat}(o:i<s.length)(q:dw (s.drop i) hid.isSome≠0):oH s.length i (fq s (dw (s.drop i) hid.isSome) i hid):=by
 obtain⟨d,h,m,n,r⟩:=pS (s:=s) (hid:=hid.isSome) o;generalize dw (s.drop i) hid.isSome=k at*;unfold fq;by_cases a:k=1
 ·rw[ah a];have:=Ko (d a);revert this;cases dB s i with
  |bad p e=>exact id
  |aq l j=>exact id
 rw[ae a];by_cases b:k=2
 ·rw[ah b];have:=wV (h b);revert this;cases de s i with
  |bad p e=>exact id
  |aq l j=>exact id
 rw[ae b];by_cases c:k=3
 ·rw[ah c];have:=m c;cases hid with
  |none=>exact⟨by omega,this⟩
  |some x=>exact⟨by omega,.inr (.inr (.inl rfl))⟩
 rw[ae c];have:=n (by omega);exact⟨by omega,this⟩
theorem MV{s:Bs}{i k:Nat}{hid:Option Nat}{x:List Tok×Option Nat}{j:Nat}(h:fq s k i hid=.aq x j):x.2=hid∨x.2=none∨x.2=some i:=by
 unfold fq at h;split at h
 ·split at h
  ·cases h
  ·cases h;exact .inl rfl
 split at h
 ·split at h
  ·cases h
  ·cases h;exact .inl rfl
 split at h
 ·split at h
  ·cases h
  ·cases h;exact .inr (.inr rfl)
 ·cases h;exact .inr (.inl rfl)
theorem qW(s:Bs):∀(f src i:Nat) (hid:Option Nat) (l:List Tok),i≤s.length→s.length<i+f→(∀x,hid=some x→x≤s.length)→
 match gS s f src i hid l with|.aq _ j=>j=s.length|.bad p e=>p≤s.length∧(e=11∨e=12∨e=13∨e=14)
 |0,src,i,hid,l,n,o,c=>by omega
 |f+1,src,i,hid,l,n,o,c=>by
  unfold gS;by_cases d:i<s.length
  ·rw[ah d];dsimp only;by_cases m:dw (s.drop i) hid.isSome=0
   ·rw[ah m];exact qW s f _ _ _ _ d (by omega) c
   ·rw[ae m];have a:=mH d m;cases k:fq s (dw (s.drop i) hid.isSome) i hid with
    |bad p e=>rw[k] at a;exact a
    |aq x j=>
     rw[k] at a;dsimp only;refine qW s f _ _ _ _ a.2 (by have:=a.1;omega) fun y b=> ?_;rcases MV k with h|h|h
     ·exact c y (by rw[←h];exact b)
     ·rw[h] at b;cases b
     ·rw[h] at b;cases b;exact n
  ·rw[ae d];cases hid with
   |some x=>exact⟨c x rfl,.inr (.inr (.inr rfl))⟩
   |none=>show i=s.length;omega
theorem C4(s:Bs):match lexB s with|.aq _ j=>j=s.length|.bad p e=>p≤s.length∧(e=11∨e=12∨e=13∨e=14):=
 qW s _ _ _ _ _ (aH _) (by omega) fun x h=>by cases h
def QV:Nd→List Nd→Prop
 |top,[]=>top.kind=1
 |_,y::r=>QV y r
theorem BC{a b:Nd}(h:a.kind=b.kind):∀{l:List Nd},QV a l→QV b l
 |[],c=>by show b.kind=1;rw[←h];exact c
 |_::_,c=>c
theorem Kp(nm:Bs):3≤kindOf nm∧kindOf nm≤13:=by unfold kindOf;repeat(first|omega|split)
