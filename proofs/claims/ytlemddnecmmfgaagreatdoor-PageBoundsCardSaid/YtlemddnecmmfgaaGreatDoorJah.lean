/- The lexer's and the parser's bounds. -/
import Derived.Test.YtlemddnecmmfgaaGreatDoorJag
import Derived.Test.YtlemddnecmmfgaaGreatDoorJad
import Derived.Lib.AppendIntMem
set_option linter.unusedVariables false
set_option maxRecDepth 100000
set_option maxHeartbeats 2000000
namespace Go.Proofs.YtlemddnecmmfgaaGreatDoor
open Go.RowKit
variable{I:ByteArray}{d:Nat}
def js(s:Bs):Bool:=bh (fun _=>true) s
theorem Wb(a b:UInt8):(Lib.trimS [a,b] ly==[])=(dS a&&dS b):=by rw[mX,Mo];simp
theorem Kg(s:ByteArray)(w:World)(a:s.size≤1000000):Calls Tryz.prog 27 #[.string s,.string ⟨#[48,49,50,51,52,53,54,55,56,57,97,98,99,100,101,102,65,66,67,68,69,70]⟩] w (cN w (.string ⟨(Lib.trimS s.data.toList ly).toArray⟩)):=
 XM s _ w (by omega) (by decide) (ascii_of_all (by decide))
theorem ze{a b c:UInt8}{r:Bs}(h:I.data.toList.drop d=a::b::c::r):d+3≤I.size∧(I.extract (d+1) (d+3)).data.toList=[b,c]∧(I.extract d (d+3)).data.toList=[a,b,c]∧I.data.toList.drop (d+3)=r:=by
 have e:=congrArg List.length h;rw[bK,bj] at e;simp at e;refine⟨by omega, ?_, ?_, ?_⟩
 ·rw[cf,←fh,h];simp
 ·rw[cf,h];simp
 ·rw[←fh,h];rfl
structure SX (f:FuncId) (caps:Array Value) (s:ByteArray) (I:Nat→World→Prop):Prop where
 next:∀k w w',I k w→Below w.heap.size w w'→I k w'
 byte:∀k c r w,s.data.toList.drop k=c::r→c≠37→I k w→Calls Tryz.prog f (#[.string ⟨#[c]⟩]++caps) w fun e w'=>e=.returned (.tuple #[])∧I (k+1) w'
 Xf:∀k a b r w,s.data.toList.drop k=37::a::b::r→(dS a&&dS b)=true→I k w→Calls Tryz.prog f (#[.string ⟨#[37,a,b]⟩]++caps) w fun e w'=>e=.returned (.tuple #[])∧I (k+3) w'
def jK(s:ByteArray)(I:Nat→World→Prop)(e:Ending)(w':World):Prop:=(js s.data.toList=true∧e=.returned (.bool true)∧I s.size w')∨(js s.data.toList=false∧e=.returned (.bool false)∧∃k,I k w')
theorem wF(l:Bs):(⟨l.toArray⟩:ByteArray).size=l.length:=rfl
def uC:Value→Nat
 |.string b=>b.size
 |_=>0
theorem drop_nil(a:d≤I.size)(h:I.data.toList.drop d=[]):d=I.size:=by have:=congrArg List.length h;rw[bK,bj] at this;simp at this;omega
end Go.Proofs.YtlemddnecmmfgaaGreatDoor
namespace Go.Proofs.YtlemddnecmmfgaaGreatDoor
open Go.RowKit
variable{I:ByteArray}{d:Nat}
theorem CG(K L:Value)(s:ByteArray)(I:Nat→World→Prop)(O:SX 66 #[K,L] s I)(w:World)(M:I 0 w)(hs:s.size≤1000000):
 Calls Tryz.prog 65 #[.string s,.func (.func 66) #[] #[K,L]] w (jK s I):=by
 have D:=Lib.hid O;have T:=Lib.hid M;clear O M;go_enter Tryz.func65,Tryz.ntmps65;go_wp2_with fail
 go_loopw [0,5] (fun t n wr=>∃k:Nat,k≤s.size∧t=.string ⟨(s.data.toList.drop k).toArray⟩∧Hid (js (s.data.toList.drop k)=js s.data.toList)∧Hid (I k wr)) (fun t _ _=>uC t)
 case atStart=>exact⟨0,aH _,by rw[List.drop_zero],Lib.hid rfl,T⟩
 case round=>
  obtain⟨k,Z,rfl,o,x⟩:=hrel;rcases d:s.data.toList.drop k with _|⟨c,r⟩
  ·have R:=drop_nil Z d;have l:=Lib.hid (show jK s I (.returned (.bool true)) wr from .inl ⟨by rw[←o.out,d];rfl,rfl,by rw[←R];exact x.out⟩);clear d R;go_wp2_with fail;go_ret;exact l.out
  ·have J:=Lib.hid d;have hx:∀h,((⟨(c::r).toArray⟩:ByteArray)[0]'h)=c:=fun _=>rfl
   by_cases C:c=37
   ·subst C;have ao:((37:UInt8).toNat:Int)=37:=rfl;rcases A:r with _|⟨a,_|⟨b,i⟩⟩
    ·have l:=Lib.hid (show jK s I (.returned (.bool false)) wr from .inr ⟨by rw[←o.out,d,A];rfl,rfl,k,x.out⟩);subst A;clear d;go_wp2_with fail;go_ret;exact l.out
    ·have l:=Lib.hid (show jK s I (.returned (.bool false)) wr from .inr ⟨by rw[←o.out,d,A];rfl,rfl,k,x.out⟩);subst A;clear d;go_wp2_with fail;go_ret;exact l.out
    ·subst A;obtain⟨V,W,X,N⟩:=ze d;have af:¬((i.length:Int)+1+1+1<3):=by omega
     have ai:(3:Int)≤(i.length:Int)+1+1+1:=by omega
     have B:=Lib.hid (show js (s.data.toList.drop k)=(dS a&&dS b&&js i) by rw[d];exact iR);have u:=Lib.hid N;have al:(⟨(37::a::b::i).toArray⟩:ByteArray).extract 1 3=⟨[a,b].toArray⟩:=dU (by rw[cf];rfl);have Y:(⟨(37::a::b::i).toArray⟩:ByteArray).extract 0 3=⟨#[37,a,b]⟩:=dU (by rw[cf];rfl);have ab:(⟨(37::a::b::i).toArray⟩:ByteArray).extract 3 (i.length+1+1+1)=⟨i.toArray⟩:=dU (by rw[cf];simp);clear d W X N;go_wp2_with fail;refine(Kg ⟨[a,b].toArray⟩ wr (by show 2≤_;omega)).m ?_;rintro e S⟨rfl,F⟩;have G:=Lib.hid (D.out.next k _ _ x.out F);have j:=Wb a b;rcases y:(dS a&&dS b) with _|_
     ·rw[y] at j;have am:((⟨(Lib.trimS (⟨[a,b].toArray⟩:ByteArray).data.toList ly).toArray⟩:ByteArray).toList==[])=false:=by rw[Lib.toList_data];exact j
      have l:=Lib.hid (show jK s I (.returned (.bool false)) S from .inr ⟨by rw[←o.out,B.out,y];rfl,rfl,k,G.out⟩);have an:(Lib.trimS (⟨[a,b].toArray⟩:ByteArray).data.toList ly).isEmpty=false:=by
       cases hq:Lib.trimS [a,b] ly with
       |nil=>rw[hq] at j;cases j
       |cons p q=>rfl
      clear F j;go_wp2_with fail;go_ret;exact l.out
     ·rw[y] at j;have Q:Lib.trimS (⟨[a,b].toArray⟩:ByteArray).data.toList ly=[]:=eq_of_beq j;rw[Q];have H:=Lib.hid y;clear F j Q y;go_wp2_with fail;refine(D.out.Xf k a b i S J.out H.out G.out).m ?_;rintro e w2⟨rfl,z⟩;have E:=Lib.hid z;clear z;go_wp2_with fail
      go_roundw
      case rel=>exact⟨k+3,V,by rw[u.out],Lib.hid (by rw[u.out,←o.out,B.out,H.out];rfl),E⟩
      case measure=>(simp[uC,wF]<;>omega)
   ·have ac:((c.toNat:Int)==37)=false:=by rw[aL];exact fun e=>C (by rw[Ei];show c.toNat=37;omega)
    have aa:k+1≤s.size:=by have:=congrArg List.length d;rw[bK,bj] at this;simp at this;omega
    have u:=Lib.hid (show s.data.toList.drop (k+1)=r by rw[←fh,d];rfl);have B:=Lib.hid (show js (s.data.toList.drop k)=js r by rw[d];exact eh C);have Y:(⟨(c::r).toArray⟩:ByteArray).extract 0 1=⟨#[c]⟩:=dU (by rw[cf];rfl);have ab:(⟨(c::r).toArray⟩:ByteArray).extract 1 (r.length+1)=⟨r.toArray⟩:=dU (by rw[cf];simp);clear d;go_wp2_with fail;refine(D.out.byte k c r wr J.out C x.out).m ?_;rintro e w2⟨rfl,z⟩;have E:=Lib.hid z;clear z;go_wp2_with fail
    go_roundw
    case rel=>exact⟨k+1,aa,by rw[u.out],Lib.hid (by rw[u.out,←o.out,B.out]),E⟩
    case measure=>(simp[uC,wF]<;>omega)
end Go.Proofs.YtlemddnecmmfgaaGreatDoor
namespace Go.Proofs.YtlemddnecmmfgaaGreatDoor
open Go.RowKit
variable{I:ByteArray}{d:Nat}
theorem CK(K:Value)(s:ByteArray)(I:Nat→World→Prop)(N:SX 171 #[K] s I)(w:World)(L:I 0 w)(hs:s.size≤1000000):
 Calls Tryz.prog 65 #[.string s,.func (.func 171) #[] #[K]] w (jK s I):=by
 have D:=Lib.hid N;have S:=Lib.hid L;clear N L;go_enter Tryz.func65,Tryz.ntmps65;go_wp2_with fail
 go_loopw [0,5] (fun t n wr=>∃k:Nat,k≤s.size∧t=.string ⟨(s.data.toList.drop k).toArray⟩∧Hid (js (s.data.toList.drop k)=js s.data.toList)∧Hid (I k wr)) (fun t _ _=>uC t)
 case atStart=>exact⟨0,aH _,by rw[List.drop_zero],Lib.hid rfl,S⟩
 case round=>
  obtain⟨k,Y,rfl,o,x⟩:=hrel;rcases d:s.data.toList.drop k with _|⟨c,r⟩
  ·have Q:=drop_nil Y d;have l:=Lib.hid (show jK s I (.returned (.bool true)) wr from .inl ⟨by rw[←o.out,d];rfl,rfl,by rw[←Q];exact x.out⟩);clear d Q;go_wp2_with fail;go_ret;exact l.out
  ·have J:=Lib.hid d;have hx:∀h,((⟨(c::r).toArray⟩:ByteArray)[0]'h)=c:=fun _=>rfl
   by_cases C:c=37
   ·subst C;have an:((37:UInt8).toNat:Int)=37:=rfl;rcases A:r with _|⟨a,_|⟨b,i⟩⟩
    ·have l:=Lib.hid (show jK s I (.returned (.bool false)) wr from .inr ⟨by rw[←o.out,d,A];rfl,rfl,k,x.out⟩);subst A;clear d;go_wp2_with fail;go_ret;exact l.out
    ·have l:=Lib.hid (show jK s I (.returned (.bool false)) wr from .inr ⟨by rw[←o.out,d,A];rfl,rfl,k,x.out⟩);subst A;clear d;go_wp2_with fail;go_ret;exact l.out
    ·subst A;obtain⟨T,V,W,M⟩:=ze d;have ac:¬((i.length:Int)+1+1+1<3):=by omega
     have af:(3:Int)≤(i.length:Int)+1+1+1:=by omega
     have B:=Lib.hid (show js (s.data.toList.drop k)=(dS a&&dS b&&js i) by rw[d];exact iR);have u:=Lib.hid M;have ai:(⟨(37::a::b::i).toArray⟩:ByteArray).extract 1 3=⟨[a,b].toArray⟩:=dU (by rw[cf];rfl);have X:(⟨(37::a::b::i).toArray⟩:ByteArray).extract 0 3=⟨#[37,a,b]⟩:=dU (by rw[cf];rfl);have aa:(⟨(37::a::b::i).toArray⟩:ByteArray).extract 3 (i.length+1+1+1)=⟨i.toArray⟩:=dU (by rw[cf];simp);clear d V W M;go_wp2_with fail;refine(Kg ⟨[a,b].toArray⟩ wr (by show 2≤_;omega)).m ?_;rintro e R⟨rfl,F⟩;have G:=Lib.hid (D.out.next k _ _ x.out F);have j:=Wb a b;rcases y:(dS a&&dS b) with _|_
     ·rw[y] at j;have al:((⟨(Lib.trimS (⟨[a,b].toArray⟩:ByteArray).data.toList ly).toArray⟩:ByteArray).toList==[])=false:=by rw[Lib.toList_data];exact j
      have l:=Lib.hid (show jK s I (.returned (.bool false)) R from .inr ⟨by rw[←o.out,B.out,y];rfl,rfl,k,G.out⟩);have am:(Lib.trimS (⟨[a,b].toArray⟩:ByteArray).data.toList ly).isEmpty=false:=by
       cases hq:Lib.trimS [a,b] ly with
       |nil=>rw[hq] at j;cases j
       |cons p q=>rfl
      clear F j;go_wp2_with fail;go_ret;exact l.out
     ·rw[y] at j;have O:Lib.trimS (⟨[a,b].toArray⟩:ByteArray).data.toList ly=[]:=eq_of_beq j;rw[O];have H:=Lib.hid y;clear F j O y;go_wp2_with fail;refine(D.out.Xf k a b i R J.out H.out G.out).m ?_;rintro e w2⟨rfl,z⟩;have E:=Lib.hid z;clear z;go_wp2_with fail
      go_roundw
      case rel=>exact⟨k+3,T,by rw[u.out],Lib.hid (by rw[u.out,←o.out,B.out,H.out];rfl),E⟩
      case measure=>(simp[uC,wF]<;>omega)
   ·have ab:((c.toNat:Int)==37)=false:=by rw[aL];exact fun e=>C (by rw[Ei];show c.toNat=37;omega)
    have Z:k+1≤s.size:=by have:=congrArg List.length d;rw[bK,bj] at this;simp at this;omega
    have u:=Lib.hid (show s.data.toList.drop (k+1)=r by rw[←fh,d];rfl);have B:=Lib.hid (show js (s.data.toList.drop k)=js r by rw[d];exact eh C);have X:(⟨(c::r).toArray⟩:ByteArray).extract 0 1=⟨#[c]⟩:=dU (by rw[cf];rfl);have aa:(⟨(c::r).toArray⟩:ByteArray).extract 1 (r.length+1)=⟨r.toArray⟩:=dU (by rw[cf];simp);clear d;go_wp2_with fail;refine(D.out.byte k c r wr J.out C x.out).m ?_;rintro e w2⟨rfl,z⟩;have E:=Lib.hid z;clear z;go_wp2_with fail
    go_roundw
    case rel=>exact⟨k+1,Z,by rw[u.out],Lib.hid (by rw[u.out,←o.out,B.out]),E⟩
    case measure=>(simp[uC,wF]<;>omega)
end Go.Proofs.YtlemddnecmmfgaaGreatDoor
namespace Go.Proofs.YtlemddnecmmfgaaGreatDoor
open Go.RowKit
variable{a:Nat}{z:U}{i:World}
theorem TG:Tryz.prog.globalNamed "internal/strconv.uint64pow10" =some 4:=by kernel_rfl
theorem TF:Tryz.prog.globalNamed "strconv.ErrSyntax" =some 7:=by kernel_rfl
theorem TE:Tryz.prog.globalNamed "strconv.ErrRange" =some 8:=by kernel_rfl
structure GX (w:World):Prop where
 aq:Good w
 Tz:Lib.TabIs Tryz.prog w "internal/strconv.uint64pow10" .u64 Lib.pow10Tab
 Xd:∃tp p,w.var? Tryz.prog "strconv.ErrSyntax" =some #[.iface tp p]
 Xe:∃tp p,w.var? Tryz.prog "strconv.ErrRange" =some #[.iface tp p]
theorem sv{w':World}{n:String}{b:Array Value}(d:Tryz.prog.globalNamed n=some a)(h:i.var? Tryz.prog n=some b)(e:0<b.size)(j:Below i.heap.size i w'):w'.var? Tryz.prog n=some b:=by have c:=World.var?_cell d h 0;rw[MM e] at c;exact var?_below j d (aV c) h
theorem GX.next{w w':World}(h:GX w)(a:Below w.heap.size w w'):GX w':=by obtain⟨i,d,b⟩:=h.Xd;obtain⟨j,e,c⟩:=h.Xe;exact⟨h.aq.next a,sv TG h.Tz (by decide) a,⟨i,d,sv TF b Nat.zero_lt_one a⟩,⟨j,e,sv TE c Nat.zero_lt_one a⟩⟩
theorem QB(n:Nat)(w:World)(a:GX w)(b:n<1000000):
 Calls Tryz.prog 69 #[.int .i64 (n:Int)] w (cN w (.string ⟨(rQ n).toArray⟩)):=by
 refine(Tryz.strconv_Itoa n (by omega) (by omega) w a.Tz).m ?_;rintro e w'⟨rfl,k,os,rfl⟩;refine⟨by rw[uz n b], ?_⟩;exact Lib.below_grow _ w (ag _) k os
theorem QC(w:World)(b:UInt8)(v:Int)(d:v=(b.toNat:Int)):(convert 83 9 (.slice (some ⟨w.heap.size,0,none⟩) 1 1)).run Tryz.prog (w.alloc (.cells #[.int .u8 v] 5))=.ok (.string ⟨[b].toArray⟩) (w.alloc (.cells #[.int .u8 v] 5)):=by
 subst d;have:=run_convert_bytes_back (P:=Tryz.prog) (w.alloc (.cells #[.int .u8 (b.toNat:Int)] 5)) 83 9 5 ⟨w.heap.size,0,none⟩ 1 [b] u83 u5 u9 (fun j a=>by
  have c:j=0:=by simpa using a
  subst c;have:((⟨w.heap.size,0,none⟩:Addr).add 0)=⟨w.heap.size,0,none⟩:=rfl;rw[this];exact bH w _ _ 0 _ rfl)
 exact this
end Go.Proofs.YtlemddnecmmfgaaGreatDoor
namespace Go.Proofs.YtlemddnecmmfgaaGreatDoor
open Go.RowKit
variable{a:Nat}{z:U}{i:World}
abbrev uV(u:U):Value:=.agg #[.string ⟨u.scheme.toArray⟩,.string ⟨u.host.toArray⟩,.int .i64 u.port,.string ⟨u.path.toArray⟩,.string ⟨u.query.toArray⟩,.bool u.hq]
def ma(W:World)(b:Nat)(u:U):Prop:=W.heap[b]? =some (.cells #[.string ⟨u.scheme.toArray⟩,.string ⟨u.host.toArray⟩,.int .i64 u.port,.string ⟨u.path.toArray⟩,.string ⟨u.query.toArray⟩,.bool u.hq] 23)
theorem ma.lt(h:ma i a z):a<i.heap.size:=(aB.1 h).1
theorem ma.next{W W':World}(h:ma W a z)(c:Below W.heap.size W W'):ma W' a z:=(c.block _ h.lt).t h
structure Qm (W:World) (b:Nat) (u:U):Prop where
 c0:W.cell? ⟨b,0,none⟩=some (.string ⟨u.scheme.toArray⟩)
 c1:W.cell? ⟨b,1,none⟩=some (.string ⟨u.host.toArray⟩)
 c2:W.cell? ⟨b,2,none⟩=some (.int .i64 u.port)
 c3:W.cell? ⟨b,3,none⟩=some (.string ⟨u.path.toArray⟩)
 c4:W.cell? ⟨b,4,none⟩=some (.string ⟨u.query.toArray⟩)
 c5:W.cell? ⟨b,5,none⟩=some (.bool u.hq)
theorem ma.cells(h:ma i a z):Qm i a z:=
 ⟨cell_of_row _ _ 0 _ _ _ h,cell_of_row _ _ 1 _ _ _ h,cell_of_row _ _ 2 _ _ _ h,cell_of_row _ _ 3 _ _ _ h,cell_of_row _ _ 4 _ _ _ h,cell_of_row _ _ 5 _ _ _ h⟩
theorem sP(w:World)(u:U):ma (w.alloc (.cells #[.string ⟨u.scheme.toArray⟩,.string ⟨u.host.toArray⟩,.int .i64 u.port,.string ⟨u.path.toArray⟩,.string ⟨u.query.toArray⟩,.bool u.hq] 23)) w.heap.size u:=heap_alloc_new w _
structure xv (u:U):Prop where
 scheme:u.scheme.length≤10000
 host:u.host.length≤10000
 path:u.path.length≤10000
 query:u.query.length≤10000
theorem Ho(a b:Bs):(⟨a.toArray⟩:ByteArray)++⟨b.toArray⟩=⟨(a++b).toArray⟩:=by apply uG;simp
theorem yf(u:U):gU u=u.scheme++[58,47,47]++u.host++(bif u.port==0 then[] else[58]++rQ u.port.toNat)++u.path++(bif u.hq then[63]++u.query else[]):=rfl
theorem CJ(u:U)(w:World)(o:GX w)(G:xv u)(H:0≤u.port∧u.port≤65535):
 Calls Tryz.prog 31 #[uV u] w (cN w (.string ⟨(gU u).toArray⟩)):=by
 obtain⟨h,c,a,pa,d,hq⟩:=u;obtain⟨I,J,K,L⟩:=G;obtain⟨M,N⟩:=H;simp only at I J K L M N;have k:=Lib.hid (yf ⟨h,c,a,pa,d,hq⟩);have r:=Lib.hid (sP w ⟨h,c,a,pa,d,hq⟩);have b:=Lib.hid ((Below.refl w.heap.size w).alloc (ag _) (.cells #[.string ⟨h.toArray⟩,.string ⟨c.toArray⟩,.int .i64 a,.string ⟨pa.toArray⟩,.string ⟨d.toArray⟩,.bool hq] 23));have x:=Lib.hid o;clear o;by_cases j:a=0
 ·subst j;go_enter Tryz.func31,Tryz.ntmps31;cases hq;all_goals
   go_wp2_with fail;go_ret;exact⟨jF (by rw[k.out];simp),b.out⟩
 ·obtain⟨n,rfl⟩:∃n:Nat,a=n:=⟨a.toNat,by omega⟩;have p:((n:Int)==0)=false:=by rw[aL];exact j
  have O:((n:Int)!=0)=true:=by rw[bne_iff_ne];exact j
  have q:=zh 6 5 n (by omega) (by omega);have s:=Lib.hid p;clear p;go_enter Tryz.func31,Tryz.ntmps31;go_wp2_with fail;generalize w.alloc (.cells #[.string ⟨h.toArray⟩,.string ⟨c.toArray⟩,.int .i64 (n:Int),.string ⟨pa.toArray⟩,.string ⟨d.toArray⟩,.bool hq] 23)=W at*;refine(QB n W (x.out.next b.out) (by omega)).m ?_;rintro e R⟨rfl,i⟩;obtain⟨A,B,C,D,E,F⟩:=(r.out.next i).cells;have z:=Lib.hid (b.out.t (i.m b.out.size));clear i;simp only at A B C D E F;have Q:(rQ n).length≤5:=q;generalize l:rQ n=nb at*;have y:=Lib.hid l;clear l q;cases hq;all_goals
   go_wp2_with fail;go_ret;exact⟨jF (by rw[k.out,s.out,Int.toNat_natCast,y.out];simp),z.out⟩
end Go.Proofs.YtlemddnecmmfgaaGreatDoor
namespace Go.Proofs.YtlemddnecmmfgaaGreatDoor
open Go.RowKit
variable{j:Bs}{e a:Nat}{d:TypeId}{z:U}{i:World}
def iz(w:World)(b:Nat)(v:Value)(t:TypeId):Prop:=w.heap[b]? =some (.cells #[v] t)
theorem iz.lt{v:Value}(h:iz i e v d):e<i.heap.size:=(aB.1 h).1
theorem iz.next{w w':World}{v:Value}(h:iz w e v d)(a:Below w.heap.size w w'):iz w' e v d:=(a.block _ h.lt).t h
theorem iz.cell{v:Value}(h:iz i e v d):i.cell? ⟨e,0,none⟩=some v:=cell_of_row _ _ 0 _ _ _ h
theorem iz.free{v:Value}(h:iz i e v d):i.frozen? ⟨e,0,none⟩=false:=frozen_of_row _ _ 0 _ _ h
theorem iz.set{v u:Value}(h:iz i e v d):iz (i.setCell ⟨e,0,none⟩ u) e u d:=by have:=aw (j:=0) (v:=u) h;simpa[iz] using this
theorem iz.other{v u:Value}(h:iz i e v d)(j:e≠a):iz (i.setCell ⟨a,0,none⟩ u) e v d:=(Below.heap_setCell i ⟨a,0,none⟩ u e j).t h
theorem Good.set{v u:Value}(h:Good i)(k:iz i e v d)(j:e≠0):Good (i.setCell ⟨e,0,none⟩ u):=by obtain⟨m,c⟩:=h;exact⟨m,(World.cell?_of_block (a:=⟨0,0,none⟩) (Below.heap_setCell i ⟨e,0,none⟩ u _ (eo j))).t c⟩
structure MI (w0:World) (bg bo:Nat) (of s:ByteArray) (p:UInt8→Bool) (k:Nat) (w:World):Prop where
 aq:Good w
 of:iz w bo (.string of) 9
 at':∃g,iz w bg (.bool g) 4∧(g&&bh p (s.data.toList.drop k))=bh p s.data.toList
 JV:Below w0.heap.size w0 w
theorem MI.step{w w':World}{of s:ByteArray}{p:UInt8→Bool}{k j:Nat}{g g':Bool}(x:MI i e a of s p k w)(b:Below w.heap.size w w')(d:i.heap.size≤e)(o:e≠a)(h:e≠0)(n:iz w e (.bool g) 4)
 (l:(g&&bh p (s.data.toList.drop k))=bh p s.data.toList)(q:(g&&bh p (s.data.toList.drop k))=(g'&&bh p (s.data.toList.drop j))):MI i e a of s p j (w'.setCell ⟨e,0,none⟩ (.bool g')):=by
 have c:=n.next b;exact⟨(x.aq.next b).set c h,(x.of.next b).other (eo o),⟨g',c.set,by rw[←q,l]⟩,(x.JV.t (b.m x.JV.size)).setCell (p:=⟨e,0,none⟩) d _⟩
theorem Mk(H:World)(h q:Nat)(of s:ByteArray)(p:UInt8→Bool)(D:∀c,of.data.toList.contains c=p c)(A:H.heap.size≤h)(C:h≠q)(B:h≠0)(N:of.size≤1000):
 SX 66 #[.pointer (some ⟨h,0,none⟩),.pointer (some ⟨q,0,none⟩)] s (MI H h q of s p):=by
 refine⟨?_, ?_, ?_⟩
 ·intro k w w' x y;obtain⟨g,d,i⟩:=x.at';exact⟨x.aq.next y,x.of.next y,⟨g,d.next y,i⟩,x.JV.t (y.m x.JV.size)⟩
 ·intro k c r w l M x;obtain⟨g,d,i⟩:=x.at';have u:s.data.toList.drop (k+1)=r:=by rw[←fh,l];rfl
  have n:bh p (s.data.toList.drop k)=(p c&&bh p (s.data.toList.drop (k+1))):=by rw[u,l];exact eh M
  have z:=Lib.hid x;have E:=Lib.hid d;have F:=Lib.hid i;have J:=d.cell;have L:=d.free;have K:=x.of.cell;clear d i x l u;show Calls Tryz.prog 66 #[.string ⟨#[c]⟩,.pointer (some ⟨h,0,none⟩),.pointer (some ⟨q,0,none⟩)] w _;cases g
  ·have o:=Lib.hid (z.out.step (Below.refl _ _) A C B E.out F.out (show(false&&bh p (s.data.toList.drop k))=(false&&bh p (s.data.toList.drop (k+1))) from rfl));clear n;go_enter Tryz.func66,Tryz.ntmps66;go_wp2_with fail
   go_end0
   exact⟨rfl,o.out⟩
  ·have o:=Lib.hid (z.out.step (g':=p c) (j:=k+1) (Below.refl _ _) A C B E.out F.out (by rw[n,aaP]));have I:=Lib.hid (D c);clear n D;go_enter Tryz.func66,Tryz.ntmps66;go_wp2_with fail;refine(nn of ⟨#[c]⟩ w z.out.aq (by omega)).m ?_;rintro e O⟨rfl,rfl⟩;rw[show Lib.contains of.data.toList (⟨#[c]⟩:ByteArray).data.toList=p c from(De _ _).t I.out];go_wp2_with fail
   go_end0
   exact⟨rfl,o.out⟩
 ·intro k a b r w l G x;obtain⟨g,d,i⟩:=x.at';have u:s.data.toList.drop (k+3)=r:=by rw[←fh,l];rfl
  have n:bh p (s.data.toList.drop k)=bh p (s.data.toList.drop (k+3)):=by rw[u,l];rw[iR,G];rfl
  have o:=Lib.hid (x.step (Below.refl _ _) A C B d i (show(g&&bh p (s.data.toList.drop k))=(g&&bh p (s.data.toList.drop (k+3))) by rw[n]));have J:=d.cell;have L:=d.free;have K:=x.of.cell;clear d i x l u n D G;show Calls Tryz.prog 66 #[.string ⟨#[37,a,b]⟩,.pointer (some ⟨h,0,none⟩),.pointer (some ⟨q,0,none⟩)] w _;cases g;all_goals
   go_enter Tryz.func66,Tryz.ntmps66;go_wp2_with fail
   go_end0
   exact⟨rfl,o.out⟩
theorem FE(s of:ByteArray)(p:UInt8→Bool)(u:∀c,of.data.toList.contains c=p c)(w:World)(n:Good w)(y:s.size≤1000000)(t:of.size≤1000):
 Calls Tryz.prog 29 #[.string s,.string of] w (cN w (.bool (bh p s.data.toList))):=by
 have b:=Lib.hid (jG w (.cells #[.string of] 9) (.cells #[.bool true] 4));have A:=n.lt;have r:=Lib.hid n;clear n;go_enter Tryz.func29,Tryz.ntmps29;go_wp2_with fail;generalize(w.alloc (.cells #[.string of] 9)).alloc (.cells #[.bool true] 4)=W at*;have l:MI w (w.heap.size+1) w.heap.size of s p 0 W:=⟨r.out.next b.out.below,b.out.b1,⟨true,b.out.b2,by rw[List.drop_zero,aaP]⟩,b.out.below⟩;refine(CG _ _ s _ (Mk w (w.heap.size+1) w.heap.size of s p u (by omega) (by omega) (by omega) t) W l y).m ?_;rintro e B(⟨a,rfl,x⟩|⟨a,rfl,k,x⟩)
 ·obtain⟨g,o,j⟩:=x.at';have z:=o.cell;rw[←bj,List.drop_length] at j;have d:=Lib.hid (show g=bh p s.data.toList by rw[←j];cases g<;>rfl);have i:=Lib.hid x.JV;clear o j x a l;go_wp2_with fail;go_ret;exact⟨cq d.out,i.out⟩
 ·have d:=Lib.hid (show bh p s.data.toList=false by
   cases h:bh p s.data.toList
   ·rfl
   ·have:=rO (q:=fun _=>true) (fun _ _=>rfl) h;unfold js at a;rw[this] at a;cases a)
  have i:=Lib.hid x.JV;clear x a l;go_wp2_with fail;go_ret;exact⟨cq d.out.symm,i.out⟩
end Go.Proofs.YtlemddnecmmfgaaGreatDoor
namespace Go.Proofs.YtlemddnecmmfgaaGreatDoor
open Go.RowKit
variable{j:Bs}{e a:Nat}{d:TypeId}{z:U}{i:World}
theorem indexB(l:Bs)(c:UInt8):Lib.indexByte l c=if l.contains c then(lead (·!=c) l:Int) else-1:=by rw[←Lib.index_one,iG]
theorem eO(s:ByteArray)(c:UInt8)(w:World):
 Calls Tryz.prog 30 #[.string s,.int .u8 (c.toNat:Int)] w fun e w'=>e=.returned (.int .i64 (if s.data.toList.contains c then(lead (·!=c) s.data.toList:Int) else-1))∧w=w':=by
 refine(Tryz.strings_IndexByte s (c.toNat:Int) w).m ?_;rintro e w'⟨rfl,rfl⟩;refine⟨?_,rfl⟩;have:((c.toNat:Int)).toNat.toUInt8=c:=by rw[Int.toNat_natCast];exact UInt8.ofNat_toNat
 rw[this,indexB]
theorem cV(h:gK z=false):aQ z=4:=by unfold aQ;rw[h];rfl
theorem yV(h:gK z=true)(a:ee<(gU z).length):aQ z=3:=by unfold aQ;rw[h,cL (by omega)];rfl
theorem yW(h:gK z=true)(a:(gU z).length≤ee):aQ z=0:=by unfold aQ;rw[h,bN a];rfl
theorem IX(a:¬z.scheme=my)(b:¬z.scheme=ir):gK z=false:=by
 cases h:gK z
 ·rfl
 ·rcases((ef z).1 h).scheme with e|e
  ·exact(a e).elim
  ·exact(b e).elim
theorem FF{u:U}(h:¬(1≤u.host.length∧u.host.length≤253)):gK u=false:=by
 cases a:gK u
 ·rfl
 ·exact(h ((ef u).1 a).hlen).elim
theorem Bp{u:U}(h:u.host.all mh=false):gK u=false:=by
 cases a:gK u
 ·rfl
 ·rw[((ef u).1 a).host] at h;cases h
theorem yU{u:U}(h:¬(0≤u.port∧u.port≤65535)):gK u=false:=by
 cases a:gK u
 ·rfl
 ·exact(h ((ef u).1 a).port).elim
theorem tj{u:U}(h:jE u.path=false):gK u=false:=by unfold gK;rw[h];simp
theorem Qn{u:U}(a:u.hq=false)(b:¬u.query=[]):gK u=false:=by
 cases c:gK u
 ·rfl
 ·rcases((ef u).1 c).query with e|e
  ·rw[a] at e;cases e
  ·exact(b e).elim
theorem Bq{u:U}(h:bh mB u.query=false):gK u=false:=by
 cases a:gK u
 ·rfl
 ·rw[((ef u).1 a).made] at h;cases h
theorem tm(a:Bs)(w:World)(b:a.length≤1000000):Calls Tryz.prog 27 #[.string ⟨a.toArray⟩,.string ⟨dA.toArray⟩] w (cN w (.string ⟨(Lib.trimS a dA).toArray⟩)):=
 XM ⟨a.toArray⟩ _ w (by show a.length≤_;omega) (by decide) (ascii_of_all (by decide))
theorem Br(h:j.all mh=true):Lib.trimS j dA=[]:=by have:=mX j dA;rw[od,h] at this;exact eq_of_beq this
theorem tq(h:j.all mh=false):(Lib.trimS j dA).isEmpty=false:=by
 have:=mX j dA;rw[od,h] at this;cases hq:Lib.trimS j dA with
 |nil=>rw[hq] at this;cases this
 |cons a b=>rfl
theorem FG(s:Bs)(w:World)(a:Good w)(b:s.length≤1000000):Calls Tryz.prog 29 #[.string ⟨s.toArray⟩,.string ⟨wE.toArray⟩] w (cN w (.bool (bh mi s))):=
 FE ⟨s.toArray⟩ ⟨wE.toArray⟩ mi (fun c=>congrFun IY c) w a b (by decide)
theorem qq(s:Bs)(w:World)(a:Good w)(b:s.length≤1000000):Calls Tryz.prog 29 #[.string ⟨s.toArray⟩,.string ⟨yX.toArray⟩] w (cN w (.bool (bh mB s))):=
 FE ⟨s.toArray⟩ ⟨yX.toArray⟩ mB (fun c=>congrFun FH c) w a b (by decide)
theorem sQ(u:U)(w:World)(a:¬u.scheme=my)(b:¬u.scheme=ir):
 Calls Tryz.prog 14 #[uV u] w (cN w (.int .i64 (aQ u))):=by
 have c:=Lib.hid (cV (IX a b));have d:=Lib.hid ((Below.refl w.heap.size w).alloc (ag _) (.cells #[.string ⟨u.scheme.toArray⟩,.string ⟨u.host.toArray⟩,.int .i64 u.port,.string ⟨u.path.toArray⟩,.string ⟨u.query.toArray⟩,.bool u.hq] 23));have e:¬u.scheme=[104,116,116,112]:=a;have h:(!u.scheme==[104,116,116,112])=true:=by rw[aaU,aL];exact a
 have i:(!u.scheme==[104,116,116,112,115])=true:=by rw[aaU,aL];exact b
 clear a b;go_enter Tryz.func14,Tryz.ntmps14;go_wp2_with fail;go_ret;exact⟨bW c.out.symm,d.out⟩
end Go.Proofs.YtlemddnecmmfgaaGreatDoor
namespace Go.Proofs.YtlemddnecmmfgaaGreatDoor
open Go.Lib
structure bQ where
 name:Bs
 val:Bs
 place:Int
deriving DecidableEq
structure Tok where
 kind:Int
 name:Bs
 attrs:List bQ
 text:Bs
 src:Nat
 bJ:Nat
inductive Nd where
 |mk (kind place:Int) (text:Bs) (attrs:List bQ) (kids:List Nd)
def Nd.kind:Nd→Int|.mk k _ _ _ _=>k
def Nd.place:Nd→Int|.mk _ p _ _ _=>p
def Nd.text:Nd→Bs|.mk _ _ t _ _=>t
def Nd.attrs:Nd→List bQ|.mk _ _ _ a _=>a
def Nd.kids:Nd→List Nd|.mk _ _ _ _ l=>l
def ny:Nd:=.mk 0 0 [] [] []
theorem Nd.eta(n:Nd):n=.mk n.kind n.place n.text n.attrs n.kids:=by cases n;rfl
inductive Lx (α:Type) where
 |aq (x:α) (to_:Nat)
 |bad (place:Nat) (e:Int)
def mo(c:UInt8):Bool:=decide (97≤c.toNat∧c.toNat≤122)
def db(s:Bs)(i:Nat):Nat:=lead mo (s.drop i)
def eY:Bs:=[60,101,115,105,58]
def bD:Bs:=[60,47,101,115,105,58]
def jv:Bs:=[60,33,45,45,101,115,105]
def oJ:Bs:=[45,45,62]
def eJ:Bs:=[105,110,99,108,117,100,101]
def cF:Bs:=[105,110,108,105,110,101]
def bS:Bs:=[114,101,109,111,118,101]
def gz:Bs:=[99,111,109,109,101,110,116]
def zt:Bs:=[116,114,121]
def iW:Bs:=[97,116,116,101,109,112,116]
def lK:Bs:=[101,120,99,101,112,116]
def XI:Bs:=[99,104,111,111,115,101]
def Aa:Bs:=[119,104,101,110]
def kQ:Bs:=[111,116,104,101,114,119,105,115,101]
def Vz:Bs:=[118,97,114,115]
def elems:List Bs:=[eJ,cF,bS,gz,zt,iW,lK,XI,Aa,kQ,Vz]
def fU(s:Bs)(tag i:Nat)(l:List bQ):Lx bQ:=
 let nm:=(s.drop i).take (min 16 (db s i));let j:=i+nm.length
 if l.any (fun b=>nm==b.name) then .bad i 12 else
 match s.drop j with
 |[]=>.bad tag 14
 |c::r=>
  if c==61&& !nm.isEmpty then
   match r with
   |[]=>.bad tag 14
   |m::q=>
    if m==34||m==39 then
     (if q.contains m then .aq ⟨nm,upto m q,(i:Int)⟩ (j+2+(upto m q).length+1) else .bad tag 14)
    else .bad (j+1) 12
  else .bad j 12
def cE(s:Bs)(tag:Nat):Nat→Nat→List bQ→Lx (List bQ)
 |0,_,_=>.bad 0 0
 |k+1,i,l=>
  let j:=pa s i
  match s.drop j with
  |[]=>.bad tag 14
  |c::_=>
   if c==62||c==47 then .aq l j
   else if j==i then .bad i 12
   else match fU s tag j l with
    |.bad p e=>.bad p e
    |.aq a t=>cE s tag k t (l++[a])
def GO(s:Bs)(i j:Nat):Bs:=(s.drop i).take (j-i)
def cS(s:Bs)(k:Int)(nm:Bs)(l:List bQ)(i j:Nat):Tok:=⟨k,nm,l,GO s i j,i,j⟩
def gv(s:Bs)(tag:Nat)(nm:Bs)(l:List bQ)(k:Int)(j:Nat):Lx Tok:=
 match s.drop j with
 |[]=>.bad tag 14
 |c::_=>if c==62 then .aq (cS s k nm l tag (j+1)) (j+1) else .bad j 12
def qw(s:Bs)(tag:Nat)(nm:Bs)(i:Nat):Lx Tok:=
 match cE s tag (s.length+1) i [] with
 |.bad p e=>.bad p e
 |.aq l j=>if(s.drop j).head?==some 47 then gv s tag nm l 3 (j+1) else gv s tag nm l 2 j
def iU(s:Bs)(nm:Bs)(tag i:Nat):Lx Tok:=
 let r:=s.drop i;let n:=index r (bD++nm)
 if n<0 then .bad tag 14
 else
  let k:=index (r.take n.toNat) eY
  if 0≤k∧nm=bS then .bad (i+k.toNat) 13
  else .aq (cS s 7 [] [] i (i+n.toNat)) (i+n.toNat)
def dB(s:Bs)(tag:Nat):Lx (List Tok):=
 let i:=tag+5;let n:=db s i;let nm:=(s.drop i).take n
 if elems.contains nm then
  match qw s tag nm (i+n) with
  |.bad p e=>.bad p e
  |.aq t j=>
   if t.kind=2∧(nm=bS∨nm=cF) then
    match iU s nm tag j with
    |.bad p e=>.bad p e
    |.aq r m=>.aq [t,r] m
   else .aq [t] j
 else .bad tag 11
def de(s:Bs)(tag:Nat):Lx (List Tok):=
 let i:=tag+6;let n:=db s i;let nm:=(s.drop i).take n
 if elems.contains nm then
  match s.drop (pa s (i+n)) with
  |[]=>.bad tag 14
  |c::_=>if c==62 then .aq [cS s 4 nm [] tag (pa s (i+n)+1)] (pa s (i+n)+1) else .bad tag 11
 else .bad tag 11
def dw(r:Bs)(hid:Bool):Nat:=
 if hasPrefix r eY then 1
 else if hasPrefix r bD then 2
 else if hasPrefix r jv&&((r.drop 7).head?.map mE).getD false then 3
 else if hasPrefix r oJ&&hid then 4
 else 0
def fq(s:Bs)(k i:Nat)(hid:Option Nat):Lx (List Tok×Option Nat):=
 if k=1 then match dB s i with|.bad p e=>.bad p e|.aq l j=>.aq (l,hid) j
 else if k=2 then match de s i with|.bad p e=>.bad p e|.aq l j=>.aq (l,hid) j
 else if k=3 then(if hid.isSome then .bad i 13 else .aq ([cS s 5 [] [] i (i+8)],some i) (i+8))
 else .aq ([cS s 6 [] [] i (i+3)],none) (i+3)
def dc(s:Bs)(src i:Nat):List Tok:=if src<i then[cS s 1 [] [] src i] else[]
def gS(s:Bs):Nat→Nat→Nat→Option Nat→List Tok→Lx (List Tok)
 |0,_,_,_,_=>.bad 0 0
 |f+1,src,i,hid,l=>
  if i<s.length then
   let k:=dw (s.drop i) hid.isSome
   if k=0 then gS s f src (i+1) hid l
   else match fq s k i hid with
    |.bad p e=>.bad p e
    |.aq x j=>gS s f j j x.2 (l++dc s src i++x.1)
  else match hid with
   |some h=>.bad h 14
   |none=>.aq (l++dc s src i) i
def lexB(s:Bs):Lx (List Tok):=gS s (s.length+1) 0 0 none []
def kindOf(nm:Bs):Int:=
 if nm=eJ then 3 else if nm=cF then 4 else if nm=bS then 5 else if nm=gz then 6 else if nm=zt then 7
 else if nm=iW then 8 else if nm=lK then 9 else if nm=XI then 10 else if nm=Aa then 11 else if nm=kQ then 12 else 13
def lC:Bs:=[115,114,99]
def lD:Bs:=[97,108,116]
def dj:Bs:=[111,110,101,114,114,111,114]
def kO:Bs:=[110,97,109,101]
def eN:Bs:=[102,101,116,99,104,97,98,108,101]
def qH:Bs:=[116,101,120,116]
def gT:Bs:=[116,101,115,116]
def iJ:Bs:=[99,111,110,116,105,110,117,101]
def Da:Bs:=[121,101,115]
def Tm:Bs:=[110,111]
def aE(k:Int):List Bs×Nat:=
 if k=3 then([lC,lD,dj],1) else if k=4 then([kO,eN],1) else if k=6 then([qH],1) else if k=11 then([gT],1) else([],0)
def lJ(nm v:Bs):Bool:=
 if nm=dj then v==iJ else if nm=eN then v==Da||v==Tm else if nm=qH then true else !v.isEmpty
def Xs(n:Nd):Int:=match n.kids.getLast? with|none=>0|some x=>x.kind
def oy(a:Nd)(k:Int):Bool:=
 if a.kind=7 then decide (k=8∧Xs a=0∨k=9∧Xs a=8)
 else if a.kind=10 then decide (k=11∧Xs a≠12∨k=12∧Xs a=11)
 else !decide (k=8∨k=9∨k=11∨k=12)
def fV(n k:Nd):Nd:=.mk n.kind n.place n.text n.attrs (n.kids++[k])
def vN(n:Nd)(t:Bs):Nd:=.mk n.kind n.place t n.attrs n.kids
def mD(a b:Option (Nat×Int)):Option (Nat×Int):=match a with|some x=>some x|none=>b
def fW:List (Option (Nat×Int))→Option (Nat×Int)
 |[]=>none
 |some x::_=>some x
 |none::r=>fW r
def qZ(k:Int)(t:Tok):Option (Nat×Int):=
 mD (fW (((aE k).1.take (aE k).2).map fun nm=>if t.attrs.any (fun a=>a.name==nm) then none else some (t.src,12)))
  (fW (t.attrs.map fun a=>if(aE k).1.contains a.name&&lJ a.name a.val then none else some (a.place.toNat,12)))
structure rf where
 top:Nd
 below:List Nd
inductive Px where
 |aq (x:rf)
 |bad (place:Nat) (e:Int)
def px(e:Option (Nat×Int))(x:rf):Px:=match e with|none=>.aq x|some p=>.bad p.1 p.2
def BL(x:rf)(t:Tok):Px:=
 let k:=kindOf t.name;let empty:=decide (k=3∨k=6);let a:=if(empty !=decide (t.kind=3))|| !oy x.top k then some (t.src,(13:Int)) else none;let b:=if 16<x.below.length+1 then some (t.src,(3:Int)) else none;let n:=Nd.mk k t.src [] t.attrs []
 px (mD (mD a b) (qZ k t)) (if empty then⟨fV x.top n,x.below⟩ else⟨n,x.top::x.below⟩)
def Jo(x:rf)(t:Tok):Px:=
 let a:=if oy x.top 14 then none else some (t.src,(13:Int));let b:=if 16<x.below.length+1 then some (t.src,(3:Int)) else none
 px (mD a b) ⟨.mk 14 t.src [] [] [],x.top::x.below⟩
def Q9(x:rf)(t:Tok):Px:=
 let k:=if t.kind=4 then kindOf t.name else 14
 if x.top.kind≠k∨(k=7∧Xs x.top≠9)∨(k=10∧Xs x.top=0) then .bad t.src 13
 else match x.below with
  |[]=>.bad 0 0
  |y::r=>.aq ⟨fV y x.top,r⟩
def Dv(x:rf)(t:Tok):Px:=
 if x.top.kind≠7∧x.top.kind≠10 then .aq ⟨fV x.top (.mk 2 t.src t.text [] []),x.below⟩
 else match t.text.dropWhile mE with
  |[]=>.aq x
  |c::r=>.bad (t.bJ-(c::r).length) 13
def lM(x:rf)(t:Tok):Px:=
 if t.kind=1 then Dv x t else if t.kind=7 then .aq ⟨vN x.top t.text,x.below⟩
 else if t.kind=2∨t.kind=3 then BL x t else if t.kind=5 then Jo x t else Q9 x t
def fX:rf→List Tok→Px
 |x,[]=>.aq x
 |x,t::r=>match lM x t with|.bad p e=>.bad p e|.aq y=>fX y r
def lN:Nd:=.mk 1 0 [] [] []
def gW(s:Bs):Nd×Nat×Int:=
 if 65536<s.length then(ny,65536,3)
 else match lexB s with
  |.bad p e=>(ny,p,e)
  |.aq l _=>match fX ⟨lN,[]⟩ l with
   |.bad p e=>(ny,p,e)
   |.aq x=>if x.below.isEmpty then(x.top,0,0) else(ny,s.length,14)
variable{b a:Bs}{i:Int}{d l:Nat}{e:Option (Nat×Int)}{j:Prop}{B:Tok}{n:UInt8}{q:rf}
def oH{a:Type}(n i:Nat):Lx a→Prop
 |.aq _ t=>i<t∧t≤n
 |.bad p e=>p≤n∧(e=11∨e=12∨e=13∨e=14)
theorem oH.m{a:Type}{n i j:Nat}{x:Lx a}(h:oH n i x)(b:j≤i):oH n j x:=by
 cases x with
 |aq x t=>exact⟨by have:=h.1;omega,h.2⟩
 |bad p e=>exact h
theorem drop_cons(h:b.drop d=n::a):d+a.length+1=b.length:=by have:=congrArg List.length h;rw[bK,bF] at this;omega
theorem tK(h:b.drop d=n::a):b.drop (d+1)=a:=by rw[←fh,h];rfl
theorem ku(h:b.drop d=n::a):d<b.length:=by have:=drop_cons h;omega
theorem tL{s:Bs}{tag i:Nat}{l:List bQ}(a:tag≤s.length)(e:i≤s.length):oH s.length i (fU s tag i l):=by
 have h:i+((s.drop i).take (min 16 (db s i))).length≤s.length:=by rw[gu,bK];omega
 unfold fU;dsimp only;split
 ·exact⟨e,.inr (.inl rfl)⟩
 split
 ·exact⟨a,.inr (.inr (.inr rfl))⟩
 rename_i c r d;have b:=drop_cons d;split
 ·split
  ·exact⟨a,.inr (.inr (.inr rfl))⟩
  rename_i m q;simp only[bF] at b;split
  ·split
   ·rename_i hq;have:=vV hq;exact⟨by omega,by omega⟩
   ·exact⟨a,.inr (.inr (.inr rfl))⟩
  ·exact⟨by omega,.inr (.inl rfl)⟩
 ·exact⟨h,.inr (.inl rfl)⟩
theorem sf{s:Bs}{tag:Nat}(m:tag≤s.length):∀(f i:Nat) (l:List bQ),i≤s.length→s.length<i+f→
 match cE s tag f i l with|.aq _ j=>i≤j∧j<s.length∧∃c r,s.drop j=c::r∧(c=62∨c=47)|.bad p e=>p≤s.length∧(e=11∨e=12∨e=13∨e=14)
 |0,i,l,k,y=>by omega
 |f+1,i,l,k,y=>by
  unfold cE;dsimp only;have z:=jP s k;cases n:s.drop (pa s i) with
  |nil=>exact⟨m,.inr (.inr (.inr rfl))⟩
  |cons c r=>
   have u:=ku n;dsimp only;by_cases d:(c==62||c==47)=true
   ·rw[ah d];refine⟨z,u,c,r,n, ?_⟩;rw[wH,bZ,bZ] at d;exact d
   ·rw[ae d];by_cases q:(pa s i==i)=true
    ·rw[ah q];exact⟨k,.inr (.inl rfl)⟩
    ·rw[ae q];have b:=tL (s:=s) (tag:=tag) (i:=pa s i) (l:=l) m (om u);cases o:fU s tag (pa s i) l with
     |bad p e=>rw[o] at b;exact b
     |aq a t=>
      rw[o] at b;have w:=sf m f t (l++[a]) b.2 (by have:=b.1;omega);have A:=b.1;dsimp only;revert w;cases cE s tag f t (l++[a]) with
      |bad p e=>exact id
      |aq x j=>exact fun h=>⟨by have:=h.1;omega,h.2⟩
theorem uM{l:List bQ}{j:Nat}(m:d≤b.length)(h:j≤b.length):oH b.length j (gv b d a l i j):=by
 unfold gv;split
 ·exact⟨m,.inr (.inr (.inr rfl))⟩
 rename_i c r e;have:=drop_cons e;split
 ·exact⟨by omega,by omega⟩
 ·exact⟨h,.inr (.inl rfl)⟩
theorem wT{s:Bs}{tag:Nat}{nm:Bs}{i:Nat}(a:tag≤s.length)(c:i≤s.length):oH s.length i (qw s tag nm i):=by
 have h:=sf a (s.length+1) i [] c (by omega);unfold qw;revert h;cases cE s tag (s.length+1) i [] with
 |bad p e=>exact id
 |aq l j=>
  intro h;have b:=h.1;have d:=h.2.1;dsimp only;split
  ·exact(uM a (by omega)).m (by omega)
  ·exact(uM a (by omega)).m b
theorem wU{s nm:Bs}{tag i:Nat}(h:tag≤s.length)(j:i≤s.length):match iU s nm tag i with|.aq _ t=>i≤t∧t≤s.length|.bad p e=>p≤s.length∧(e=11∨e=12∨e=13∨e=14):=by
 unfold iU;dsimp only;by_cases b:index (s.drop i) (bD++nm)<0
 ·rw[ah b];exact⟨h,.inr (.inr (.inr rfl))⟩
 ·rw[ae b];have d:=index_room (s.drop i) (bD++nm) (by omega);rw[bK] at d;by_cases a:0≤index ((s.drop i).take (index (s.drop i) (bD++nm)).toNat) eY∧nm=bS
  ·rw[ah a];have c:=index_room ((s.drop i).take (index (s.drop i) (bD++nm)).toNat) eY a.1;rw[gu,bK] at c;exact⟨by omega,.inr (.inr (.inl rfl))⟩
  ·rw[ae a];exact⟨by omega,by omega⟩
theorem iI(s:Bs)(h:d≤s.length):d+db s d≤s.length:=by have:=iV mo (s.drop d);rw[bK] at this;unfold db;omega
theorem Ko(h:d+5≤b.length):oH b.length d (dB b d):=by
 unfold dB;dsimp only;split
 ·have a:=wT (s:=b) (tag:=d) (nm:=(b.drop (d+5)).take (db b (d+5))) (i:=d+5+db b (d+5)) (by omega) (iI b h);cases k:qw b d ((b.drop (d+5)).take (db b (d+5))) (d+5+db b (d+5)) with
  |bad p e=>rw[k] at a;exact a
  |aq t j=>
   rw[k] at a;have o:=a.1;have n:=a.2;dsimp only;split
   ·have c:=wU (s:=b) (nm:=(b.drop (d+5)).take (db b (d+5))) (tag:=d) (i:=j) (by omega) a.2;cases l:iU b ((b.drop (d+5)).take (db b (d+5))) d j with
    |bad p e=>rw[l] at c;exact c
    |aq x m=>rw[l] at c;exact⟨by have:=c.1;omega,c.2⟩
   ·exact⟨by omega,n⟩
 ·exact⟨by omega,.inl rfl⟩
theorem wV(h:d+6≤b.length):oH b.length d (de b d):=by
 unfold de;dsimp only;split
 ·split
  ·exact⟨by omega,.inr (.inr (.inr rfl))⟩
  rename_i c r a;have e:=drop_cons a;have i:=jP b (iI b h);split
  ·exact⟨by omega,by omega⟩
  ·exact⟨by omega,.inl rfl⟩
 ·exact⟨by omega,.inl rfl⟩
theorem wW(h:hasPrefix (b.drop d) a=true)(c:d≤b.length):d+a.length≤b.length:=by have:=gL h;rw[bK] at this;omega
theorem pS{s:Bs}{hid:Bool}(j:d<s.length):(dw (s.drop d) hid=1→d+5≤s.length)∧(dw (s.drop d) hid=2→d+6≤s.length)∧(dw (s.drop d) hid=3→d+8≤s.length)∧(dw (s.drop d) hid=4→d+3≤s.length)∧dw (s.drop d) hid≤4:=by
 unfold dw;split
 ·rename_i h;have:=wW h (by omega);exact⟨fun _=>this,fun h=>(by omega),fun h=>(by omega),fun h=>(by omega),by omega⟩
 split
 ·rename_i h;have:=wW h (by omega);exact⟨fun h=>(by omega),fun _=>this,fun h=>(by omega),fun h=>(by omega),by omega⟩
 split
 ·rename_i h;rw[cW] at h;have e:d+8≤s.length:=by
   have a:=h.2;cases b:(s.drop d).drop 7 with
   |nil=>rw[b] at a;cases a
   |cons c r=>have:=congrArg List.length b;rw[bK,bK,bF] at this;omega
  exact⟨fun h=>(by omega),fun h=>(by omega),fun _=>e,fun h=>(by omega),by omega⟩
 split
 ·rename_i h;rw[cW] at h;have:=wW h.1 (by omega);exact⟨fun h=>(by omega),fun h=>(by omega),fun h=>(by omega),fun _=>this,by omega⟩
 ·exact⟨fun h=>(by omega),fun h=>(by omega),fun h=>(by omega),fun h=>(by omega),by omega⟩
theorem mH{s:Bs}{hid:Option Nat}(q:d<s.length)(r:dw (s.drop d) hid.isSome≠0):oH s.length d (fq s (dw (s.drop d) hid.isSome) d hid):=by
 obtain⟨h,m,n,o,t⟩:=pS (s:=s) (hid:=hid.isSome) q;generalize dw (s.drop d) hid.isSome=k at*;unfold fq;by_cases a:k=1
 ·rw[ah a];have:=Ko (h a);revert this;cases dB s d with
  |bad p e=>exact id
  |aq l j=>exact id
 rw[ae a];by_cases b:k=2
 ·rw[ah b];have:=wV (m b);revert this;cases de s d with
  |bad p e=>exact id
  |aq l j=>exact id
 rw[ae b];by_cases c:k=3
 ·rw[ah c];have:=n c;cases hid with
  |none=>exact⟨by omega,this⟩
  |some x=>exact⟨by omega,.inr (.inr (.inl rfl))⟩
 rw[ae c];have:=o (by omega);exact⟨by omega,this⟩
theorem MV{hid:Option Nat}{x:List Tok×Option Nat}{j:Nat}(h:fq b l d hid=.aq x j):x.2=hid∨x.2=none∨x.2=some d:=by
 unfold fq at h;split at h
 ·split at h
  ·cases h
  ·cases h;exact .inl rfl
 split at h
 ·split at h
  ·cases h
  ·cases h;exact .inl rfl
 split at h
 ·split at h
  ·cases h
  ·cases h;exact .inr (.inr rfl)
 ·cases h;exact .inr (.inl rfl)
theorem qW(s:Bs):∀(f src i:Nat) (hid:Option Nat) (l:List Tok),i≤s.length→s.length<i+f→(∀x,hid=some x→x≤s.length)→
 match gS s f src i hid l with|.aq _ j=>j=s.length|.bad p e=>p≤s.length∧(e=11∨e=12∨e=13∨e=14)
 |0,src,i,hid,l,n,o,c=>by omega
 |f+1,src,i,hid,l,n,o,c=>by
  unfold gS;by_cases d:i<s.length
  ·rw[ah d];dsimp only;by_cases m:dw (s.drop i) hid.isSome=0
   ·rw[ah m];exact qW s f _ _ _ _ d (by omega) c
   ·rw[ae m];have a:=mH d m;cases k:fq s (dw (s.drop i) hid.isSome) i hid with
    |bad p e=>rw[k] at a;exact a
    |aq x j=>
     rw[k] at a;dsimp only;refine qW s f _ _ _ _ a.2 (by have:=a.1;omega) fun y b=> ?_;rcases MV k with h|h|h
     ·exact c y (by rw[←h];exact b)
     ·rw[h] at b;cases b
     ·rw[h] at b;cases b;exact n
  ·rw[ae d];cases hid with
   |some x=>exact⟨c x rfl,.inr (.inr (.inr rfl))⟩
   |none=>show i=s.length;omega
theorem C4(s:Bs):match lexB s with|.aq _ j=>j=s.length|.bad p e=>p≤s.length∧(e=11∨e=12∨e=13∨e=14):=
 qW s _ _ _ _ _ (aH _) (by omega) fun x h=>by cases h
def QV:Nd→List Nd→Prop
 |top,[]=>top.kind=1
 |_,y::r=>QV y r
theorem BC{a b:Nd}(h:a.kind=b.kind):∀{l:List Nd},QV a l→QV b l
 |[],c=>by show b.kind=1;rw[←h];exact c
 |_::_,c=>c
def acP(n:Nat):Px→Prop
 |.aq y=>QV y.top y.below
 |.bad p e=>p≤n∧(e=3∨e=12∨e=13)
structure abL (n:Nat) (t:Tok):Prop where
 src:t.src≤n
 bJ:t.bJ≤n
 at_:∀a∈t.attrs,a.place.toNat≤n
theorem Kp(nm:Bs):3≤kindOf nm∧kindOf nm≤13:=by unfold kindOf;repeat(first|omega|split)
def aaY(n:Nat)(o:Option (Nat×Int)):Prop:=∀p,o=some p→p.1≤n∧(p.2=3∨p.2=12∨p.2=13)
theorem abI{b:Option (Nat×Int)}(c:aaY d e)(h:aaY d b):aaY d (mD e b):=by
 cases e with
 |none=>exact h
 |some x=>exact c
theorem aby{l:List (Option (Nat×Int))}(h:∀o∈l,aaY d o):aaY d (fW l):=by
 induction l with
 |nil=>intro p h;cases h
 |cons o r b=>
  cases o with
  |some x=>exact h (some x) (by simp)
  |none=>exact b fun o a=>h o (by simp[a])
theorem acx [Decidable j](h:l≤d)(a:i=3∨i=12∨i=13):aaY d (if j then none else some (l,i)):=by
 split
 ·intro q h;cases h
 ·intro q hq;cases hq;exact⟨h,a⟩
theorem abX [Decidable j](h:l≤d)(a:i=3∨i=12∨i=13):aaY d (if j then some (l,i) else none):=by
 split
 ·intro q hq;cases hq;exact⟨h,a⟩
 ·intro q h;cases h
theorem acM(h:aaY d e)(a:QV q.top q.below):acP d (px e q):=by
 cases e with
 |none=>exact a
 |some p=>exact h p rfl
theorem acn(c:abL d B):aaY d (qZ i B):=by
 unfold qZ;refine abI (aby fun o b=> ?_) (aby fun o b=> ?_)
 ·obtain⟨nm,_,rfl⟩:=qE.1 b;exact acx c.src (.inr (.inl rfl))
 ·obtain⟨a,e,rfl⟩:=qE.1 b;exact acx (c.at_ a e) (.inr (.inl rfl))
theorem acF(i:abL d B)(c:QV q.top q.below):acP d (lM q B):=by
 unfold lM;split
 ·unfold Dv;split
  ·exact BC (a:=q.top) (b:=fV q.top (.mk 2 B.src B.text [] [])) rfl c
  ·split
   ·exact c
   ·exact⟨by have:=i.bJ;omega,.inr (.inr rfl)⟩
 split
 ·exact BC (a:=q.top) (b:=vN q.top B.text) rfl c
 split
 ·unfold BL;dsimp only;refine acM (abI (abI (abX i.src (.inr (.inr rfl))) (abX i.src (.inl rfl))) (acn i)) ?_;split
  ·exact BC (a:=q.top) (b:=fV q.top (.mk (kindOf B.name) B.src [] B.attrs [])) rfl c
  ·exact c
 split
 ·unfold Jo;dsimp only;exact acM (abI (acx i.src (.inr (.inr rfl))) (abX i.src (.inl rfl))) c
 ·unfold Q9;have s:∀k:Int,k=14∨(3≤k∧k≤13)→k≠1:=fun k h=>by omega
  generalize o:(if B.kind=4 then kindOf B.name else 14)=k;have m:k≠1:=by rw[←o];have:=Kp B.name;split<;>omega
  dsimp only;by_cases j:q.top.kind≠k∨(k=7∧Xs q.top≠9)∨(k=10∧Xs q.top=0)
  ·rw[ah j];exact⟨i.src,.inr (.inr rfl)⟩
  ·rw[ae j];obtain⟨p,below⟩:=q;cases below with
   |nil=>exact absurd (.inl fun e=>m (e▸c)) j
   |cons y r=>exact BC (a:=y) (b:=fV y p) (l:=r) rfl c
theorem abo{n:Nat}:∀{l:List Tok} {x:rf},(∀t∈l,abL n t)→QV x.top x.below→acP n (fX x l)
 |[],x,_,a=>a
 |t::r,x,b,a=>by
  have h:=acF (b t (by simp)) a;unfold fX;revert h;cases lM x t with
  |bad p e=>exact id
  |aq y=>exact fun h=>abo (fun u c=>b u (by simp[c])) h
