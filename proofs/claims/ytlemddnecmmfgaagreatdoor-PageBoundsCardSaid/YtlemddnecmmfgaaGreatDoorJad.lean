/- The walk of the program's layer 1. -/
import Derived.Test.YtlemddnecmmfgaaGreatDoorJac
import Derived.Shelf.Strings.OnBuilder
import Derived.Shelf.Small.Wraps
import Derived.Shelf.Utf8.RuneCount
import Derived.Shelf.Strconv.Itoa3
import Derived.Shelf.Strconv.ErrVarAll
import Derived.Shelf.Strings.Shaped
import Derived.Shelf.Strings.LastIndex
import Derived.Shelf.Strings.SplitShaped
import Derived.Shelf.Strings.Explode
import Derived.Shelf.Unicode.IsSpaceAny
import Derived.Shelf.Unicode.DecodeLast
import Derived.Shelf.Unicode.CaseLaid
import Derived.Shelf.Unicode.ExclAny
import Derived.Shelf.Strings.BuilderCap
import Derived.Shelf.Slices.Turned
import Derived.Shelf.Slices.SearchI
import Derived.Shelf.Strings.SlTrimAscii
set_option linter.unusedVariables false
set_option maxRecDepth 100000
set_option maxHeartbeats 400000
namespace Go.Proofs.YtlemddnecmmfgaaGreatDoor
open Go.Lib
variable{d k:Bs}{b:Nat}{n:UInt8}
structure bc where
 src:Int
 bJ:Int
 name:Bs
 key:Bs
 cK:Bs
 hk:Bool
 hd:Bool
def aC:bc:=⟨0,0,[],[],[],false,false⟩
inductive Ex where
 |mk (kind:Int) (text:Bs) (use:bc) (kids:List Ex)
def sF:Ex:=.mk 0 [] aC []
def ry(k:Int)(x:Ex):Ex:=.mk k [] aC [x]
def oA(k:Int)(x y:Ex):Ex:=.mk k [] aC [x,y]
def ox(k:Int)(t:Bs):Ex:=.mk k t aC []
def sX(n i:Nat)(p:gi):bc:=⟨(i:Int),((n-p.rest.length:Nat):Int),p.name,p.key,p.cK,p.hk,p.hd⟩
def yA(u:bc):Ex:=.mk 12 [] u []
inductive cG where
 |aq (x:Ex) (bJ:Nat)
 |ay (place:Nat) (e:Int)
def mE(c:UInt8):Bool:=decide (c.toNat=32∨c.toNat=9∨c.toNat=10∨c.toNat=13)
def G5:Bs:=[32,9,10,13]
theorem An:(fun c=>G5.contains c)=mE:=jg _ _ (by decide+kernel)
def Ct:Bs:=[48,49,50,51,52,53,54,55,56,57]
theorem Bd:(fun c=>Ct.contains c)=kH:=jg _ _ (by decide+kernel)
def rs(s:Bs)(i:Nat):Bs:=(s.drop i).dropWhile mE
def pa(s:Bs)(i:Nat):Nat:=s.length-(rs s i).length
theorem vZ(s:Bs)(h:b≤s.length):pa s b=b+lead mE (s.drop b):=by unfold pa rs;rw[←cz,bK,bK];have:=iV mE (s.drop b);rw[bK] at this;omega
theorem sZ(s:Bs)(h:b≤s.length):s.drop (pa s b)=rs s b:=by rw[vZ s h,←fh,cz];rfl
theorem cY(s:Bs)(i:Nat):pa s i≤s.length:=Nat.sub_le _ _
theorem jP(s:Bs)(h:b≤s.length):b≤pa s b:=by rw[vZ s h];exact sd _ _
theorem SH(h:rs d b=n::k):mE n=false:=by
 unfold rs at h;have:=List.dropWhile_cons_of_pos (p:=mE) (a:=n) (l:=k);cases j:mE n
 ·rfl
 ·exfalso;have e:((d.drop b).dropWhile mE).dropWhile mE=(d.drop b).dropWhile mE:=by
   generalize d.drop b=l;induction l with
   |nil=>rfl
   |cons x l o=>
    rw[r9];split
    ·exact o
    ·rename_i m;rw[r9,ae m]
  rw[h,r9,ah j] at e;have:=congrArg List.length e;have q:=cB mE k;simp only[bF] at this;omega
theorem fL(s:Bs)(h:b≤s.length):rs s (pa s b)=rs s b:=by
 conv=>lhs;unfold rs
 rw[sZ s h];cases a:rs s b with
 |nil=>rfl
 |cons c r=>rw[r9,SH a];rfl
theorem pJ(s:Bs)(h:b≤s.length):pa s (pa s b)=pa s b:=by show s.length-(rs s (pa s b)).length=_;rw[fL s h];rfl
theorem nP(s:Bs)(h:b≤s.length):(rs s b).length=s.length-pa s b:=by rw[←sZ s h,bK]
def Tx(deep:Option (Nat→cG))(s:Bs)(i:Nat):cG:=
 match deep with
 |none=>.ay i 3
 |some f=>match f (i+1) with
  |.ay p e=>.ay p e
  |.aq x t=>bif hasPrefix (rs s t) [41] then .aq x (pa s t+1) else .ay (pa s t) 15
def Tw(s:Bs)(i:Nat)(r:Bs):cG:=bif r.contains 39 then .aq (ox 10 (upto 39 r)) (i+1+(upto 39 r).length+1) else .ay s.length 15
def D9(i:Nat)(d:Bs):cG:=bif decide (d.length≤18) then .aq (ox 11 d) (i+d.length) else .ay (i+18) 15
def zz(s:Bs)(i:Nat)(r:Bs):cG:=match df r with|some p=>.aq (yA (sX s.length i p)) (s.length-p.rest.length)|none=>.ay i 15
def opAt(deep:Option (Nat→cG))(s:Bs)(i:Nat):Bs→cG
 |[]=>.ay i 15
 |c::r=>bif c==40 then Tx deep s i else bif c==39 then Tw s i r else bif kH c then D9 i ((c::r).takeWhile kH) else zz s i (c::r)
def qL(deep:Option (Nat→cG))(s:Bs)(i:Nat):cG:=opAt deep s (pa s i) (rs s i)
def oV(r:Bs):Option (Nat×Nat):=
 bif hasPrefix r [61,61] then some (0,2) else bif hasPrefix r [33,61] then some (1,2) else bif hasPrefix r [60,61] then some (3,2) else bif hasPrefix r [60] then some (2,1) else bif hasPrefix r [62,61] then some (5,2) else bif hasPrefix r [62] then some (4,1) else none
def ou(deep:Option (Nat→cG))(s:Bs)(x:Ex)(t:Nat):cG:=
 match oV (rs s t) with
 |none=>.aq x t
 |some (k,n)=>match qL deep s (pa s t+n) with
  |.ay p e=>.ay p e
  |.aq y a=>.aq (oA (4+k) x y) a
def zA(deep:Option (Nat→cG))(s:Bs)(i:Nat):cG:=
 match qL deep s i with
 |.ay p e=>.ay p e
 |.aq x t=>ou deep s x t
def uf(b a:Option (Nat→cG))(s:Bs)(i:Nat):cG:=
 bif hasPrefix (rs s i) [33] then match a with
  |none=>.ay (pa s i) 3
  |some f=>match f (pa s i+1) with
   |.ay p e=>.ay p e
   |.aq x t=>.aq (ry 3 x) t
 else zA b s i
def kp(one:Nat→cG)(kind:Int)(a:UInt8)(s:Bs):Nat→Ex→Nat→cG
 |0,x,t=>.aq x t
 |n+1,x,t=>bif hasPrefix (rs s t) [a] then match one (pa s t+1) with
  |.ay p e=>.ay p e
  |.aq y b=>kp one kind a s n (oA kind x y) b
  else .aq x t
def rz(one:Nat→cG)(kind:Int)(a:UInt8)(s:Bs)(i:Nat):cG:=
 match one i with
 |.ay p e=>.ay p e
 |.aq x t=>kp one kind a s (s.length+1) x t
def WS(b a:Option (Nat→cG))(s:Bs)(i:Nat):cG:=rz (rz (uf b a s) 2 38 s) 1 124 s i
def LX(s:Bs):Nat→(Nat→cG)×(Nat→cG)
 |0=>(WS none none s,uf none none s)
 |k+1=>(WS (some (LX s k).1) (some (LX s k).2) s,uf (some (LX s k).1) (some (LX s k).2) s)
def vh(s:Bs)(k:Nat):Nat→cG:=(LX s k).1
def je(s:Bs)(k:Nat):Nat→cG:=(LX s k).2
def zI(s:Bs):Nat→Option (Nat→cG)
 |0=>none
 |k+1=>some (vh s k)
def TR(s:Bs):Nat→Option (Nat→cG)
 |0=>none
 |k+1=>some (je s k)
def UQ(s:Bs)(k:Nat):Nat→cG:=rz (je s k) 2 38 s
theorem wC(s:Bs)(k:Nat):je s k=uf (zI s k) (TR s k) s:=by cases k<;>rfl
theorem UR(s:Bs)(k:Nat):vh s k=rz (UQ s k) 1 124 s:=by
 have:vh s k=WS (zI s k) (TR s k) s:=by cases k<;>rfl
 rw[this];unfold UQ;rw[wC];rfl
def Cu(s:Bs)(k:Nat):Nat→cG:=zA (zI s k) s
def nT(s:Bs)(k:Nat):Nat→cG:=qL (zI s k) s
def ew(s:Bs):Ex×Nat×Int:=
 match vh s 16 0 with
 |.ay p e=>(sF,p,e)
 |.aq x t=>bif decide (pa s t=s.length) then(x,0,0) else(sF,pa s t,15)
def Fits(s:Bs)(i:Nat):cG→Prop
 |.aq _ t=>i<t∧t≤s.length
 |.ay p e=>p≤s.length∧(e=3∨e=15)
def jV(s:Bs)(f:Nat→cG):Prop:=∀i,i≤s.length→Fits s i (f i)
def pC(s:Bs)(f:Option (Nat→cG)):Prop:=∀g,f=some g→jV s g
theorem vA(e:b≤d.length)(h:rs d b=n::k):pa d b+1+k.length=d.length:=by have a:=nP d e;have j:=cY d b;rw[h,bF] at a;omega
theorem nR(a:b≤d.length)(h:hasPrefix (rs d b) k=true):pa d b+k.length≤d.length:=by have c:=nP d a;have e:=cY d b;have:=gL h;omega
theorem vV(h:d.contains n=true):(upto n d).length<d.length:=by rw[←kF,gu];have:=kx n d h;omega
theorem Cp{h:Option (Nat→cG)}(q:pC d h):jV d (qL h d):=by
 intro i n;have z:=jP d n;have k:=cY d i;unfold qL;cases w:rs d i with
 |nil=>exact⟨k,.inr rfl⟩
 |cons c r=>
  have A:=vA n w;show Fits d i (bif c==40 then _ else _);cases c==40
  ·rw[cI];cases c==39
   ·rw[cI];cases u:kH c
    ·rw[cI];unfold zz;cases l:df (c::r) with
     |none=>exact⟨k,.inr rfl⟩
     |some p=>obtain⟨a,_⟩:=gF l;simp only[bF] at a;show i<d.length-p.rest.length∧_;omega
    ·rw[aS];unfold D9;have a:((c::r).takeWhile kH).length≤(c::r).length:=by rw[←cU,gu];omega
     have j:1≤((c::r).takeWhile kH).length:=by rw[oD,ah u];simp
     simp only[bF] at a;by_cases m:((c::r).takeWhile kH).length≤18
     ·rw[bN m];show i<pa d i+_∧_;omega
     ·rw[cL m];exact⟨by omega,.inr rfl⟩
   ·rw[aS];unfold Tw;cases hq:r.contains 39
    ·exact⟨ag _,.inr rfl⟩
    ·have:=vV hq;show i<pa d i+1+(upto 39 r).length+1∧_;omega
  ·rw[aS];unfold Tx;cases h with
   |none=>exact⟨k,.inl rfl⟩
   |some f=>
    have b:=q f rfl (pa d i+1) (by omega);show Fits d i (match f (pa d i+1) with|.ay p e=>.ay p e|.aq x t=>bif hasPrefix (rs d t) [41] then .aq x (pa d t+1) else .ay (pa d t) 15);cases o:f (pa d i+1) with
    |ay p e=>rw[o] at b;exact b
    |aq x t=>
     rw[o] at b;have a:pa d i+1<t∧t≤d.length:=b;show Fits d i (bif hasPrefix (rs d t) [41] then .aq x (pa d t+1) else .ay (pa d t) 15);cases l:hasPrefix (rs d t) [41]
     ·exact⟨cY d t,.inr rfl⟩
     ·have j:=nR a.2 l;have y:=jP d a.2;simp only[mF] at j;exact⟨by omega,j⟩
theorem E9{n:Nat}(h:oV d=some (b,n)):n≤d.length∧1≤n∧n≤2∧b≤5:=by
 unfold oV at h;cases a:hasPrefix d [61,61]
 ·cases c:hasPrefix d [33,61]
  ·cases e:hasPrefix d [60,61]
   ·cases i:hasPrefix d [60]
    ·cases j:hasPrefix d [62,61]
     ·cases l:hasPrefix d [62]
      ·rw[a,c,e,i,j,l] at h;cases h
      ·rw[a,c,e,i,j,l] at h;cases h;have:=gL l;simp at this;omega
     ·rw[a,c,e,i,j] at h;cases h;have:=gL j;simp at this;omega
    ·rw[a,c,e,i] at h;cases h;have:=gL i;simp at this;omega
   ·rw[a,c,e] at h;cases h;have:=gL e;simp at this;omega
  ·rw[a,c] at h;cases h;have:=gL c;simp at this;omega
 ·rw[a] at h;cases h;have:=gL a;simp at this;omega
theorem PJ{b:Option (Nat→cG)}(j:pC d b):jV d (zA b d):=by
 intro i o;have a:=Cp j i o;unfold zA;cases l:qL b d i with
 |ay p e=>rw[l] at a;exact a
 |aq x t=>
  rw[l] at a;have a:i<t∧t≤d.length:=a;show Fits d i (ou b d x t);unfold ou;cases q:oV (rs d t) with
  |none=>exact a
  |some kn=>
   obtain⟨k,n⟩:=kn;obtain⟨r,u,_,_⟩:=E9 q;have w:=nP d a.2;have z:=jP d a.2;have A:=cY d t;have c:=Cp j (pa d t+n) (by omega);show Fits d i (match qL b d (pa d t+n) with|.ay p e=>.ay p e|.aq y h=>.aq (oA (4+k) x y) h);cases m:qL b d (pa d t+n) with
   |ay p e=>rw[m] at c;exact c
   |aq y h=>rw[m] at c;have c:pa d t+n<h∧h≤d.length:=c;exact⟨by omega,c.2⟩
theorem Fe{d1 d2:Option (Nat→cG)}(h:pC d d1)(j:pC d d2):jV d (uf d1 d2 d):=by
 intro i b;unfold uf;cases n:hasPrefix (rs d i) [33]
 ·exact PJ h i b
 ·have k:=nR b n;have o:=jP d b;have l:=cY d i;simp only[mF] at k;rw[aS];cases d2 with
  |none=>exact⟨l,.inl rfl⟩
  |some f=>
   have a:=j f rfl (pa d i+1) (by omega);show Fits d i (match f (pa d i+1) with|.ay p e=>.ay p e|.aq x t=>.aq (ry 3 x) t);cases c:f (pa d i+1) with
   |ay p e=>rw[c] at a;exact a
   |aq x t=>rw[c] at a;have m:pa d i+1<t∧t≤d.length:=a;exact⟨by omega,m.2⟩
theorem yG{s:Bs}{one:Nat→cG}(h:jV s one)(kind:Int)(d:UInt8)(i:Nat):∀(n:Nat) (x:Ex) (t:Nat),i<t→t≤s.length→Fits s i (kp one kind d s n x t)
 |0,_,_,c,b=>⟨c,b⟩
 |n+1,x,t,c,b=>by
  unfold kp;cases m:hasPrefix (rs s t) [d]
  ·exact⟨c,b⟩
  ·have l:=nR b m;have o:=jP s b;simp only[mF] at l;have a:=h (pa s t+1) (by omega);rw[aS];cases k:one (pa s t+1) with
   |ay p e=>rw[k] at a;exact a
   |aq y j=>rw[k] at a;have a:pa s t+1<j∧j≤s.length:=a;exact yG h kind d i n _ j (by omega) a.2
theorem pK{one:Nat→cG}(h:jV d one)(kind:Int)(c:UInt8):jV d (rz one kind c d):=by
 intro i j;have a:=h i j;unfold rz;cases b:one i with
 |ay p e=>rw[b] at a;exact a
 |aq x t=>rw[b] at a;have a:i<t∧t≤d.length:=a;exact yG h kind c i _ x t a.1 a.2
theorem rL{f:Nat→cG}(h:jV d f):pC d (some f):=by intro g e;cases e;exact h
theorem lq(s:Bs):∀k,jV s (vh s k)∧jV s (je s k)
 |0=>by
  have b:pC s none:=fun g h=>by cases h
  have a:jV s (je s 0):=Fe b b;exact⟨pK (pK a 2 38) 1 124,a⟩
 |k+1=>by obtain⟨c,d⟩:=lq s k;have a:jV s (je s (k+1)):=Fe (rL c) (rL d);exact⟨pK (pK a 2 38) 1 124,a⟩
theorem yD(s:Bs)(k:Nat):jV s (UQ s k):=pK (lq s k).2 2 38
end Go.Proofs.YtlemddnecmmfgaaGreatDoor
namespace Go.Proofs.YtlemddnecmmfgaaGreatDoor
open Go.Lib
variable{d k:Bs}{b:Nat}{n:UInt8}
mutual
theorem Ex.ind {P:Ex→Prop} (h:∀k t u l,(∀x,x∈l→P x)→P (.mk k t u l)):∀x,P x
 |.mk k t u l=>h k t u l (Ex.OI h l)
theorem Ex.OI {P:Ex→Prop} (h:∀k t u l,(∀x,x∈l→P x)→P (.mk k t u l)):∀(l:List Ex) (x:Ex),x∈l→P x
 |[],x,hx=>by cases hx
 |y::r,x,hx=>by
  rcases bL.1 hx with e|hx
  ·rw[e];exact Ex.ind h y
  ·exact Ex.OI h r x hx
end
def sY(a b:bc):Bool:=a.name==b.name&&a.key==b.key&&a.cK==b.cK&&a.hk==b.hk&&a.hd==b.hd
def Ba(a b:bc):Bool:=decide (a.src=b.src)&&decide (a.bJ=b.bJ)&&sY a b
theorem s9(u:bc):sY u u=true:=by simp[sY]
theorem nQ(u:bc):Ba u u=true:=by simp[Ba,s9]
end Go.Proofs.YtlemddnecmmfgaaGreatDoor
namespace Go.Proofs.YtlemddnecmmfgaaGreatDoor
open Go.Lib
variable{d k:Bs}{b:Nat}{n:UInt8}
theorem Ea(s:Bs):(∃q e,vh s 16 0=.ay q e∧ew s=(sF,q,e))∨(∃x t,vh s 16 0=.aq x t∧(ew s=(x,0,0)∨ew s=(sF,pa s t,15))):=by
 unfold ew;cases a:vh s 16 0 with
 |ay p e=>exact .inl ⟨p,e,rfl,rfl⟩
 |aq x t=>
  refine .inr ⟨x,t,rfl, ?_⟩;show(bif decide (pa s t=s.length) then(x,0,0) else(sF,pa s t,15):Ex×Nat×Int)=_∨(bif decide (pa s t=s.length) then(x,0,0) else(sF,pa s t,15):Ex×Nat×Int)=_;cases decide (pa s t=s.length)
  ·exact .inr rfl
  ·exact .inl rfl
end Go.Proofs.YtlemddnecmmfgaaGreatDoor
namespace Go.Proofs.YtlemddnecmmfgaaGreatDoor
open Go.RowKit
variable{e:List dQ}{d:World}
theorem u24:Tryz.prog.underlying 24=some (.slice 59):=by kernel_rfl
theorem TU:(Tryz.prog.info? 59).map (fun i=>(i.zero,i.size,i.bytes))=some (some (.agg #[.string ⟨#[]⟩,.string ⟨#[]⟩]),2,32):=by kernel_rfl
def aZ(w:World)(v:Value)(fs:List dQ):Prop:=
 (∃a c,v=.slice a 0 c∧fs=[])∨
 ∃b o c,v=.slice (some ⟨b,o,none⟩) fs.length c∧fs.length≤c∧b<w.heap.size∧
  ∀(j:Nat) (f:dQ),fs[j]? =some f→w.cell? ⟨b,o+j*2,none⟩=some (.string ⟨f.1.toArray⟩)∧w.cell? ⟨b,o+j*2+1,none⟩=some (.string ⟨f.2.toArray⟩)
def tI(w:World)(b o:Nat)(fs:List dQ):Prop:=
 ∀(j:Nat) (f:dQ),fs[j]? =some f→w.cell? ⟨b,o+j*2,none⟩=some (.string ⟨f.1.toArray⟩)∧w.cell? ⟨b,o+j*2+1,none⟩=some (.string ⟨f.2.toArray⟩)
theorem tI.below{w':World}{b o n:Nat}(h:tI d b o e)(a:Below n d w')(i:b<n):tI w' b o e:=fun j f c=>⟨(a.cell (p:=⟨b,_,none⟩) i).t (h j f c).1,(a.cell (p:=⟨b,_,none⟩) i).t (h j f c).2⟩
theorem aZ.below{w w':World}{v:Value}{fs:List dQ}(h:aZ w v fs)(a:Below w.heap.size w w'):aZ w' v fs:=by
 rcases h with h|⟨b,o,c,rfl,e,d,i⟩
 ·exact .inl h
 ·exact .inr ⟨b,o,c,rfl,e,ej d a.size,tI.below i a d⟩
end Go.Proofs.YtlemddnecmmfgaaGreatDoor
namespace Go.Proofs.YtlemddnecmmfgaaGreatDoor
open Go.RowKit
variable{e:List dQ}{d:World}
def eX:List dQ→List Value
 |[]=>[]
 |f::r=>.string ⟨f.1.toArray⟩::.string ⟨f.2.toArray⟩::eX r
theorem wQ:∀fs:List dQ,(eX fs).length=fs.length*2
 |[]=>rfl
 |f::r=>by simp[eX,wQ r];omega
theorem wR:∀fs gs:List dQ,eX (fs++gs)=eX fs++eX gs
 |[],gs=>rfl
 |f::r,gs=>by simp[eX,wR r gs]
theorem wS:∀(fs:List dQ) (u:Value),u∈eX fs→u.oneCell'=true
 |[],u,h=>by cases h
 |f::r,u,h=>by
  simp only[eX,bL] at h;rcases h with rfl|rfl|h
  ·rfl
  ·rfl
  ·exact wS r u h
theorem tJ:∀(fs:List dQ) (j:Nat) (f:dQ),fs[j]? =some f→(eX fs)[j*2]? =some (.string ⟨f.1.toArray⟩)∧(eX fs)[j*2+1]? =some (.string ⟨f.2.toArray⟩)
 |[],j,f,h=>by simp at h
 |g::r,0,f,h=>by
  obtain rfl:g=f:=by simpa using h
  exact⟨rfl,rfl⟩
 |g::r,j+1,f,h=>by have:=tJ r j f (by simpa using h);rw[show(j+1)*2=j*2+1+1 by omega];exact this
theorem C3{w:World}{b:Nat}:∀(fs:List dQ) (o:Nat),tI w b o fs→∀(j:Nat) (u:Value),(eX fs)[j]? =some u→w.cell? ⟨b,o+j,none⟩=some u
 |[],o,h,j,u,a=>by simp[eX] at a
 |f::r,o,h,0,u,a=>by
  obtain rfl:Value.string ⟨f.1.toArray⟩=u:=by simpa[eX] using a
  have:=(h 0 f rfl).1;simpa using this
 |f::r,o,h,1,u,a=>by
  obtain rfl:Value.string ⟨f.2.toArray⟩=u:=by simpa[eX] using a
  have:=(h 0 f rfl).2;simpa using this
 |f::r,o,h,j+2,u,a=>by
  have:=C3 r (o+2) (fun i g c=>by have:=h (i+1) g (by simpa using c);rw[show o+2+i*2=o+(i+1)*2 by omega];exact this) j u (by simpa[eX] using a)
  rw[show o+(j+2)=o+2+j by omega];exact this
theorem F6(g o j:Nat):((⟨g,o,none⟩:Addr).add j)=⟨g,o+j,none⟩:=by
 unfold Addr.add;by_cases a:j=0
 ·subst a;rfl
 ·rw[ae a]
def qV(w:World)(base:Nat)(v:Value)(fs:List dQ):Prop:=w.ownsRow base 59 2 v fs.length (eX fs)
theorem qV.at{w:World}{base:Nat}{v:Value}{fs:List dQ}(h:qV w base v fs):aZ w v fs:=by
 have c:=fun(g:Nat) (d:v.ownBlock=some g)=>h.cells d;have m:=h.lt;rcases h.2 with⟨rfl,e⟩|⟨g,cap,n,rfl,_,d,o,_,_,_⟩
 ·exact .inl ⟨none,0,rfl,jn e⟩
 ·refine .inr ⟨g,0,cap,rfl,by omega,(m g rfl).2,fun j f l=> ?_⟩;obtain⟨i,k⟩:=tJ fs j f l;have a:=c g rfl _ _ i;have b:=c g rfl _ _ k;rw[F6] at a b;exact⟨a,by rw[oh];exact b⟩
theorem MS(w:World)(base:Nat):qV w base (.slice none 0 0) []:=⟨rfl,.inl ⟨rfl,rfl⟩⟩
theorem MT:∃i,Tryz.prog.info? 59=some i∧i.zero=some (.agg #[.string ⟨#[]⟩,.string ⟨#[]⟩])∧i.size=2∧i.bytes=32:=info_parts TU
theorem MU{x v:Value}{gs:List dQ}{base:Nat}(t:TypeId)(hF:aZ d x e)(l:qV d base v gs)(J:gs.length+e.length≤100000)(y:base≤d.heap.size):
 ∃h k W',(Builtin.append_ #[24,24] t #[v,x]).run Tryz.prog d=.ok (.slice h (gs.length+e.length) k) W'∧qV W' base (.slice h (gs.length+e.length) k) (gs++e)∧d.grownBy W' v.ownBlock:=by
 obtain⟨i,r,E,C,z⟩:=MT;rcases hF with⟨a,c,rfl,rfl⟩|⟨b,o,c,rfl,H,I,A⟩
 ·obtain⟨m,n,p⟩:=aX l;refine⟨m,n,d, ?_,by rw[jm];show qV d base (.slice m gs.length n) gs;rw[←p];exact l,World.grownBy.refl _ _⟩;have s:gs.length≤n:=by
   rcases l.2 with⟨rfl,G⟩|⟨g,cap,F,rfl,_,_,s,_⟩
   ·omega
   ·simp only[Value.slice.injEq] at p;omega
  rw[p];cases a<;>cases m<;>simp[Builtin.append_,run_underlying u24,sizeOf,typeInfo,r,Builtin.lenOf,Builtin.firstCells,s,storeCells,loadCells,loadCellsFrom]
 ·obtain⟨v',W',B,q,w,_⟩:=run_append_own (P:=Tryz.prog) d base 24 t 59 i _ 2 32 u24 r E C z rfl (by omega) v gs.length (eX gs) l ⟨b,o,none⟩ e.length c (eX e)
   (wQ e) (fun j u D=>by rw[F6];exact C3 e o A j u D) (wS e) (by unfold maxLen;omega) (by omega) y
  obtain⟨h,k,rfl⟩:=aX q;refine⟨h,k,W',B, ?_,w⟩;unfold qV;rw[bB,wR];exact q
theorem Kn{ops:Array Oper}{o:Oper}{a:Act}{K:Act→World→Prop}{Q:Exit→Act→World→Prop}{E:Prop}(l:o.guard=none)(s x:Operand)
 (n:o.op=.call {callee:=.builtin .append,args:=#[s,x],argTypes:=#[24,24]})
 (v e:Value)(fs gs:List dQ)(base:Nat)(r:a.eval s=v)(u:a.eval x=e)(hF:aZ d e fs)(p:qV d base v gs)(m:gs.length+fs.length≤100000)(k:base≤d.heap.size)
 (h:∀b c W',qV W' base (.slice b (gs.length+fs.length) c) (gs++fs)→d.grownBy W' v.ownBlock→K (a.put o.dst (.slice b (gs.length+fs.length) c)) W'):
 if Region.wanted o (yielded ops a.tmps)=true then Oper.wp Tryz.prog o a d K Q else E:=by
 have t:Region.wanted o (yielded ops a.tmps)=true:=by simp[Region.wanted,l]
 rw[ah t];obtain⟨b,c,W',q,i,j⟩:=MU o.type hF p m k;unfold Oper.wp execOp;simp only[n,resolve,invoke,builtin,Sem.run_bind,Sem.run_pure,Result.andThen_ok,List.map_toArray,kg,List.map_nil,r,u,q];exact h b c W' i j
end Go.Proofs.YtlemddnecmmfgaaGreatDoor
namespace Go.Proofs
open Go.Shelf
def Tryz.EI:Go.Shelf.Ren:=⟨fun|170=>163|n=>n,fun|70=>119|3=>3|0=>0|72=>121|37=>83|5=>5|n=>n,fun|n=>n⟩
theorem Tryz.Se:Go.Proofs.Lays.n170 Tryz.prog Tryz.EI:=by repeat' first|kernel_rfl|(intro _;kernel_rfl)|constructor
open Go.RowKit in
theorem Tryz.Builder_Len (B b:Nat) (a:List Value) (w:World) (h:Lib.IsBuilder 121 5 B b a w):
 Calls Tryz.prog 163 #[.pointer (some ⟨b,0,none⟩)] w fun e w'=>e=.returned (.int .i64 a.length)∧w'=w:=Any.Builder_Len Tryz.Se B b a w h
def Tryz.vq:Go.Shelf.Ren:=⟨fun|169=>56|n=>n,fun|70=>119|9=>9|0=>0|72=>121|37=>83|127=>178|3=>3|5=>5|n=>n,fun|n=>n⟩
theorem Tryz.Sf:Go.Proofs.Lays.n169 Tryz.prog Tryz.vq:=by repeat' first|kernel_rfl|(intro _;kernel_rfl)|constructor
theorem Tryz.sR:Builder.Extra Tryz.prog Tryz.vq:=by repeat' first|kernel_rfl|(intro _;kernel_rfl)|decide|constructor
open Go.RowKit in
theorem Tryz.Builder_String_any (B b:Nat) (l:List UInt8) (w:World) (h:Lib.IsBuilder 121 5 B b (Lib.byteCells l) w) (a:B≤w.heap.size):
 Calls Tryz.prog 56 #[.pointer (some ⟨b,0,none⟩)] w fun e w'=>e=.returned (.string ⟨l.toArray⟩)∧Below B w w':=Any.Builder_String_any Tryz.Sf Tryz.sR B b l w h a
def Tryz.vr:Go.Shelf.Ren:=⟨fun|158=>173|165=>54|166=>55|167=>164|169=>56|230=>165|203=>207|240=>104|241=>105|197=>107|118=>196|168=>197|270=>198|262=>199|276=>145|277=>146|260=>147|242=>236|313=>237|278=>260|274=>261|275=>262|n=>n,fun|9=>9|4=>4|3=>3|5=>5|72=>121|0=>0|76=>124|75=>123|107=>225|70=>119|20=>20|37=>83|127=>178|21=>21|105=>179|164=>210|162=>295|203=>293|119=>245|46=>246|139=>249|138=>248|51=>278|160=>319|208=>333|206=>331|80=>126|n=>n,fun|13=>6|3=>1|4=>2|n=>n⟩
theorem Tryz.Sg:Go.Proofs.Lays.n158 Tryz.prog Tryz.vr:=by repeat' first|kernel_rfl|(intro _;kernel_rfl)|constructor
theorem Tryz.sS:Builder.Extra Tryz.prog Tryz.vr:=by repeat' first|kernel_rfl|(intro _;kernel_rfl)|decide|constructor
open Go.RowKit in
theorem Tryz.strings_ToUpper_ascii (s:ByteArray) (w:World) (c:s.size≤140737488355328) (a:∀(j:Nat) (b:UInt8),s.data.toList[j]? =some b→b.toNat<128):
 Calls Tryz.prog 173 #[.string s] w fun e w'=>e=.returned (.string ⟨(Lib.toUpperA s.data.toList).toArray⟩)∧Below w.heap.size w w':=Any.strings_ToUpper_ascii Tryz.Sg Tryz.sS s w c a
def Tryz.vt:Go.Shelf.Ren:=⟨fun|159=>132|165=>54|166=>55|167=>164|169=>56|230=>165|204=>166|240=>104|241=>105|197=>107|118=>196|168=>197|270=>198|262=>199|276=>145|277=>146|260=>147|242=>236|313=>237|278=>260|274=>261|275=>262|n=>n,fun|9=>9|4=>4|3=>3|5=>5|72=>121|0=>0|76=>124|75=>123|107=>225|70=>119|20=>20|37=>83|127=>178|21=>21|105=>179|164=>210|162=>295|203=>293|119=>245|46=>246|139=>249|138=>248|51=>278|160=>319|208=>333|206=>331|80=>126|n=>n,fun|13=>6|3=>1|4=>2|n=>n⟩
theorem Tryz.Sh:Go.Proofs.Lays.n159 Tryz.prog Tryz.vt:=by repeat' first|kernel_rfl|(intro _;kernel_rfl)|constructor
theorem Tryz.sT:Builder.Extra Tryz.prog Tryz.vt:=by repeat' first|kernel_rfl|(intro _;kernel_rfl)|decide|constructor
open Go.RowKit in
theorem Tryz.strings_ToLower_ascii (s:ByteArray) (w:World) (c:s.size≤140737488355328) (a:∀(j:Nat) (b:UInt8),s.data.toList[j]? =some b→b.toNat<128):
 Calls Tryz.prog 132 #[.string s] w fun e w'=>e=.returned (.string ⟨(Lib.toLowerA s.data.toList).toArray⟩)∧Below w.heap.size w w':=Any.strings_ToLower_ascii Tryz.Sh Tryz.sT s w c a
def Tryz.vv:Go.Shelf.Ren:=⟨fun|156=>26|165=>54|166=>55|169=>56|240=>104|241=>105|276=>145|277=>146|n=>n,fun|31=>42|9=>9|3=>3|4=>4|0=>0|20=>20|72=>121|76=>124|70=>119|37=>83|75=>123|127=>178|164=>210|5=>5|80=>126|n=>n,fun|n=>n⟩
theorem Tryz.JW:Go.Proofs.Lays.n156 Tryz.prog Tryz.vv:=by repeat' first|kernel_rfl|(intro _;kernel_rfl)|constructor
theorem Tryz.mc:Builder.Extra Tryz.prog Tryz.vv:=by repeat' first|kernel_rfl|(intro _;kernel_rfl)|decide|constructor
open Go.RowKit in
theorem Tryz.strings_Join_none (a:Option Addr) (c:Nat) (b:ByteArray) (w:World):
 Calls Tryz.prog 26 #[.slice a 0 c,.string b] w fun e w'=>e=.returned (.string ⟨#[]⟩)∧w'=w:=Any.strings_Join_none Tryz.JW Tryz.mc a c b w
open Go.RowKit in
theorem Tryz.strings_Join (a o c:Nat) (xs:List ByteArray) (b:ByteArray) (w:World) (k:∀(j:Nat) x,xs[j]? =some x→w.cell? ⟨a,o+j,none⟩=some (.string x)) (h:a<w.heap.size) (d:xs.length≤140737488355328) (i:xs.length≤c) (l:(Lib.join (xs.map (·.data.toList)) b.data.toList).length≤140737488355328):
 Calls Tryz.prog 26 #[.slice (some ⟨a,o,none⟩) xs.length c,.string b] w fun e w'=>e=.returned (.string ⟨(Lib.join (xs.map (·.data.toList)) b.data.toList).toArray⟩)∧Below w.heap.size w w':=Any.strings_Join Tryz.JW Tryz.mc a o c xs b w k h d i l
def Tryz.EJ:Go.Shelf.Ren:=⟨fun|161=>79|231=>57|227=>59|233=>60|235=>62|228=>106|197=>107|151=>108|260=>147|152=>148|137=>30|119=>179|224=>180|225=>181|217=>68|266=>111|n=>n,fun|9=>9|4=>4|3=>3|5=>5|117=>130|116=>129|0=>0|124=>133|105=>179|21=>21|119=>245|46=>246|139=>249|138=>248|n=>n,fun|3=>1|4=>2|n=>n⟩
theorem Tryz.RV:Go.Proofs.Lays.n161 Tryz.prog Tryz.EJ:=by repeat' first|kernel_rfl|(intro _;kernel_rfl)|constructor
def Tryz.EK:Go.Shelf.Ren:=⟨fun|160=>27|232=>58|231=>57|227=>59|234=>61|233=>60|236=>63|235=>62|228=>106|271=>109|151=>108|197=>107|120=>149|152=>148|260=>147|137=>30|119=>179|224=>180|225=>181|217=>68|266=>111|n=>n,fun|9=>9|4=>4|3=>3|5=>5|117=>130|116=>129|0=>0|124=>133|21=>21|105=>179|46=>246|119=>245|139=>249|138=>248|n=>n,fun|3=>1|4=>2|n=>n⟩
theorem Tryz.JL:Go.Proofs.Lays.n160 Tryz.prog Tryz.EK:=by repeat' first|kernel_rfl|(intro _;kernel_rfl)|constructor
def Tryz.EL:Go.Shelf.Ren:=⟨fun|137=>30|217=>68|266=>111|n=>n,fun|9=>9|5=>5|3=>3|n=>n,fun|n=>n⟩
theorem Tryz.Si:Go.Proofs.Lays.n137 Tryz.prog Tryz.EL:=by repeat' first|kernel_rfl|(intro _;kernel_rfl)|constructor
open Go.RowKit in
theorem Tryz.strings_IndexByte (s:ByteArray) (c:Int) (w:World):
 Calls Tryz.prog 30 #[.string s,.int .u8 c] w fun e w'=>e=.returned (.int .i64 (Lib.indexByte s.data.toList c.toNat.toUInt8))∧w'=w:=Any.strings_IndexByte Tryz.Si s c w
def Tryz.EM:Go.Shelf.Ren:=⟨fun|103=>232|210=>259|206=>64|n=>n,fun|9=>9|4=>4|24=>111|3=>3|n=>n,fun|n=>n⟩
theorem Tryz.Sj:Go.Proofs.Lays.n103 Tryz.prog Tryz.EM:=by repeat' first|kernel_rfl|(intro _;kernel_rfl)|constructor
open Go.RowKit in
theorem Tryz.strings_CutPrefix (s p:ByteArray) (w:World):
 Calls Tryz.prog 232 #[.string s,.string p] w fun e w'=>e=.returned (.tuple #[.string ⟨(Lib.trimPrefix s.data.toList p.data.toList).toArray⟩,.bool (Lib.hasPrefix s.data.toList p.data.toList)])∧w'=w:=Any.strings_CutPrefix Tryz.Sj s p w
def Tryz.EN:Go.Shelf.Ren:=⟨fun|122=>253|215=>264|n=>n,fun|3=>3|4=>4|n=>n,fun|n=>n⟩
theorem Tryz.Sk:Go.Proofs.Lays.n122 Tryz.prog Tryz.EN:=by repeat' first|kernel_rfl|(intro _;kernel_rfl)|constructor
open Go.RowKit in
theorem Tryz.cmp_Compare_int (x y:Int) (w:World):
 Calls Tryz.prog 253 #[.int .i64 x,.int .i64 y] w fun e w'=>e=.returned (.int .i64 (Lib.compareInt x y))∧w'=w:=Any.cmp_Compare_int Tryz.Sk x y w
def Tryz.EO:Go.Shelf.Ren:=⟨fun|172=>133|244=>167|245=>168|247=>200|279=>201|280=>202|281=>203|282=>204|287=>206|316=>238|171=>69|205=>239|321=>241|322=>242|243=>112|246=>151|283=>183|284=>184|285=>185|286=>186|129=>225|317=>224|318=>226|319=>227|320=>228|337=>255|338=>256|n=>n,fun|9=>9|3=>3|75=>123|76=>124|4=>4|5=>5|167=>267|37=>83|0=>0|85=>268|2=>2|168=>270|53=>230|175=>231|46=>246|210=>297|127=>178|145=>324|143=>322|21=>21|171=>251|173=>254|212=>282|51=>278|20=>20|213=>283|232=>326|233=>327|80=>126|n=>n,fun|15=>7|16=>8|17=>4|18=>9|19=>10|n=>n⟩
theorem Tryz.Sl:Go.Proofs.Lays.n172 Tryz.prog Tryz.EO:=by repeat' first|kernel_rfl|(intro _;kernel_rfl)|constructor
open Go.RowKit in
theorem Tryz.strconv_Atoi (s:ByteArray) (n:Int) (a:s.size≤18) (h:Lib.atoi s.data.toList=some n) (w:World):
 Calls Tryz.prog 133 #[.string s] w fun e w'=>e=.returned (.tuple #[.int .i64 n,.nilIface])∧∃t,w'=Lib.bytesWorld w 5 t:=Any.strconv_Atoi Tryz.Sl s n a h w
def Tryz.Ci:Go.Shelf.Ren:=⟨fun|171=>69|243=>112|246=>151|283=>183|284=>184|285=>185|286=>186|129=>225|317=>224|318=>226|319=>227|320=>228|337=>255|338=>256|n=>n,fun|3=>3|9=>9|2=>2|4=>4|171=>251|0=>0|53=>230|37=>83|5=>5|173=>254|212=>282|51=>278|20=>20|213=>283|46=>246|232=>326|233=>327|n=>n,fun|17=>4|18=>9|19=>10|n=>n⟩
theorem Tryz.O5:Go.Proofs.LaysM.n171 Tryz.prog Tryz.Ci:=by repeat' first|kernel_rfl|(intro _;kernel_rfl)|constructor
open Go.RowKit Go.Sort Go.Lib in
theorem Tryz.strconv_Itoa (n:Int) (a:-9223372036854775808≤n) (b:n≤9223372036854775807) (w:World) (c:Lib.TabIs Tryz.prog w "internal/strconv.uint64pow10" .u64 Lib.pow10Tab):
 Calls Tryz.prog 69 #[.int .i64 n] w fun e w'=>e=.returned (.string ⟨(Lib.itoa n).toArray⟩)∧∃k os,w'=grow (w.drewN k) os:=Any.strconv_Itoa Tryz.O5 n a b w c
def Tryz.Cj:Go.Shelf.Ren:=⟨fun|172=>133|244=>167|245=>168|247=>200|279=>201|280=>202|281=>203|282=>204|287=>206|316=>238|171=>69|205=>239|321=>241|322=>242|243=>112|246=>151|283=>183|284=>184|285=>185|286=>186|129=>225|317=>224|318=>226|319=>227|320=>228|337=>255|338=>256|n=>n,fun|9=>9|3=>3|75=>123|76=>124|4=>4|5=>5|167=>267|37=>83|0=>0|85=>268|2=>2|168=>270|53=>230|175=>231|46=>246|210=>297|127=>178|145=>324|143=>322|21=>21|171=>251|173=>254|212=>282|51=>278|20=>20|213=>283|232=>326|233=>327|80=>126|n=>n,fun|15=>7|16=>8|17=>4|18=>9|19=>10|n=>n⟩
theorem Tryz.Yp:Go.Proofs.LaysC.n172 Tryz.prog Tryz.Cj:=by repeat' first|kernel_rfl|(intro _;kernel_rfl)|constructor
open Go.RowKit in
theorem Tryz.strconv_Atoi_ok (s:ByteArray) (a:s.size≤9223372036854775806) (v:Int) (h:Lib.atoiAll s.data.toList=.ok v) (w:World):
 Calls Tryz.prog 133 #[.string s] w fun e w'=>e=.returned (.tuple #[.int .i64 v,.nilIface])∧(w'=w∨∃t,w'=Lib.bytesWorld w 5 t):=Any.strconv_Atoi_ok Tryz.Yp s a v h w
open Go.RowKit in
theorem Tryz.strconv_Atoi_syntax_var (s:ByteArray) (b:s.size≤281474976710656) (h:Lib.atoiAll s.data.toList=Lib.atoiAll []) (a:TypeId) (p:Value) (w:World) (c:w.var? Tryz.prog "strconv.ErrSyntax" =some #[.iface a p]):
 Calls Tryz.prog 133 #[.string s] w fun e w'=>∃N,e=.returned (.tuple #[.int .i64 0,.iface 270 (.pointer (some ⟨N,0,none⟩))])∧w.heap.size≤N∧w'.heap[N]? =some (.cells #[.string ⟨#[65,116,111,105]⟩,.string s,.iface a p] 297 (0,0))∧Below w.heap.size w w':=Any.strconv_Atoi_syntax_var Tryz.Yp s b h a p w c
open Go.RowKit in
theorem Tryz.strconv_Atoi_range_var (s:ByteArray) (b:s.size≤281474976710656) (h:Lib.atoiAll s.data.toList=.range) (a:TypeId) (p:Value) (w:World) (c:w.var? Tryz.prog "strconv.ErrRange" =some #[.iface a p]):
 Calls Tryz.prog 133 #[.string s] w fun e w'=>∃N,e=.returned (.tuple #[.int .i64 (Lib.atoiSat s.data.toList),.iface 270 (.pointer (some ⟨N,0,none⟩))])∧w.heap.size≤N∧w'.heap[N]? =some (.cells #[.string ⟨#[65,116,111,105]⟩,.string s,.iface a p] 297 (0,0))∧Below w.heap.size w w':=Any.strconv_Atoi_range_var Tryz.Yp s b h a p w c
def Tryz.EP:Go.Shelf.Ren:=⟨fun|143=>110|219=>150|217=>68|225=>181|224=>180|267=>182|266=>111|314=>223|n=>n,fun|9=>9|3=>3|4=>4|5=>5|46=>246|146=>279|51=>278|n=>n,fun|1=>0|n=>n⟩
theorem Tryz.So:Go.Proofs.Lays.n143 Tryz.prog Tryz.EP:=by repeat' first|kernel_rfl|(intro _;kernel_rfl)|constructor
open Go.RowKit Go.Lib in
theorem Tryz.strings_Index (s sub:ByteArray) (m:Int) (w:World) (b:s.size<4294967281) (a:w.cell? ⟨0,0,none⟩=some (.int .i64 m)):
 Calls Tryz.prog 110 #[.string s,.string sub] w fun e w'=>e=.returned (.int .i64 (Lib.index s.data.toList sub.data.toList))∧w'=w:=Any.strings_Index Tryz.So s sub m w b a
def Tryz.ER:Go.Shelf.Ren:=⟨fun|144=>67|143=>110|219=>150|217=>68|225=>181|224=>180|267=>182|266=>111|314=>223|n=>n,fun|9=>9|4=>4|3=>3|5=>5|46=>246|146=>279|51=>278|n=>n,fun|1=>0|n=>n⟩
theorem Tryz.Sp:Go.Proofs.Lays.n144 Tryz.prog Tryz.ER:=by repeat' first|kernel_rfl|(intro _;kernel_rfl)|constructor
open Go.RowKit Go.Lib in
theorem Tryz.strings_Contains (s sub:ByteArray) (m:Int) (w:World) (b:s.size<4294967281) (a:w.cell? ⟨0,0,none⟩=some (.int .i64 m)):
 Calls Tryz.prog 67 #[.string s,.string sub] w fun e w'=>e=.returned (.bool (Lib.contains s.data.toList sub.data.toList))∧w'=w:=Any.strings_Contains Tryz.Sp s sub m w b a
def Tryz.ES:Go.Shelf.Ren:=⟨fun|145=>94|220=>131|219=>150|217=>68|225=>181|224=>180|267=>182|266=>111|314=>223|n=>n,fun|9=>9|4=>4|59=>161|3=>3|5=>5|46=>246|146=>279|51=>278|n=>n,fun|1=>0|n=>n⟩
theorem Tryz.Sq:Go.Proofs.Lays.n145 Tryz.prog Tryz.ES:=by repeat' first|kernel_rfl|(intro _;kernel_rfl)|constructor
open Go.RowKit Go.Lib in
theorem Tryz.strings_Cut (s a:ByteArray) (m:Int) (w:World) (c:s.size<4294967281) (b:w.cell? ⟨0,0,none⟩=some (.int .i64 m)):
 Calls Tryz.prog 94 #[.string s,.string a] w fun e w'=>e=.returned (.tuple #[.string ⟨(Lib.cut s.data.toList a.data.toList).1.toArray⟩,.string ⟨(Lib.cut s.data.toList a.data.toList).2.1.toArray⟩,.bool (Lib.cut s.data.toList a.data.toList).2.2])∧∃n,w'=w.drewN n:=Any.strings_Cut Tryz.Sq s a m w c b
def Tryz.ET:Go.Shelf.Ren:=⟨fun|149=>134|222=>169|n=>n,fun|9=>9|5=>5|3=>3|4=>4|n=>n,fun|n=>n⟩
theorem Tryz.Sr:Go.Proofs.Lays.n149 Tryz.prog Tryz.ET:=by repeat' first|kernel_rfl|(intro _;kernel_rfl)|constructor
open Go.RowKit Go.Lib in
theorem Tryz.strings_LastIndexByte (s:ByteArray) (c:Int) (a:s.size<4611686018427387904) (w:World):
 Calls Tryz.prog 134 #[.string s,.int .u8 c] w fun e w'=>e=.returned (.int .i64 (Lib.lastIndexByte s c))∧w'=w:=Any.strings_LastIndexByte Tryz.Sr s c a w
def Tryz.H9:Go.Shelf.Ren:=⟨fun|99=>28|206=>64|n=>n,fun|9=>9|4=>4|3=>3|n=>n,fun|n=>n⟩
theorem Tryz.UA:Go.Proofs.Lays.n99 Tryz.prog Tryz.H9:=by repeat' first|kernel_rfl|(intro _;kernel_rfl)|constructor
open Go.RowKit Go.Lib in
theorem Tryz.strings_HasPrefix (s p:ByteArray) (w:World):
 Calls Tryz.prog 28 #[.string s,.string p] w fun e w'=>e=.returned (.bool (Lib.hasPrefix s.data.toList p.data.toList))∧w'=w:=Any.strings_HasPrefix Tryz.UA s p w
def Tryz.EU:Go.Shelf.Ren:=⟨fun|146=>263|221=>266|268=>267|138=>268|143=>110|195=>269|197=>107|218=>270|219=>150|260=>147|217=>68|225=>181|224=>180|267=>182|266=>111|314=>223|n=>n,fun|9=>9|31=>42|3=>3|4=>4|0=>0|105=>179|21=>21|5=>5|46=>246|119=>245|139=>249|138=>248|146=>279|51=>278|n=>n,fun|1=>0|3=>1|4=>2|n=>n⟩
theorem Tryz.Ss:Go.Proofs.Lays.n146 Tryz.prog Tryz.EU:=by repeat' first|kernel_rfl|(intro _;kernel_rfl)|constructor
open Go.RowKit Go.Lib in
theorem Tryz.strings_Split (s a:ByteArray) (m:Int) (w:World) (d:s.size<4294967281) (c:w.cell? ⟨0,0,none⟩=some (.int .i64 m)) (b:1≤a.size):
 Calls Tryz.prog 263 #[.string s,.string a] w fun e w'=>e=.returned (.slice (some ⟨w.heap.size,0,none⟩) (Lib.countB s a+1) (Lib.countB s a+1))∧w'=w.alloc (.cells ((Lib.splitB a 0 (Lib.countB s a) s).map Value.string).toArray 9):=Any.strings_Split Tryz.Ss (by kernel_rfl) s a m w d c b
def Tryz.EV:Go.Shelf.Ren:=⟨fun|157=>153|229=>187|199=>188|261=>229|311=>257|312=>258|n=>n,fun|9=>9|31=>42|3=>3|5=>5|4=>4|119=>245|0=>0|40=>250|152=>285|21=>21|154=>287|51=>278|141=>289|196=>311|193=>308|198=>314|49=>312|194=>309|201=>317|226=>328|46=>246|227=>329|n=>n,fun|0=>3|6=>5|n=>n⟩
theorem Tryz.St:Go.Proofs.Lays.n157 Tryz.prog Tryz.EV:=by repeat' first|kernel_rfl|(intro _;kernel_rfl)|constructor
open Go.RowKit Go.Lib in
theorem Tryz.strings_Fields (s:ByteArray) (w:World) (c:s.size<4294967281) (a:∀(j:Nat) b,s.data.toList[j]? =some b→b.toNat<128) (d:Lib.TabIs Tryz.prog w "strings.asciiSpace" .u8 Lib.asciiSpaceTab):
 Calls Tryz.prog 153 #[.string s] w fun e w'=>e=.returned (.slice (some ⟨w.heap.size,0,none⟩) (Lib.fields s.data.toList).length (Lib.fields s.data.toList).length)∧w'=w.alloc (.cells ((Lib.fields s.data.toList).map fun l=>Value.string ⟨l.toArray⟩).toArray 9):=Any.strings_Fields Tryz.St (by kernel_rfl) (by kernel_rfl) s w c a d
def Tryz.EW:Go.Shelf.Ren:=⟨fun|110=>122|109=>157|n=>n,fun|31=>42|9=>9|4=>4|3=>3|0=>0|n=>n,fun|n=>n⟩
theorem Tryz.JX:Go.Proofs.Lays.n110 Tryz.prog Tryz.EW:=by repeat' first|kernel_rfl|(intro _;kernel_rfl)|constructor
open Go.Lib in
theorem Tryz.slices_Contains_string (b off n c:Nat) (a:List ByteArray) (x:ByteArray) (w:World) (i:n≤a.length) (d:n≤9223372036854775807) (h:∀j,j<a.length→w.cell? ⟨b,off+j,none⟩=some (.string (a.getD j ByteArray.empty))):
 Calls Tryz.prog 122 #[.slice (some ⟨b,off,none⟩) n c,.string x] w fun e w'=>e=.returned (.bool (Lib.containsS (a.take n) x))∧w'=w:=Any.slices_Contains_string Tryz.JX b off n c a x w i d h
open Go.Lib in
theorem Tryz.slices_Contains_string_empty (a:Option Addr) (c:Nat) (x:ByteArray) (w:World):
 Calls Tryz.prog 122 #[.slice a 0 c,.string x] w fun e w'=>e=.returned (.bool false)∧w'=w:=Any.slices_Contains_string_empty Tryz.JX a c x w
end Go.Proofs
namespace Go.Proofs.YtlemddnecmmfgaaGreatDoor
open Go.RowKit
variable{I:ByteArray}{a d:Nat}{i:World}
def pM(w:World)(b:Nat)(s:ByteArray)(k:Nat):Prop:=
 ∃(C:Array Value) (m:Nat),w.heap[b]? =some (.cells C 5 (m,m+1))∧C.size=m∧s.size≤m∧
  ∀j (h:j<s.size),C[j]? =some (.int .u8 ((if j<k then ui s[j] else s[j]).toNat:Int))
theorem Cz(w:World)(s:ByteArray)(n:Nat):
 pM (w.drew.alloc (.cells (bytesRow s n) 5 ((bytesRow s n).size,(bytesRow s n).size+1))) w.heap.size s 0:=by
 refine⟨bytesRow s n,_,heap_alloc_new w.drew _,rfl, ?_, ?_⟩
 ·unfold bytesRow;rw[Array.size_append,Array.size_map];show s.data.size≤_;omega
 ·intro j h;rw[ae (by omega)];unfold bytesRow;rw[Array.getElem?_append_left (by simpa using h)];simp only[Array.getElem?_map];have:s.data[j]? =some s[j]:=by have:=OJ s j h;simpa using this
  rw[this];rfl
theorem Fq(h:pM i a I d)(j:d<I.size):
 i.cell? ⟨a,d,none⟩=some (.int .u8 (I[d].toNat:Int))∧i.frozen? ⟨a,d,none⟩=false:=by
 obtain⟨C,m,c,l,n,e⟩:=h;have:=e d j;rw[ae (by omega)] at this;constructor
 ·unfold World.cell?;rw[show i.heap[(⟨a,d,none⟩:Addr).block]? =_ from c];simpa using this
 ·unfold World.frozen?;rw[show i.heap[(⟨a,d,none⟩:Addr).block]? =_ from c];simp;omega
theorem IN(h:pM i a I d)(t:d<I.size)(v:Int)(r:((ui I[d]).toNat:Int)=v):
 pM (i.setCell ⟨a,d,none⟩ (.int .u8 v)) a I (d+1):=by
 obtain⟨C,m,n,l,q,o⟩:=h;refine⟨C.setIfInBounds d (.int .u8 v),m,Lib.heap_setCell_same n _,by simpa using l,q, ?_⟩;intro j p;rw[Array.getElem?_setIfInBounds];by_cases e:d=j
 ·subst e;rw[ah rfl,ah (by omega),ah (by omega),r]
 ·rw[ae e,o j p];by_cases c:j<d
  ·rw[ah c,ah (by omega)]
  ·rw[ae c,ae (by omega)]
theorem Fs(h:pM i a I d)(t:d<I.size)(r:ui I[d]=I[d]):pM i a I (d+1):=by
 obtain⟨C,m,n,l,q,o⟩:=h;refine⟨C,m,n,l,q, ?_⟩;intro j p;rw[o j p];by_cases e:j=d
 ·subst e;rw[ae (by omega),ah (by omega),r]
 ·by_cases c:j<d
  ·rw[ah c,ah (by omega)]
  ·rw[ae c,ae (by omega)]
theorem Ft(h:pM i a I d)(x:I.size≤d)(cap:Nat):
 (convert 83 9 (.slice (some ⟨a,0,none⟩) I.size cap)).run Tryz.prog i=.ok (.string ⟨(lower I.data.toList).toArray⟩) i:=by
 obtain⟨C,m,r,u,y,t⟩:=h;have:=run_convert_bytes_back (P:=Tryz.prog) i 83 9 5 ⟨a,0,none⟩ cap (lower I.data.toList) u83 u5 u9 (fun j c=>by
  have p:j<I.size:=by rw[jf,bj] at c;exact c
  have e:((⟨a,0,none⟩:Addr).add j)=⟨a,j,none⟩:=by
   unfold Addr.add;by_cases l:j=0
   ·subst l;rfl
   ·rw[ae l];simp
  rw[e];unfold World.cell?;rw[show i.heap[(⟨a,j,none⟩:Addr).block]? =_ from r];have n:=t j p;rw[ah (by omega)] at n;have q:(lower I.data.toList)[j]=ui I[j]:=by
   have:=OJ I j p;have o:(lower I.data.toList)[j]? =some (ui I[j]):=by rw[lower,uI,this];rfl
   rw[cA c] at o;exact iS o
  rw[q];simpa using n)
 rw[jf,bj] at this;exact this
theorem nU(s:ByteArray)(w:World)(t:s.size≤140737488351232):
 Calls Tryz.prog 70 #[.string s] w (cN w (.string ⟨(lower s.data.toList).toArray⟩)):=by
 have m:=fun(w:World)=>run_bytes_of_string (P:=Tryz.prog) w 9 83 5 s u9 u83 u5;go_enter Tryz.func70,Tryz.ntmps70;go_wp2;have e:=Cz w s (grownCap w s.size 0 5)
 go_loopw [9] (fun i wr=>∃k:Nat,k≤s.size∧i=.int .i64 k∧pM wr w.heap.size s k∧Below w.heap.size w wr) (fun i _=>s.size-(intOf i).toNat)
 case atStart=>exact⟨0,aH _,rfl,e,((Below.refl _ _).alloc (ag _) _).drew⟩
 case round=>
  clear e m;obtain⟨k,r,rfl,a,c⟩:=hrel;by_cases d:k<s.size
  ·obtain⟨n,q⟩:=Fq a d;by_cases h:(65:Int)≤↑s[k].toNat∧(↑s[k].toNat:Int)≤90
   ·obtain⟨j,l⟩:=h;have b:=Lib.hid (JP s[k] j l);go_wp2
    go_roundw
    case rel=>exact⟨k+1,by omega,by go_num,IN a d _ b.out,c.setCell (p:=⟨_,_,none⟩) (ag _) _⟩
    case measure=>simp[intOf];omega
   ·have b:=Lib.hid (xM s[k] h);go_wp2;all_goals
     go_roundw
     case rel=>exact⟨k+1,by omega,by go_num,Fs a d b.out,c⟩
     case measure=>simp[intOf];omega
  ·have o:=Ft a (by omega);go_wp2;go_ret;exact⟨rfl,c⟩
theorem qg(a b:ByteArray)(w:World)(d:a.size≤140737488351232)(h:b.size≤140737488351232):
 Calls Tryz.prog 32 #[.string a,.string b] w (cN w (.bool (same a.data.toList b.data.toList))):=by
 go_enter Tryz.func32,Tryz.ntmps32;go_wp2_with fail;refine(nU a _ d).m ?_;rintro e j⟨rfl,c⟩;go_wp2_with fail;refine(nU b _ h).m ?_;rintro e k⟨rfl,i⟩;go_wp2_with fail;go_ret;exact⟨cq (by simp[same]),c.t (i.m c.size)⟩
theorem Ef{w w':World}(h:∃n,w'=w.drewN n):Below w.heap.size w w':=by obtain⟨n,rfl⟩:=h;exact⟨rfl,rfl,rfl,ag _,fun _ _=>rfl⟩
theorem Ec(v:Value)(ls:List Bs)(d:ByteArray)(w:World)(h:cg w v ls)(k:Uq ls)(r:d.size≤2):
 Calls Tryz.prog 26 #[v,.string d] w (cN w (.string ⟨(Lib.join ls d.data.toList).toArray⟩)):=by
 have t:=k.many;rcases h with⟨a,c,rfl,rfl⟩|⟨b,o,c,rfl,n,q,p⟩
 ·refine(Tryz.strings_Join_none a c d w).m ?_;rintro e w'⟨rfl,rfl⟩;exact⟨rfl,Below.refl _ _⟩
 ·have i:((ls.map fun l=>(⟨l.toArray⟩:ByteArray)).map (·.data.toList))=ls:=by rw[List.map_map];exact List.map_id' ls
  have s:=oX k d.data.toList (by rw[bj];exact r);have:=Tryz.strings_Join b o c (ls.map fun l=>(⟨l.toArray⟩:ByteArray)) d w (fun j x i=>by rw[uI] at i;obtain⟨l,k,rfl⟩:=qG.1 i;exact p j l k) q (by rw[jo];omega) (by rw[jo];exact n) (by rw[i];omega)
  rw[i,jo] at this;exact this
theorem fI(s:ByteArray)(c:UInt8)(w:World)(a:Good w)(d:s.size<4294967281):
 Calls Tryz.prog 94 #[.string s,.string ⟨#[c]⟩] w (cN w (.tuple #[.string ⟨(upto c s.data.toList).toArray⟩,.string ⟨(past c s.data.toList).toArray⟩,.bool (hasB c s.data.toList)])):=by
 obtain⟨i,b⟩:=a;refine(Tryz.strings_Cut s ⟨#[c]⟩ i w d b).m ?_;rintro e w'⟨rfl,h⟩;have:(⟨#[c]⟩:ByteArray).data.toList=[c]:=rfl;rw[this,Eg];exact⟨rfl,Ef h⟩
theorem JK(s a:ByteArray)(w:World)(b:Good w)(d:s.size<4294967281):
 Calls Tryz.prog 94 #[.string s,.string a] w (cN w (.tuple #[.string ⟨(Lib.cut s.data.toList a.data.toList).1.toArray⟩,.string ⟨(Lib.cut s.data.toList a.data.toList).2.1.toArray⟩,.bool (Lib.cut s.data.toList a.data.toList).2.2])):=by
 obtain⟨i,c⟩:=b;refine(Tryz.strings_Cut s a i w d c).m ?_;rintro e w'⟨rfl,h⟩;exact⟨rfl,Ef h⟩
theorem nn(s sub:ByteArray)(w:World)(a:Good w)(c:s.size<4294967281):
 Calls Tryz.prog 67 #[.string s,.string sub] w fun e w'=>e=.returned (.bool (Lib.contains s.data.toList sub.data.toList))∧w=w':=by
 obtain⟨d,b⟩:=a;refine(Tryz.strings_Contains s sub d w c b).m ?_;rintro e w'⟨rfl,rfl⟩;exact⟨rfl,rfl⟩
theorem mN(s sub:ByteArray)(w:World)(a:Good w)(c:s.size<4294967281):
 Calls Tryz.prog 110 #[.string s,.string sub] w fun e w'=>e=.returned (.int .i64 (Lib.index s.data.toList sub.data.toList))∧w=w':=by
 obtain⟨d,b⟩:=a;refine(Tryz.strings_Index s sub d w c b).m ?_;rintro e w'⟨rfl,rfl⟩;exact⟨rfl,rfl⟩
theorem cj(s p:ByteArray)(w:World):
 Calls Tryz.prog 28 #[.string s,.string p] w fun e w'=>e=.returned (.bool (Lib.hasPrefix s.data.toList p.data.toList))∧w=w':=by
 refine(Tryz.strings_HasPrefix s p w).m ?_;rintro e w'⟨rfl,rfl⟩;exact⟨rfl,rfl⟩
theorem XM(s a:ByteArray)(w:World)(e:s.size≤9223372036854775807)(d:a.size<4294967281)(c:∀(j:Nat) b,a.data.toList[j]? =some b→b.toNat<128):
 Calls Tryz.prog 27 #[.string s,.string a] w (cN w (.string ⟨(Lib.trimS s.data.toList a.data.toList).toArray⟩)):=
 Any.strings_Trim_laid Tryz.JL (by kernel_rfl) s a w e d c
theorem rU(a:Option Addr)(c:Nat)(name:ByteArray)(w:World):
 Calls Tryz.prog 249 #[.slice a 0 c,.string name] w (vU w []):=by
 go_enter Tryz.func249,Tryz.ntmps249;go_wp2;refine wp_loop_rounds 1 ?_;rw[rounds_succ];go_wp2;go_ret;exact⟨_,rfl,World.ownsRow_nil _ _ _ _,Below.refl _ _⟩
theorem rV(fs:List dQ)(b o c:Nat)(name:ByteArray)(w:World)(G:fs.length≤c)(A:b<w.heap.size)(hF:tI w b o fs)(r:rX fs)(D:name.size≤140737488351232):
 Calls Tryz.prog 249 #[.slice (some ⟨b,o,none⟩) fs.length c,.string name] w (vU w (values fs name.data.toList)):=by
 have K:=r.many;go_enter Tryz.func249,Tryz.ntmps249;go_wp2
 go_loopw [4,9] (fun v i wr=>∃k:Nat,k≤fs.length∧i=.int .i64 k∧wr.ownsRow w.heap.size 9 1 v (values (fs.take k) name.data.toList).length (cM (values (fs.take k) name.data.toList))∧Below w.heap.size w wr) (fun _ i _=>fs.length-(intOf i).toNat)
 case atStart=>exact⟨0,aH _,rfl,World.ownsRow_nil _ _ _ _,Below.refl _ _⟩
 case round=>
  obtain⟨k,J,rfl,j,a⟩:=hrel;have x:=a.size;by_cases C:k<fs.length
  ·obtain⟨f,h⟩:∃f,fs[k]? =some f:=⟨fs[k],cA C⟩;obtain⟨y,z⟩:=(hF.below a A) k f h;have I:=r.get h;have q:=Lib.hid h;clear h;have N:=vR fs name.data.toList k;go_wp2_with fail;refine(qg _ _ _ (by simp[ByteArray.size];omega) D).m ?_;rintro e F⟨rfl,n⟩;have H:F.cell? ⟨wr.heap.size,1,none⟩=some (.string ⟨f.2.toArray⟩):=(n.cell (p:=⟨wr.heap.size,1,none⟩) (by simp)).t (bH wr _ _ 1 _ rfl);have d:=eG n;have L:=d.size;have s:=cp j d;clear y z j n;rcases u:same f.1 name.data.toList with _|_
   ·have l:=Lib.hid u;go_wp2
    go_roundw
    case rel=>refine⟨k+1,by omega,by go_num, ?_,a.t (d.m x)⟩;rw[Lo fs _ k f q.out l.out];exact s
    case measure=>simp[intOf];omega
   ·have l:=Lib.hid u;go_wp2_with (at_builtin;refine CZ rfl _ _ 42 rfl 9 (.string ⟨#[]⟩) 1 16 u42 MO rfl (by decide) w.heap.size _ _ _ _ rfl s [.string ⟨f.2.toArray⟩] rfl rfl rfl (by simp[Value.oneCell']) (by omega) (by omega) (by omega) ?_;intro g cap O E B M)
    go_roundw
    case rel=>refine⟨k+1,by omega,by go_num, ?_,a.t ((d.m x).t B)⟩;rw[G6 fs _ k f q.out l.out,oG,bB];exact E
    case measure=>simp[intOf];omega
  ·go_wp2;go_ret;refine⟨_,rfl, ?_,a⟩;rw[oe (by omega)] at j;exact j
theorem qM(fs:List dQ)(v:Value)(name:ByteArray)(w:World)(hF:aZ w v fs)(h:rX fs)(j:name.size≤140737488351232):
 Calls Tryz.prog 249 #[v,.string name] w (vU w (values fs name.data.toList)):=by
 rcases hF with⟨a,c,rfl,rfl⟩|⟨b,o,c,rfl,d,i,e⟩
 ·exact rU a c name w
 ·exact rV fs b o c name w d i e h j
theorem il(s p:ByteArray)(w:World):
 Calls Tryz.prog 232 #[.string s,.string p] w fun e w'=>e=.returned (.tuple #[.string ⟨(Lib.trimPrefix s.data.toList p.data.toList).toArray⟩,.bool (Lib.hasPrefix s.data.toList p.data.toList)])∧w=w':=by
 refine(Tryz.strings_CutPrefix s p w).m ?_;rintro e w'⟨rfl,rfl⟩;exact⟨rfl,rfl⟩
theorem fw(s a:ByteArray)(w:World)(d:a.size<4294967281)(c:∀(j:Nat) b,a.data.toList[j]? =some b→b.toNat<128):
 Calls Tryz.prog 79 #[.string s,.string a] w (cN w (.string ⟨(Lib.trimLeftS s.data.toList a.data.toList).toArray⟩)):=
 Any.strings_TrimLeft_laid Tryz.RV (by kernel_rfl) s a w d c
theorem G2(s:ByteArray)(c:UInt8)(w:World)(h:Good w)(j:s.size<4294967281):
 Calls Tryz.prog 263 #[.string s,.string ⟨#[c]⟩] w (vU w (pieces c s.data.toList)):=by
 obtain⟨k,i⟩:=h;refine(Tryz.strings_Split s ⟨#[c]⟩ k w j i (ag 1)).m ?_;rintro e w'⟨rfl,rfl⟩;have b:(Lib.splitB ⟨#[c]⟩ 0 (Lib.countB s ⟨#[c]⟩) s).map (·.data.toList)=pieces c s.data.toList:=by rw[Lib.splitB_data];exact Cc c _ _ (ag _)
 have a:(pieces c s.data.toList).length=Lib.countB s ⟨#[c]⟩+1:=by rw[←b,jo];exact Lib.splitB_all ⟨#[c]⟩ (ag 1) 0 _ s rfl
 have d:(Lib.splitB ⟨#[c]⟩ 0 (Lib.countB s ⟨#[c]⟩) s).map Value.string=cM (pieces c s.data.toList):=by rw[←b];unfold cM;rw[List.map_map];rfl
 have l:Lib.countB s ⟨#[c]⟩≤s.size:=Lib.countB_le ⟨#[c]⟩ (ag 1) s.size s (ag _);refine⟨_,rfl, ?_,(Below.refl _ _).alloc (ag _) _⟩;rw[d,a];refine⟨by rw[nk,a];omega,.inr ⟨w.heap.size,_,_,rfl,ag _,heap_alloc_new w _,ag _,by unfold maxLen;omega, ?_, ?_⟩⟩
 ·simp[nk,a]
 ·simp only[Nat.mul_one];rw[oe (by rw[List.toList_toArray,nk,a];omega)]
variable{w:List dQ}
theorem rA(fs:List dQ)(v:Value)(name:ByteArray)(w:World)(hF:aZ w v fs)(d:rX fs)(l:name.size≤140737488351232):
 Calls Tryz.prog 246 #[v,.string name] w (cN w (.tuple #[.string ⟨(jz fs name.data.toList).1.toArray⟩,.bool (jz fs name.data.toList).2])):=by
 have i:=d.values name.data.toList;go_enter Tryz.func246,Tryz.ntmps246;go_wp2_with fail;refine(qM fs v name _ hF d l).m ?_;rintro e n⟨u,rfl,h,b⟩;have j:=cg.wO h;obtain⟨a,c,rfl⟩:=aX h;go_wp2_with fail;refine(Ec _ _ ⟨#[44,32]⟩ _ j i (by decide)).m ?_;rintro e o⟨rfl,k⟩;go_wp2_with fail;go_ret2;exact⟨by simp[jz],b.t (k.m b.size)⟩
theorem Ed(h:rX w)(name:Bs):(jz w name).1.length≤100002000:=oX (h.values name) [44,32] (by decide)
theorem Ty(l:Bs)(n:Nat)(h:l.length≤n):(⟨l.toArray⟩:ByteArray).size≤n:=by show l.toArray.size≤n;simpa using h
theorem GV(l:Bs)(n:Nat)(h:l.length<n):(⟨l.toArray⟩:ByteArray).size<n:=by show l.toArray.size<n;simpa using h
theorem B9(h:rX w):(fe w).1.length≤100002000:=oX (h.values bA) [59,32] (by decide)
theorem mR(s:ByteArray)(w:World)(b:s.size≤9223372036854775807):
 Calls Tryz.prog 250 #[.string s] w (cN w (.string ⟨(trim s.data.toList).toArray⟩)):=by
 go_enter Tryz.func250,Tryz.ntmps250;go_wp2_with fail;refine(Any.strings_Trim_laid Tryz.JL (by kernel_rfl) s ⟨#[32,9]⟩ _ b (by decide) (ascii_of_all (by decide))).m ?_;rintro e c⟨rfl,a⟩;go_wp2_with fail;go_ret;exact⟨rfl,a⟩
