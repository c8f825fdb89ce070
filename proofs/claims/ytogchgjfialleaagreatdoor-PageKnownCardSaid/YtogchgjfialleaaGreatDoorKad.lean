/- How lists of fields and of texts lie in memory. Lists of fields that a call owns: copied, and built. -/
import Derived.Test.YtogchgjfialleaaGreatDoorKac
set_option linter.unusedVariables false
namespace Go.Proofs.YtogchgjfialleaaGreatDoor
open Go.Lib
structure bc where
 src:Int
 bJ:Int
 name:Bs
 key:Bs
 cK:Bs
 hk:Bool
 hd:Bool
def aC:bc:=⟨0,0,[],[],[],false,false⟩
inductive Ex where
 |mk (kind:Int) (text:Bs) (use:bc) (kids:List Ex)
def sF:Ex:=.mk 0 [] aC []
def ry(k:Int)(x:Ex):Ex:=.mk k [] aC [x]
def oA(k:Int)(x y:Ex):Ex:=.mk k [] aC [x,y]
def ox(k:Int)(t:Bs):Ex:=.mk k t aC []
def sX(n i:Nat)(p:gi):bc:=⟨(i:Int),((n-p.rest.length:Nat):Int),p.name,p.key,p.cK,p.hk,p.hd⟩
def yA(u:bc):Ex:=.mk 12 [] u []
inductive cG where
 |aq (x:Ex) (bJ:Nat)
 |ay (place:Nat) (e:Int)
def mE(c:UInt8):Bool:=decide (c.toNat=32∨c.toNat=9∨c.toNat=10∨c.toNat=13)
def G5:Bs:=[32,9,10,13]
theorem An:(fun c=>G5.contains c)=mE:=jg _ _ (by decide+kernel)
def Ct:Bs:=[48,49,50,51,52,53,54,55,56,57]
theorem Bd:(fun c=>Ct.contains c)=kH:=jg _ _ (by decide+kernel)
def rs(s:Bs)(i:Nat):Bs:=(s.drop i).dropWhile mE
def pa(s:Bs)(i:Nat):Nat:=s.length-(rs s i).length
theorem vZ(s:Bs){i:Nat}(h:i≤s.length):pa s i=i+lead mE (s.drop i):=by unfold pa rs;rw[←cz,bK,bK];have:=iV mE (s.drop i);rw[bK] at this;omega
theorem sZ(s:Bs){i:Nat}(h:i≤s.length):s.drop (pa s i)=rs s i:=by rw[vZ s h,←fh,cz];rfl
theorem cY(s:Bs)(i:Nat):pa s i≤s.length:=Nat.sub_le _ _
theorem jP(s:Bs){i:Nat}(h:i≤s.length):i≤pa s i:=by rw[vZ s h];exact sd _ _
theorem SH{s:Bs}{i:Nat}{c:UInt8}{r:Bs}(h:rs s i=c::r):mE c=false:=by
 unfold rs at h;have:=List.dropWhile_cons_of_pos (p:=mE) (a:=c) (l:=r);cases d:mE c
 ·rfl
 ·exfalso;have b:((s.drop i).dropWhile mE).dropWhile mE=(s.drop i).dropWhile mE:=by
   generalize s.drop i=l;induction l with
   |nil=>rfl
   |cons x l j=>
    rw[r9];split
    ·exact j
    ·rename_i e;rw[r9,ae e]
  rw[h,r9,ah d] at b;have:=congrArg List.length b;have k:=cB mE r;simp only[bF] at this;omega
theorem fL(s:Bs){i:Nat}(h:i≤s.length):rs s (pa s i)=rs s i:=by
 conv=>lhs;unfold rs
 rw[sZ s h];cases a:rs s i with
 |nil=>rfl
 |cons c r=>rw[r9,SH a];rfl
theorem pJ(s:Bs){i:Nat}(h:i≤s.length):pa s (pa s i)=pa s i:=by show s.length-(rs s (pa s i)).length=_;rw[fL s h];rfl
theorem nP(s:Bs){i:Nat}(h:i≤s.length):(rs s i).length=s.length-pa s i:=by rw[←sZ s h,bK]
def Tx(deep:Option (Nat→cG))(s:Bs)(i:Nat):cG:=
 match deep with
 |none=>.ay i 3
 |some f=>match f (i+1) with
  |.ay p e=>.ay p e
  |.aq x t=>bif hasPrefix (rs s t) [41] then .aq x (pa s t+1) else .ay (pa s t) 15
def Tw(s:Bs)(i:Nat)(r:Bs):cG:=bif r.contains 39 then .aq (ox 10 (upto 39 r)) (i+1+(upto 39 r).length+1) else .ay s.length 15
def D9(i:Nat)(d:Bs):cG:=bif decide (d.length≤18) then .aq (ox 11 d) (i+d.length) else .ay (i+18) 15
def zz(s:Bs)(i:Nat)(r:Bs):cG:=match df r with|some p=>.aq (yA (sX s.length i p)) (s.length-p.rest.length)|none=>.ay i 15
def opAt(deep:Option (Nat→cG))(s:Bs)(i:Nat):Bs→cG
 |[]=>.ay i 15
 |c::r=>bif c==40 then Tx deep s i else bif c==39 then Tw s i r else bif kH c then D9 i ((c::r).takeWhile kH) else zz s i (c::r)
def qL(deep:Option (Nat→cG))(s:Bs)(i:Nat):cG:=opAt deep s (pa s i) (rs s i)
def oV(r:Bs):Option (Nat×Nat):=
 bif hasPrefix r [61,61] then some (0,2) else bif hasPrefix r [33,61] then some (1,2) else bif hasPrefix r [60,61] then some (3,2) else bif hasPrefix r [60] then some (2,1) else bif hasPrefix r [62,61] then some (5,2) else bif hasPrefix r [62] then some (4,1) else none
def ou(deep:Option (Nat→cG))(s:Bs)(x:Ex)(t:Nat):cG:=
 match oV (rs s t) with
 |none=>.aq x t
 |some (k,n)=>match qL deep s (pa s t+n) with
  |.ay p e=>.ay p e
  |.aq y a=>.aq (oA (4+k) x y) a
def zA(deep:Option (Nat→cG))(s:Bs)(i:Nat):cG:=
 match qL deep s i with
 |.ay p e=>.ay p e
 |.aq x t=>ou deep s x t
def uf(b a:Option (Nat→cG))(s:Bs)(i:Nat):cG:=
 bif hasPrefix (rs s i) [33] then match a with
  |none=>.ay (pa s i) 3
  |some f=>match f (pa s i+1) with
   |.ay p e=>.ay p e
   |.aq x t=>.aq (ry 3 x) t
 else zA b s i
def kp(one:Nat→cG)(kind:Int)(a:UInt8)(s:Bs):Nat→Ex→Nat→cG
 |0,x,t=>.aq x t
 |n+1,x,t=>bif hasPrefix (rs s t) [a] then match one (pa s t+1) with
  |.ay p e=>.ay p e
  |.aq y b=>kp one kind a s n (oA kind x y) b
  else .aq x t
def rz(one:Nat→cG)(kind:Int)(a:UInt8)(s:Bs)(i:Nat):cG:=
 match one i with
 |.ay p e=>.ay p e
 |.aq x t=>kp one kind a s (s.length+1) x t
def WS(b a:Option (Nat→cG))(s:Bs)(i:Nat):cG:=rz (rz (uf b a s) 2 38 s) 1 124 s i
def LX(s:Bs):Nat→(Nat→cG)×(Nat→cG)
 |0=>(WS none none s,uf none none s)
 |k+1=>(WS (some (LX s k).1) (some (LX s k).2) s,uf (some (LX s k).1) (some (LX s k).2) s)
def vh(s:Bs)(k:Nat):Nat→cG:=(LX s k).1
def je(s:Bs)(k:Nat):Nat→cG:=(LX s k).2
def zI(s:Bs):Nat→Option (Nat→cG)
 |0=>none
 |k+1=>some (vh s k)
def TR(s:Bs):Nat→Option (Nat→cG)
 |0=>none
 |k+1=>some (je s k)
def UQ(s:Bs)(k:Nat):Nat→cG:=rz (je s k) 2 38 s
theorem wC(s:Bs)(k:Nat):je s k=uf (zI s k) (TR s k) s:=by cases k<;>rfl
theorem UR(s:Bs)(k:Nat):vh s k=rz (UQ s k) 1 124 s:=by
 have:vh s k=WS (zI s k) (TR s k) s:=by cases k<;>rfl
 rw[this];unfold UQ;rw[wC];rfl
def Cu(s:Bs)(k:Nat):Nat→cG:=zA (zI s k) s
def nT(s:Bs)(k:Nat):Nat→cG:=qL (zI s k) s
def ew(s:Bs):Ex×Nat×Int:=
 match vh s 16 0 with
 |.ay p e=>(sF,p,e)
 |.aq x t=>bif decide (pa s t=s.length) then(x,0,0) else(sF,pa s t,15)
def Fits(s:Bs)(i:Nat):cG→Prop
 |.aq _ t=>i<t∧t≤s.length
 |.ay p e=>p≤s.length∧(e=3∨e=15)
def jV(s:Bs)(f:Nat→cG):Prop:=∀i,i≤s.length→Fits s i (f i)
def pC(s:Bs)(f:Option (Nat→cG)):Prop:=∀g,f=some g→jV s g
theorem vA{s:Bs}{i:Nat}(b:i≤s.length){c:UInt8}{r:Bs}(h:rs s i=c::r):pa s i+1+r.length=s.length:=by have a:=nP s b;have d:=cY s i;rw[h,bF] at a;omega
theorem nR{s:Bs}{i:Nat}(a:i≤s.length){p:Bs}(h:hasPrefix (rs s i) p=true):pa s i+p.length≤s.length:=by have b:=nP s a;have c:=cY s i;have:=gL h;omega
theorem vV{c:UInt8}{r:Bs}(h:r.contains c=true):(upto c r).length<r.length:=by rw[←kF,gu];have:=kx c r h;omega
theorem Cp{s:Bs}{d:Option (Nat→cG)}(o:pC s d):jV s (qL d s):=by
 intro i m;have y:=jP s m;have j:=cY s i;unfold qL;cases u:rs s i with
 |nil=>exact⟨j,.inr rfl⟩
 |cons c r=>
  have z:=vA m u;show Fits s i (bif c==40 then _ else _);cases c==40
  ·rw[cI];cases c==39
   ·rw[cI];cases q:kH c
    ·rw[cI];unfold zz;cases k:df (c::r) with
     |none=>exact⟨j,.inr rfl⟩
     |some p=>obtain⟨a,_⟩:=gF k;simp only[bF] at a;show i<s.length-p.rest.length∧_;omega
    ·rw[aS];unfold D9;have a:((c::r).takeWhile kH).length≤(c::r).length:=by rw[←cU,gu];omega
     have h:1≤((c::r).takeWhile kH).length:=by rw[oD,ah q];simp
     simp only[bF] at a;by_cases l:((c::r).takeWhile kH).length≤18
     ·rw[bN l];show i<pa s i+_∧_;omega
     ·rw[cL l];exact⟨by omega,.inr rfl⟩
   ·rw[aS];unfold Tw;cases hq:r.contains 39
    ·exact⟨ag _,.inr rfl⟩
    ·have:=vV hq;show i<pa s i+1+(upto 39 r).length+1∧_;omega
  ·rw[aS];unfold Tx;cases d with
   |none=>exact⟨j,.inl rfl⟩
   |some f=>
    have b:=o f rfl (pa s i+1) (by omega);show Fits s i (match f (pa s i+1) with|.ay p e=>.ay p e|.aq x t=>bif hasPrefix (rs s t) [41] then .aq x (pa s t+1) else .ay (pa s t) 15);cases n:f (pa s i+1) with
    |ay p e=>rw[n] at b;exact b
    |aq x t=>
     rw[n] at b;have a:pa s i+1<t∧t≤s.length:=b;show Fits s i (bif hasPrefix (rs s t) [41] then .aq x (pa s t+1) else .ay (pa s t) 15);cases k:hasPrefix (rs s t) [41]
     ·exact⟨cY s t,.inr rfl⟩
     ·have h:=nR a.2 k;have w:=jP s a.2;simp only[mF] at h;exact⟨by omega,h⟩
theorem E9{r:Bs}{k n:Nat}(h:oV r=some (k,n)):n≤r.length∧1≤n∧n≤2∧k≤5:=by
 unfold oV at h;cases a:hasPrefix r [61,61]
 ·cases b:hasPrefix r [33,61]
  ·cases c:hasPrefix r [60,61]
   ·cases d:hasPrefix r [60]
    ·cases e:hasPrefix r [62,61]
     ·cases i:hasPrefix r [62]
      ·rw[a,b,c,d,e,i] at h;cases h
      ·rw[a,b,c,d,e,i] at h;cases h;have:=gL i;simp at this;omega
     ·rw[a,b,c,d,e] at h;cases h;have:=gL e;simp at this;omega
    ·rw[a,b,c,d] at h;cases h;have:=gL d;simp at this;omega
   ·rw[a,b,c] at h;cases h;have:=gL c;simp at this;omega
  ·rw[a,b] at h;cases h;have:=gL b;simp at this;omega
 ·rw[a] at h;cases h;have:=gL a;simp at this;omega
theorem PJ{s:Bs}{d:Option (Nat→cG)}(h:pC s d):jV s (zA d s):=by
 intro i m;have a:=Cp h i m;unfold zA;cases j:qL d s i with
 |ay p e=>rw[j] at a;exact a
 |aq x t=>
  rw[j] at a;have a:i<t∧t≤s.length:=a;show Fits s i (ou d s x t);unfold ou;cases o:oV (rs s t) with
  |none=>exact a
  |some kn=>
   obtain⟨k,n⟩:=kn;obtain⟨q,r,_,_⟩:=E9 o;have u:=nP s a.2;have w:=jP s a.2;have z:=cY s t;have b:=Cp h (pa s t+n) (by omega);show Fits s i (match qL d s (pa s t+n) with|.ay p e=>.ay p e|.aq y c=>.aq (oA (4+k) x y) c);cases l:qL d s (pa s t+n) with
   |ay p e=>rw[l] at b;exact b
   |aq y c=>rw[l] at b;have b:pa s t+n<c∧c≤s.length:=b;exact⟨by omega,b.2⟩
theorem Fe{s:Bs}{d1 d2:Option (Nat→cG)}(d:pC s d1)(h:pC s d2):jV s (uf d1 d2 s):=by
 intro i b;unfold uf;cases m:hasPrefix (rs s i) [33]
 ·exact PJ d i b
 ·have j:=nR b m;have n:=jP s b;have k:=cY s i;simp only[mF] at j;rw[aS];cases d2 with
  |none=>exact⟨k,.inl rfl⟩
  |some f=>
   have a:=h f rfl (pa s i+1) (by omega);show Fits s i (match f (pa s i+1) with|.ay p e=>.ay p e|.aq x t=>.aq (ry 3 x) t);cases c:f (pa s i+1) with
   |ay p e=>rw[c] at a;exact a
   |aq x t=>rw[c] at a;have l:pa s i+1<t∧t≤s.length:=a;exact⟨by omega,l.2⟩
theorem yG{s:Bs}{one:Nat→cG}(h:jV s one)(kind:Int)(d:UInt8)(i:Nat):∀(n:Nat) (x:Ex) (t:Nat),i<t→t≤s.length→Fits s i (kp one kind d s n x t)
 |0,_,_,c,b=>⟨c,b⟩
 |n+1,x,t,c,b=>by
  unfold kp;cases m:hasPrefix (rs s t) [d]
  ·exact⟨c,b⟩
  ·have l:=nR b m;have o:=jP s b;simp only[mF] at l;have a:=h (pa s t+1) (by omega);rw[aS];cases k:one (pa s t+1) with
   |ay p e=>rw[k] at a;exact a
   |aq y j=>rw[k] at a;have a:pa s t+1<j∧j≤s.length:=a;exact yG h kind d i n _ j (by omega) a.2
theorem pK{s:Bs}{one:Nat→cG}(h:jV s one)(kind:Int)(c:UInt8):jV s (rz one kind c s):=by
 intro i d;have a:=h i d;unfold rz;cases b:one i with
 |ay p e=>rw[b] at a;exact a
 |aq x t=>rw[b] at a;have a:i<t∧t≤s.length:=a;exact yG h kind c i _ x t a.1 a.2
theorem rL{s:Bs}{f:Nat→cG}(h:jV s f):pC s (some f):=by intro g e;cases e;exact h
theorem lq(s:Bs):∀k,jV s (vh s k)∧jV s (je s k)
 |0=>by
  have b:pC s none:=fun g h=>by cases h
  have a:jV s (je s 0):=Fe b b;exact⟨pK (pK a 2 38) 1 124,a⟩
 |k+1=>by obtain⟨c,d⟩:=lq s k;have a:jV s (je s (k+1)):=Fe (rL c) (rL d);exact⟨pK (pK a 2 38) 1 124,a⟩
theorem yD(s:Bs)(k:Nat):jV s (UQ s k):=pK (lq s k).2 2 38
end Go.Proofs.YtogchgjfialleaaGreatDoor
namespace Go.Proofs.YtogchgjfialleaaGreatDoor
open Go.Lib
mutual
theorem Ex.ind {P:Ex→Prop} (h:∀k t u l,(∀x,x∈l→P x)→P (.mk k t u l)):∀x,P x
 |.mk k t u l=>h k t u l (Ex.OI h l)
theorem Ex.OI {P:Ex→Prop} (h:∀k t u l,(∀x,x∈l→P x)→P (.mk k t u l)):∀(l:List Ex) (x:Ex),x∈l→P x
 |[],x,hx=>by cases hx
 |y::r,x,hx=>by
  rcases bL.1 hx with e|hx
  ·rw[e];exact Ex.ind h y
  ·exact Ex.OI h r x hx
end
def sY(a b:bc):Bool:=a.name==b.name&&a.key==b.key&&a.cK==b.cK&&a.hk==b.hk&&a.hd==b.hd
def Ba(a b:bc):Bool:=decide (a.src=b.src)&&decide (a.bJ=b.bJ)&&sY a b
theorem s9(u:bc):sY u u=true:=by simp[sY]
theorem nQ(u:bc):Ba u u=true:=by simp[Ba,s9]
end Go.Proofs.YtogchgjfialleaaGreatDoor
namespace Go.Proofs.YtogchgjfialleaaGreatDoor
open Go.Lib
theorem Ea(s:Bs):(∃q e,vh s 16 0=.ay q e∧ew s=(sF,q,e))∨(∃x t,vh s 16 0=.aq x t∧(ew s=(x,0,0)∨ew s=(sF,pa s t,15))):=by
 unfold ew;cases a:vh s 16 0 with
 |ay p e=>exact .inl ⟨p,e,rfl,rfl⟩
 |aq x t=>
  refine .inr ⟨x,t,rfl, ?_⟩;show(bif decide (pa s t=s.length) then(x,0,0) else(sF,pa s t,15):Ex×Nat×Int)=_∨(bif decide (pa s t=s.length) then(x,0,0) else(sF,pa s t,15):Ex×Nat×Int)=_;cases decide (pa s t=s.length)
  ·exact .inr rfl
  ·exact .inl rfl
end Go.Proofs.YtogchgjfialleaaGreatDoor
namespace Go.Proofs.YtogchgjfialleaaGreatDoor
open Go.RowKit
theorem u35:Tryz.prog.underlying 35=some (.slice 59):=by kernel_rfl
theorem TU:(Tryz.prog.info? 59).map (fun i=>(i.zero,i.size,i.bytes))=some (some (.agg #[.string ⟨#[]⟩,.string ⟨#[]⟩]),2,32):=by kernel_rfl
def aZ(w:World)(v:Value)(fs:List dQ):Prop:=
 (∃a c,v=.slice a 0 c∧fs=[])∨
 ∃b o c,v=.slice (some ⟨b,o,none⟩) fs.length c∧fs.length≤c∧b<w.heap.size∧
  ∀(j:Nat) (f:dQ),fs[j]? =some f→w.cell? ⟨b,o+j*2,none⟩=some (.string ⟨f.1.toArray⟩)∧w.cell? ⟨b,o+j*2+1,none⟩=some (.string ⟨f.2.toArray⟩)
def tI(w:World)(b o:Nat)(fs:List dQ):Prop:=
 ∀(j:Nat) (f:dQ),fs[j]? =some f→w.cell? ⟨b,o+j*2,none⟩=some (.string ⟨f.1.toArray⟩)∧w.cell? ⟨b,o+j*2+1,none⟩=some (.string ⟨f.2.toArray⟩)
theorem tI.below{w w':World}{b o n:Nat}{fs:List dQ}(h:tI w b o fs)(a:Below n w w')(d:b<n):tI w' b o fs:=fun j f c=>⟨(a.cell (p:=⟨b,_,none⟩) d).trans (h j f c).1,(a.cell (p:=⟨b,_,none⟩) d).trans (h j f c).2⟩
theorem aZ.below{w w':World}{v:Value}{fs:List dQ}(h:aZ w v fs)(a:Below w.heap.size w w'):aZ w' v fs:=by
 rcases h with h|⟨b,o,c,rfl,e,d,i⟩
 ·exact .inl h
 ·exact .inr ⟨b,o,c,rfl,e,ej d a.size,tI.below i a d⟩
end Go.Proofs.YtogchgjfialleaaGreatDoor
namespace Go.Proofs.YtogchgjfialleaaGreatDoor
open Go.RowKit
def eX:List dQ→List Value
 |[]=>[]
 |f::r=>.string ⟨f.1.toArray⟩::.string ⟨f.2.toArray⟩::eX r
theorem wQ:∀fs:List dQ,(eX fs).length=fs.length*2
 |[]=>rfl
 |f::r=>by simp[eX,wQ r];omega
theorem wR:∀fs gs:List dQ,eX (fs++gs)=eX fs++eX gs
 |[],gs=>rfl
 |f::r,gs=>by simp[eX,wR r gs]
theorem wS:∀(fs:List dQ) (u:Value),u∈eX fs→u.oneCell'=true
 |[],u,h=>by cases h
 |f::r,u,h=>by
  simp only[eX,bL] at h;rcases h with rfl|rfl|h
  ·rfl
  ·rfl
  ·exact wS r u h
theorem tJ:∀(fs:List dQ) (j:Nat) (f:dQ),fs[j]? =some f→(eX fs)[j*2]? =some (.string ⟨f.1.toArray⟩)∧(eX fs)[j*2+1]? =some (.string ⟨f.2.toArray⟩)
 |[],j,f,h=>by simp at h
 |g::r,0,f,h=>by
  obtain rfl:g=f:=by simpa using h
  exact⟨rfl,rfl⟩
 |g::r,j+1,f,h=>by have:=tJ r j f (by simpa using h);rw[show(j+1)*2=j*2+1+1 by omega];exact this
theorem C3{w:World}{b:Nat}:∀(fs:List dQ) (o:Nat),tI w b o fs→∀(j:Nat) (u:Value),(eX fs)[j]? =some u→w.cell? ⟨b,o+j,none⟩=some u
 |[],o,h,j,u,a=>by simp[eX] at a
 |f::r,o,h,0,u,a=>by
  obtain rfl:Value.string ⟨f.1.toArray⟩=u:=by simpa[eX] using a
  have:=(h 0 f rfl).1;simpa using this
 |f::r,o,h,1,u,a=>by
  obtain rfl:Value.string ⟨f.2.toArray⟩=u:=by simpa[eX] using a
  have:=(h 0 f rfl).2;simpa using this
 |f::r,o,h,j+2,u,a=>by
  have:=C3 r (o+2) (fun i g c=>by have:=h (i+1) g (by simpa using c);rw[show o+2+i*2=o+(i+1)*2 by omega];exact this) j u (by simpa[eX] using a)
  rw[show o+(j+2)=o+2+j by omega];exact this
theorem F6(g o j:Nat):((⟨g,o,none⟩:Addr).add j)=⟨g,o+j,none⟩:=by
 unfold Addr.add;by_cases a:j=0
 ·subst a;rfl
 ·rw[ae a]
def qV(w:World)(base:Nat)(v:Value)(fs:List dQ):Prop:=w.ownsRow base 59 2 v fs.length (eX fs)
theorem qV.at{w:World}{base:Nat}{v:Value}{fs:List dQ}(h:qV w base v fs):aZ w v fs:=by
 have c:=fun(g:Nat) (d:v.ownBlock=some g)=>h.cells d;have m:=h.lt;rcases h.2 with⟨rfl,e⟩|⟨g,cap,n,rfl,_,d,o,_,_,_⟩
 ·exact .inl ⟨none,0,rfl,jn e⟩
 ·refine .inr ⟨g,0,cap,rfl,by omega,(m g rfl).2,fun j f l=> ?_⟩;obtain⟨i,k⟩:=tJ fs j f l;have a:=c g rfl _ _ i;have b:=c g rfl _ _ k;rw[F6] at a b;exact⟨a,by rw[oh];exact b⟩
theorem MS(w:World)(base:Nat):qV w base (.slice none 0 0) []:=⟨rfl,.inl ⟨rfl,rfl⟩⟩
theorem MT:∃i,Tryz.prog.info? 59=some i∧i.zero=some (.agg #[.string ⟨#[]⟩,.string ⟨#[]⟩])∧i.size=2∧i.bytes=32:=info_parts TU
theorem MU{W:World}{x v:Value}{fs gs:List dQ}{base:Nat}(r:TypeId)(hF:aZ W x fs)(h:qV W base v gs)(H:gs.length+fs.length≤100000)(t:base≤W.heap.size):
 ∃d e W',(Builtin.append_ #[35,35] r #[v,x]).run Tryz.prog W=.ok (.slice d (gs.length+fs.length) e) W'∧qV W' base (.slice d (gs.length+fs.length) e) (gs++fs)∧W.grownBy W' v.ownBlock:=by
 obtain⟨i,p,C,A,w⟩:=MT;rcases hF with⟨a,c,rfl,rfl⟩|⟨b,o,c,rfl,F,G,y⟩
 ·obtain⟨k,l,m⟩:=aX h;refine⟨k,l,W, ?_,by rw[jm];show qV W base (.slice k gs.length l) gs;rw[←m];exact h,World.grownBy.refl _ _⟩;have q:gs.length≤l:=by
   rcases h.2 with⟨rfl,E⟩|⟨g,cap,D,rfl,_,_,q,_⟩
   ·omega
   ·simp only[Value.slice.injEq] at m;omega
  rw[m];cases a<;>cases k<;>simp[Builtin.append_,run_underlying u35,sizeOf,typeInfo,p,Builtin.lenOf,Builtin.firstCells,q,storeCells,loadCells,loadCellsFrom]
 ·obtain⟨v',W',z,n,s,_⟩:=run_append_own (P:=Tryz.prog) W base 35 r 59 i _ 2 32 u35 p C A w rfl (by omega) v gs.length (eX gs) h ⟨b,o,none⟩ fs.length c (eX fs)
   (wQ fs) (fun j u B=>by rw[F6];exact C3 fs o y j u B) (wS fs) (by unfold maxLen;omega) (by omega) t
  obtain⟨d,e,rfl⟩:=aX n;refine⟨d,e,W',z, ?_,s⟩;unfold qV;rw[bB,wR];exact n
theorem Kn{ops:Array Oper}{o:Oper}{a:Act}{K:Act→World→Prop}{Q:Exit→Act→World→Prop}{E:Prop}{W:World}(k:o.guard=none)(s x:Operand)
 (m:o.op=.call {callee:=.builtin .append,args:=#[s,x],argTypes:=#[35,35]})
 (v d:Value)(fs gs:List dQ)(base:Nat)(q:a.eval s=v)(t:a.eval x=d)(hF:aZ W d fs)(n:qV W base v gs)(l:gs.length+fs.length≤100000)(j:base≤W.heap.size)
 (h:∀b c W',qV W' base (.slice b (gs.length+fs.length) c) (gs++fs)→W.grownBy W' v.ownBlock→K (a.put o.dst (.slice b (gs.length+fs.length) c)) W'):
 if Region.wanted o (yielded ops a.tmps)=true then Oper.wp Tryz.prog o a W K Q else E:=by
 have r:Region.wanted o (yielded ops a.tmps)=true:=by simp[Region.wanted,k]
 rw[ah r];obtain⟨b,c,W',p,e,i⟩:=MU o.type hF n l j;unfold Oper.wp execOp;simp only[m,resolve,invoke,builtin,Sem.run_bind,Sem.run_pure,Result.andThen_ok,List.map_toArray,kg,List.map_nil,q,t,p];exact h b c W' e i
end Go.Proofs.YtogchgjfialleaaGreatDoor
