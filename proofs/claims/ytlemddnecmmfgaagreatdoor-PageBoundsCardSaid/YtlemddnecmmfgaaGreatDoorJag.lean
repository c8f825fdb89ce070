/- Contracts of the library. -/
import Derived.Test.YtlemddnecmmfgaaGreatDoorJab
import Derived.Lib.ItoaNum
namespace Go.Proofs.YtlemddnecmmfgaaGreatDoor
open Go.Lib
variable{d k:Bs}{A:List Bs}{n I:UInt8}{F:UInt8→Bool}
def dS(c:UInt8):Bool:=decide (48≤c.toNat∧c.toNat≤57∨97≤c.toNat∧c.toNat≤102∨65≤c.toNat∧c.toNat≤70)
def fA(c:UInt8):Nat:=if c.toNat≤57 then c.toNat-48 else if 97≤c.toNat then c.toNat-87 else c.toNat-55
def gY(c:UInt8):Bool:=decide ((65≤c.toNat∧c.toNat≤90∨97≤c.toNat∧c.toNat≤122∨48≤c.toNat∧c.toNat≤57)∨c.toNat=45∨c.toNat=46∨c.toNat=95∨c.toNat=126)
def mh(c:UInt8):Bool:=decide ((65≤c.toNat∧c.toNat≤90∨97≤c.toNat∧c.toNat≤122∨48≤c.toNat∧c.toNat≤57)∨c.toNat=45∨c.toNat=46)
def Kh:Bs:=[33,36,38,39,40,41,42,43,44,59,61,58,64,47]
def mi(c:UInt8):Bool:=gY c||Kh.contains c
def mB(c:UInt8):Bool:=mi c||c==63
def ly:Bs:=[48,49,50,51,52,53,54,55,56,57,97,98,99,100,101,102,65,66,67,68,69,70]
def Ch:Bs:=[97,98,99,100,101,102,103,104,105,106,107,108,109,110,111,112,113,114,115,116,117,118,119,120,121,122,65,66,67,68,69,70,71,72,73,74,75,76,77,78,79,80,81,82,83,84,85,86,87,88,89,90,48,49,50,51,52,53,54,55,56,57]
def lz:Bs:=Ch++[45,46,95,126]
def dA:Bs:=Ch++[45,46]
def wE:Bs:=lz++Kh
def yX:Bs:=wE++[63]
theorem Mo:(fun c=>ly.contains c)=dS:=jg _ _ (by decide+kernel)
theorem FL:(fun c=>lz.contains c)=gY:=jg _ _ (by decide+kernel)
theorem od:(fun c=>dA.contains c)=mh:=jg _ _ (by decide+kernel)
theorem IY:(fun c=>wE.contains c)=mi:=jg _ _ (by decide+kernel)
theorem FH:(fun c=>yX.contains c)=mB:=jg _ _ (by decide+kernel)
theorem mX(l b:Bs):(trimS l b==[])=l.all fun c=>b.contains c:=by
 rw[gf,bZ];unfold trimS trimLeftS trimRightS;rw[bI];constructor
 ·intro h;rw[eV] at h⊢;intro c d;by_cases e:c∈l.reverse.dropWhile (fun c=>b.contains c)
  ·exact h c (List.mem_reverse.2 e)
  ·have a:c∈l.reverse:=List.mem_reverse.2 d;rw[←CX (p:=fun c=>b.contains c) (l:=l.reverse),gZ] at a;rcases a with a|a
   ·exact(eV.1 (List.all_takeWhile (p:=fun c=>b.contains c) (l:=l.reverse))) c a
   ·exact(e a).elim
 ·intro h;rw[eV] at h⊢;intro c d;exact h c (List.mem_reverse.1 (List.dropWhile_sublist _|>.subset (List.mem_reverse.1 d)))
def bh(p:UInt8→Bool):Bs→Bool
 |[]=>true
 |c::r=>if c=37 then(match r with|a::b::d=>dS a&&dS b&&bh p d|_=>false) else p c&&bh p r
theorem eh(h:n≠37):bh F (n::d)=(F n&&bh F d):=by
 conv=>lhs;unfold bh
 rw[ae h]
theorem iR:bh F (37::n::I::d)=(dS n&&dS I&&bh F d):=by
 conv=>lhs;unfold bh
 rw[ah rfl]
def rY(c:UInt8):UInt8:=if 97≤c.toNat∧c.toNat≤122 then c-32 else c
def tw(a b:UInt8):Bs:=if gY (UInt8.ofNat (16*fA a+fA b)) then[UInt8.ofNat (16*fA a+fA b)] else[37,rY a,rY b]
def aW:Bs→Bs
 |[]=>[]
 |c::r=>if c=37 then(match r with|a::b::d=>if dS a&&dS b then tw a b++aW d else[]|_=>[]) else c::aW r
theorem dG(h:n≠37):aW (n::d)=n::aW d:=by
 conv=>lhs;unfold aW
 rw[ae h]
theorem gQ(h:(dS n&&dS I)=true):aW (37::n::I::d)=tw n I++aW d:=by
 conv=>lhs;unfold aW
 rw[ah rfl];show(if(dS n&&dS I)=true then _ else _)=_;rw[ah h]
def XG:Nat→Nat→Bs
 |0,_=>[]
 |k+1,n=>if n<10 then[UInt8.ofNat (48+n)] else XG k (n/10)++[UInt8.ofNat (48+n%10)]
def rQ(n:Nat):Bs:=XG 6 n
theorem FM:∀(k n:Nat),n<10^k→0<k→XG k n=decDigits n
 |0,n,_,h=>by omega
 |k+1,n,h,_=>by
  unfold XG;rw[decDigits];by_cases a:n<10
  ·rw[ah a,dif_pos a]
  ·rw[ae a,dif_neg a];have b:n/10<10^k:=by rw[Nat.pow_succ] at h;omega
   have c:0<k:=by
    rcases Nat.eq_zero_or_pos k with rfl|h
    ·simp at b;omega
    ·exact h
   rw[FM k (n/10) b c]
theorem uz(n:Nat)(h:n<1000000):itoa (n:Int)=rQ n:=by unfold itoa rQ;rw[ae (by omega),FM 6 n (by simpa using h) (by omega)];rfl
structure U where
 scheme:Bs
 host:Bs
 port:Int
 path:Bs
 query:Bs
 hq:Bool
def my:Bs:=[104,116,116,112]
def ir:Bs:=[104,116,116,112,115]
def cm:U:=⟨[],[],0,[],[],false⟩
def gU(u:U):Bs:=u.scheme++[58,47,47]++u.host++(bif u.port==0 then[] else[58]++rQ u.port.toNat)++u.path++(bif u.hq then[63]++u.query else[])
def Qu(h:Bs):Bool:=decide (1≤h.length∧h.length≤253)&&h.all mh
def jE(s:Bs):Bool:=hasPrefix s [47]&&bh mi s
def gK(u:U):Bool:=(u.scheme==my||u.scheme==ir)&&Qu u.host&&decide (0≤u.port∧u.port≤65535)&&jE u.path&&(u.hq||u.query==[])&&bh mB u.query
def ee:Nat:=1024
def aQ(u:U):Int:=bif gK u then bif decide ((gU u).length≤ee) then 0 else 3 else 4
def okB(u:U):Bool:=gK u&&decide ((gU u).length≤ee)
theorem eC(u:U):(aQ u=0)↔okB u=true:=by
 unfold aQ okB;cases gK u
 ·simp
 ·cases h:decide ((gU u).length≤ee)<;>simp
def nE(u:U):Bs:=bif okB u then gU u else[]
def fN:Bs:=[58,47,47]
def cy(s:Bs):Int:=match FD s with
 |some n=>n
 |none=>0
where
 FD (s:Bs):Option Int:=bif decide (1≤s.length∧s.length≤5)&&s.all kH&& !(s.head?==some 48) then some (s.foldl (fun n c=>10*n+((c.toNat:Int)-48)) 0) else none
def LF(s:Bs):U:=
 let t:=(cut s fN).2.1;let r:=upto 63 t;let p:=r.dropWhile (·!=47)
 ⟨(cut s fN).1,r.takeWhile (·!=47),0,if p=[] then[47] else p,past 63 t,t.contains 63⟩
def jh(u:U):Option U:=
 bif u.host.contains 58 then(if cy (past 58 u.host)=0 then none else some {u with host:=upto 58 u.host,port:=cy (past 58 u.host)})
 else some u
def cZ(s:Bs):U×Int:=
 bif decide (s.length≤ee) then
  match jh (LF s) with
  |none=>(cm,4)
  |some u=>if aQ u=0 then(u,0) else(cm,aQ u)
 else(cm,3)
def zK:Bs:=[46]
def uB:Bs:=[46,46]
def bU(kept:List Bs)(p:Bs):List Bs:=if p=zK then kept else if p=uB then kept.dropLast else kept++[p]
def dh(l:List Bs):List Bs:=l.foldl bU []
def iA(l:List Bs):Bs:=(l.map fun p=>47::p).flatten
def jt(p:Bs):Bool:=p==zK||p==uB
def fO(s:Bs):Bs:=
 bif hasPrefix s [47] then
  iA (dh (pieces 47 (s.drop 1)))++(bif jt ((pieces 47 (s.drop 1)).getLast?.getD []) then[47] else[])
 else[]
def ji(u:U):U:=
 bif okB u then
  {u with host:=lower u.host,port:=bif u.scheme==my&&u.port==80||u.scheme==ir&&u.port==443 then 0 else u.port,path:=fO (aW u.path),query:=aW u.query}
 else cm
end Go.Proofs.YtlemddnecmmfgaaGreatDoor
namespace Go.Proofs.YtlemddnecmmfgaaGreatDoor
open Go.Lib
variable{d k:Bs}{A:List Bs}{n I:UInt8}{F:UInt8→Bool}
theorem XY:iA []=[]:=rfl
theorem fT(p:Bs)(l:List Bs):iA (p::l)=47::p++iA l:=by unfold iA;simp
theorem nj(l:List Bs)(p:Bs):iA (l++[p])=iA l++47::p:=by unfold iA;simp
theorem XF(p:Bs):jt p=true↔p=zK∨p=uB:=by unfold jt;rw[wH,bZ,bZ]
theorem FK(a:d≠zK)(b:d≠uB):jt d=false:=by
 rw[←Bool.not_eq_true,XF];rintro(h|h)
 ·exact a h
 ·exact b h
theorem TT:uB≠zK:=by decide
theorem rP:∀s:Bs,iA (pieces 47 s)=47::s
 |[]=>rfl
 |x::l=>by
  have c:=rP l;rw[iP];by_cases h:x=47
  ·subst h;rw[ah (by simp),fT,c];rfl
  ·rw[ae (by simpa using h),fT];have e:=gO 47 l;cases d:pieces 47 l with
   |nil=>exact(e d).elim
   |cons a b=>rw[d,fT] at c;simp only[List.headD_cons,List.tail_cons,di];simp only[di,Xy,true_and] at c;rw[←c]
theorem vJ(c:UInt8):∀(s p:Bs),p∈pieces c s→p.contains c=false
 |[],p,h=>by
  have:p=[]:=by simpa[pieces] using h
  subst this;rfl
 |x::l,p,h=>by
  have e:=vJ c l;rw[iP] at h;by_cases d:(x==c)=true
  ·rw[ah d] at h;rcases bL.1 h with rfl|h
   ·rfl
   ·exact e p h
  ·rw[ae d] at h;rcases bL.1 h with rfl|h
   ·have j:=gO c l;cases i:pieces c l with
    |nil=>exact(j i).elim
    |cons a b=>have:=e a (by rw[i];simp);simp only[List.headD_cons];rw[jR,this];simpa using d
   ·exact e p (List.mem_of_mem_tail h)
end Go.Proofs.YtlemddnecmmfgaaGreatDoor
namespace Go.Proofs.YtlemddnecmmfgaaGreatDoor
open Go.Lib
variable{d k:Bs}{A:List Bs}{n I:UInt8}{F:UInt8→Bool}
theorem zg{p:UInt8→Bool}{M:Bs→Prop}(e:M [])(i:∀c r,c≠37→p c=true→bh p r=true→M r→M (c::r))
 (j:∀a b r,dS a=true→dS b=true→bh p r=true→M r→M (37::a::b::r)):∀(n:Nat) (s:Bs),s.length≤n→bh p s=true→M s
 |_,[],_,_=>e
 |n+1,c::r,m,h=>by
  have d:r.length≤n:=by simpa using m
  by_cases k:c=37
  ·subst k
   match r,d,h with
   |[],_,h=>cases h
   |[_],_,h=>cases h
   |a::b::l,d,h=>rw[iR,cW,cW] at h;exact j a b l h.1.1 h.1.2 h.2 (zg e i j n l (by simp at d;omega) h.2)
  ·rw[eh k,cW] at h;exact i c r k h.1 h.2 (zg e i j n r d h.2)
theorem ml{M:Bs→Prop}(h:bh F d=true)(e:M [])(i:∀c r,c≠37→F c=true→bh F r=true→M r→M (c::r))
 (j:∀a b r,dS a=true→dS b=true→bh F r=true→M r→M (37::a::b::r)):M d:=zg e i j d.length d (ag _) h
theorem rO{p q:UInt8→Bool}(h:∀c,p c=true→q c=true)(m:bh p d=true):bh q d=true:=by
 refine ml (M:=fun d=>bh q d=true) m rfl ?_ ?_
 ·intro c r k l _ e;rw[eh k,h c l,e];rfl
 ·intro a b r i j _ e;rw[iR,i,j,e];rfl
theorem Mp(m:bh F d=true):bh F (d++k)=bh F k:=by
 refine ml (M:=fun d=>bh F (d++k)=bh F k) m rfl ?_ ?_
 ·intro c r j l _ e;rw[di,eh j,l,e];rfl
 ·intro a b r h i _ e;rw[di,di,di,iR,h,i,e];rfl
theorem FN(h:d.contains n=false):upto n (d++n::k)=d:=by
 unfold upto;induction d with
 |nil=>simp
 |cons x r i=>
  rw[jR,uF] at h;have e:(x !=n)=true:=by have:=h.1;simp at this;simpa using this
  rw[di,List.takeWhile_cons_of_pos (p:=fun x=>x !=n) e,i h.2]
theorem Qv(h:d.contains n=false):past n (d++n::k)=k:=by
 unfold past;induction d with
 |nil=>simp
 |cons x r i=>
  rw[jR,uF] at h;have e:(x !=n)=true:=by have:=h.1;simp at this;simpa using this
  rw[di,List.dropWhile_cons_of_pos (p:=fun x=>x !=n) e,i h.2]
theorem CL(c:UInt8)(a b:Bs):(a++b).contains c=(a.contains c||b.contains c):=by
 induction a with
 |nil=>simp
 |cons x r d=>rw[di,jR,jR,d,Bool.or_assoc]
def ach(n:Int)(c:UInt8):Int:=10*n+((c.toNat:Int)-48)
theorem Bu:∀(k n:Nat),n<10^k→0<k→(XG k n).foldl ach 0=n
 |0,n,_,h=>by omega
 |k+1,n,h,_=>by
  unfold XG;by_cases a:n<10
  ·rw[ah a];show ach 0 _=_;unfold ach;rw[zR (by show 48+n<256;omega)];omega
  ·rw[ae a,List.foldl_append];have b:n/10<10^k:=by rw[Nat.pow_succ] at h;omega
   have c:0<k:=by
    rcases Nat.eq_zero_or_pos k with rfl|h
    ·simp at b;omega
    ·exact h
   rw[Bu k (n/10) b c];show ach _ _=_;unfold ach;rw[zR (by show 48+n%10<256;omega)];omega
theorem vK:∀(k n:Nat),n<10^k→(XG k n).all kH=true
 |0,n,_=>rfl
 |k+1,n,h=>by
  unfold XG;have b:∀m,m<10→kH (UInt8.ofNat (48+m))=true:=by intro m c;unfold kH;rw[zR (by show 48+m<256;omega)];exact bN (by omega)
  by_cases a:n<10
  ·rw[ah a,kf,b n a];rfl
  ·rw[ae a,List.all_append,vK k (n/10) (by rw[Nat.pow_succ] at h;omega),kf,b _ (by omega)];rfl
theorem Bv:∀(k n:Nat),n<10^k→0<n→∃c r,XG k n=c::r∧c≠48
 |0,n,h,b=>by simp at h;omega
 |k+1,n,h,b=>by
  unfold XG;by_cases a:n<10
  ·rw[ah a];refine⟨_,_,rfl,fun e=> ?_⟩;have:=congrArg UInt8.toNat e;rw[zR (by show 48+n<256;omega)] at this;simp at this;omega
  ·rw[ae a];obtain⟨c,r,i,d⟩:=Bv k (n/10) (by rw[Nat.pow_succ] at h;omega) (by omega);exact⟨c,r++[UInt8.ofNat (48+n%10)],by rw[i];rfl,d⟩
theorem zh:∀(k j n:Nat),n<10^j→0<j→(XG k n).length≤j
 |0,j,n,_,_=>aH _
 |k+1,j,n,h,c=>by
  unfold XG;by_cases a:n<10
  ·rw[ah a];simp;omega
  ·rw[ae a]
   match j,c with
   |j+1,_=>
    have b:n/10<10^j:=by rw[Nat.pow_succ] at h;omega
    have d:0<j:=by
     rcases Nat.eq_zero_or_pos j with rfl|h
     ·simp at b;omega
     ·exact h
    have:=zh k j (n/10) b d;simp;omega
theorem Qw(k n:Nat):1≤(XG (k+1) n).length:=by
 unfold XG;by_cases a:n<10
 ·rw[ah a];simp
 ·rw[ae a];simp
theorem Mj(n:Nat)(l:1≤n)(m:n≤65535):cy (rQ n)=n:=by
 have b:=vK 6 n (by omega);have j:=zh 6 5 n (by omega) (by omega);have k:=Qw 5 n;obtain⟨c,r,d,a⟩:=Bv 6 n (by omega) (by omega);have h:=Bu 6 n (by omega) (by omega);unfold cy cy.FD rQ;rw[b,bN (show 1≤(XG 6 n).length∧(XG 6 n).length≤5 from⟨k,j⟩)];have i:((XG 6 n).head?==some 48)=false:=by rw[d,List.head?_cons,aL];intro e;exact a (iS e)
 rw[i];exact h
theorem lA(a:UInt8)(s p:Bs):hasPrefix (a::s) (a::p)=hasPrefix s p:=by unfold hasPrefix;rw[List.isPrefixOf_cons_cons,qS,aaP]
theorem mC(s:Bs):hasPrefix s []=true:=by unfold hasPrefix;cases s<;>rfl
theorem mj(h:jE d=true):∃r,d=47::r∧bh mi (47::r)=true:=by
 unfold jE at h;rw[cW] at h;cases d with
 |nil=>exact absurd h.1 (by decide)
 |cons c r=>have a:=h.1;unfold hasPrefix at a;rw[List.isPrefixOf_cons_cons,cW,bZ] at a;obtain rfl:=a.1;exact⟨r,rfl,h.2⟩
structure Form (u:U):Prop where
 scheme:u.scheme=my∨u.scheme=ir
 hlen:1≤u.host.length∧u.host.length≤253
 host:u.host.all mh=true
 port:0≤u.port∧u.port≤65535
 path:∃r,u.path=47::r∧bh mi (47::r)=true
 query:u.hq=true∨u.query=[]
 made:bh mB u.query=true
theorem ef(u:U):gK u=true↔Form u:=by
 unfold gK Qu;simp only[cW,wH,bZ,eM];constructor
 ·rintro⟨⟨⟨⟨⟨a,b,c⟩,d⟩,e⟩,h⟩,i⟩;exact⟨a,b,c,d,mj e,h,i⟩
 ·rintro⟨a,b,c,d,⟨r,e,j⟩,h,i⟩;refine⟨⟨⟨⟨⟨a,b,c⟩,d⟩, ?_⟩,h⟩,i⟩;unfold jE;rw[e,j,show hasPrefix (47::r) [47]=true from by rw[lA,mC]];rfl
def behind(u:U):Bs:=u.host++(bif u.port==0 then[] else[58]++rQ u.port.toNat)++u.path++(bif u.hq then[63]++u.query else[])
theorem S7(u:U):gU u=u.scheme++(fN++behind u):=by unfold gU behind fN;simp
end Go.Proofs.YtlemddnecmmfgaaGreatDoor
namespace Go.Proofs.YtlemddnecmmfgaaGreatDoor
open Go.Lib
variable{d k:Bs}{A:List Bs}{n I:UInt8}{F:UInt8→Bool}
theorem tz(h:dS n=true):fA n<16:=by unfold dS at h;have:=dv h;unfold fA;split<;>(try split)<;>omega
theorem Ki(a:UInt8):(rY a).toNat=if 97≤a.toNat∧a.toNat≤122 then a.toNat-32 else a.toNat:=by
 unfold rY;by_cases h:97≤a.toNat∧a.toNat≤122
 ·rw[ah h,ah h,UInt8.toNat_sub_of_le _ _ (by rw[UInt8.le_iff_toNat_le];show 32≤_;omega)];rfl
 ·rw[ae h,ae h]
theorem qt(h:dS n=true):dS (rY n)=true∧fA (rY n)=fA n∧rY (rY n)=rY n:=by
 unfold dS at h;have d:=dv h;have b:=Ki n;refine⟨?_, ?_, ?_⟩
 ·unfold dS;apply bN;split at b<;>omega
 ·unfold fA;split at b<;>(repeat' split)<;>omega
 ·have c:=Ki (rY n);rw[Ei];split at b<;>split at c<;>omega
theorem S8(c:dS n=true)(d:dS I=true):(UInt8.ofNat (16*fA n+fA I)).toNat=16*fA n+fA I:=by have:=tz c;have:=tz d;rw[zR (by show _<256;omega)]
theorem zj(h:gY n=true):n≠37∧n≠47:=by
 unfold gY at h;have:=dv h;constructor
 ·rintro rfl;revert this;decide
 ·rintro rfl;revert this;decide
theorem uD(h:dS n=true):n≠47:=by rintro rfl;revert h;decide
theorem mm(a b:UInt8):(∃x,gY x=true∧tw a b=[x])∨(gY (UInt8.ofNat (16*fA a+fA b))=false∧tw a b=[37,rY a,rY b]):=by
 unfold tw;cases h:gY (UInt8.ofNat (16*fA a+fA b))
 ·exact .inr ⟨rfl,by rw[ae (by simp)]⟩
 ·exact .inl ⟨_,h,by rw[ah rfl]⟩
theorem Bw(n:∀c,gY c=true→F c=true)(h:bh F d=true):bh F (aW d)=true:=by
 refine ml (M:=fun d=>bh F (aW d)=true) h rfl ?_ ?_
 ·intro c r l o _ i;rw[dG l,eh l,o,i];rfl
 ·intro a b r j k _ i;rw[gQ (by rw[j,k];rfl)];rcases mm a b with⟨x,m,e⟩|⟨_,e⟩
  ·rw[e,di,kK,eh (zj m).1,n x m,i];rfl
  ·rw[e];show bh F (37::rY a::rY b::aW r)=true;rw[iR,(qt j).1,(qt k).1,i];rfl
theorem Mq(h:bh F d=true):aW (aW d)=aW d:=by
 refine ml (M:=fun d=>aW (aW d)=aW d) h rfl ?_ ?_
 ·intro c r l o _ i;rw[dG l,dG l,i]
 ·intro a b r j k _ i;rw[gQ (by rw[j,k];rfl)];rcases mm a b with⟨x,n,e⟩|⟨m,e⟩
  ·rw[e,di,kK,dG (zj n).1,i]
  ·rw[e];show aW (37::rY a::rY b::aW r)=_;obtain⟨a1,a2,a3⟩:=qt j;obtain⟨b1,b2,b3⟩:=qt k;rw[gQ (by rw[a1,b1];rfl),i];have:tw (rY a) (rY b)=[37,rY a,rY b]:=by unfold tw;rw[a2,b2,m,a3,b3];rfl
   rw[this]
theorem tA{p:UInt8→Bool}(h:bh p d=true):(aW d).length≤d.length:=by
 refine ml (M:=fun d=>(aW d).length≤d.length) h (ag _) ?_ ?_
 ·intro c r l n _ i;rw[dG l];simpa using i
 ·intro a b r j k _ i;rw[gQ (by rw[j,k];rfl)];rcases mm a b with⟨x,o,e⟩|⟨m,e⟩
  ·rw[e];simp;omega
  ·rw[e];simp;omega
theorem cJ(h:I≠n)(a:pieces n d=k::A):pieces n (I::d)=(I::k)::A:=by rw[iP,ae (by simpa using h),a];rfl
theorem rR(c:UInt8)(l:Bs):pieces c (c::l)=[]::pieces c l:=by rw[iP,ah (qS c)]
theorem qv(c:UInt8)(l:Bs):∃q a,pieces c l=q::a:=by
 cases h:pieces c l with
 |nil=>exact(gO c l h).elim
 |cons q a=>exact⟨q,a,rfl⟩
theorem FO(h:bh F d=true):pieces 47 (aW d)=(pieces 47 d).map aW:=by
 refine ml (M:=fun d=>pieces 47 (aW d)=(pieces 47 d).map aW) h rfl ?_ ?_
 ·intro c r n w _ i;rw[dG n];by_cases m:c=47
  ·subst m;rw[rR,rR,i];rfl
  ·obtain⟨q,t,e⟩:=qv 47 r;rw[e] at i;rw[cJ m e,cJ m i];simp only[kg];rw[dG n]
 ·intro a b r j k _ i;obtain⟨q,t,e⟩:=qv 47 r;rw[e] at i;rw[gQ (by rw[j,k];rfl),cJ (show(37:UInt8)≠47 by decide) (cJ (uD j) (cJ (uD k) e))];simp only[kg];rw[gQ (by rw[j,k];rfl)];rcases mm a b with⟨x,o,l⟩|⟨u,l⟩
  ·rw[l];exact cJ (zj o).2 i
  ·rw[l];exact cJ (show(37:UInt8)≠47 by decide) (cJ (uD (qt j).1) (cJ (uD (qt k).1) i))
theorem FP(h:bh F d=true):∀q∈pieces 47 d,bh F q=true:=by
 refine ml (M:=fun d=>∀q∈pieces 47 d,bh F q=true) h ?_ ?_ ?_
 ·intro q hq;have:q=[]:=by simpa[pieces] using hq
  subst this;rfl
 ·intro c r n o _ i q hq;by_cases k:c=47
  ·subst k;rw[rR] at hq;rcases bL.1 hq with rfl|hq
   ·rfl
   ·exact i q hq
  ·obtain⟨j,t,e⟩:=qv 47 r;rw[cJ k e] at hq;rcases bL.1 hq with rfl|hq
   ·rw[eh n,o,i j (by rw[e];simp)];rfl
   ·exact i q (by rw[e];exact bY _ hq)
 ·intro a b r l m _ i q hq;obtain⟨j,t,e⟩:=qv 47 r;rw[cJ (show(37:UInt8)≠47 by decide) (cJ (uD l) (cJ (uD m) e))] at hq;rcases bL.1 hq with rfl|hq
  ·rw[iR,l,m,i j (by rw[e];simp)];rfl
  ·exact i q (by rw[e];exact bY _ hq)
theorem FQ{p:UInt8→Bool}(a:p 47=true):∀l:List Bs,(∀q∈l,bh p q=true)→bh p (iA l)=true
 |[],_=>rfl
 |q::l,h=>by rw[fT,di,eh (by decide),a,Mp (h q (by simp)),FQ a l (fun q hq=>h q (bY _ hq))];rfl
theorem Qx(l:bh F d=true):aW (d++k)=aW d++aW k:=by
 refine ml (M:=fun d=>aW (d++k)=aW d++aW k) l rfl ?_ ?_
 ·intro c r j m _ e;rw[di,dG j,dG j,e];rfl
 ·intro a b r h i _ e;rw[di,di,di,gQ (by rw[h,i];rfl),gQ (by rw[h,i];rfl),e,jl]
theorem FR{p:UInt8→Bool}:∀l:List Bs,(∀q∈l,bh p q=true∧aW q=q)→aW (iA l)=iA l
 |[],_=>rfl
 |q::l,h=>by obtain⟨a,b⟩:=h q (by simp);rw[fT,di,dG (by decide),Qx a,b,FR l (fun q hq=>h q (bY _ hq))]
def jk(l:List Bs):List Bs:=bif jt (l.getLast?.getD []) then dh l++[[]] else dh l
theorem tB(s:Bs):fO (47::s)=iA (jk (pieces 47 s)):=by
 unfold fO jk;rw[show hasPrefix (47::s) [47]=true from by rw[lA,mC],aS];show iA (dh (pieces 47 s))++(bif jt ((pieces 47 s).getLast?.getD []) then[47] else[])=_;cases jt ((pieces 47 s).getLast?.getD [])
 ·simp
 ·rw[aS,aS,nj]
theorem CM:∀(l kept:List Bs),∀p∈l.foldl bU kept,p∈kept∨p∈l∧jt p=false
 |[],kept,p,c=>.inl c
 |a::l,kept,p,c=>by
  rw[qB] at c;rcases CM l _ p c with h|⟨h,e⟩
  ·unfold bU at h;by_cases b:a=zK
   ·rw[ah b] at h;exact .inl h
   ·by_cases d:a=uB
    ·rw[ae b,ah d] at h;exact .inl ((List.dropLast_sublist _).subset h)
    ·rw[ae b,ae d] at h;rcases gZ.1 h with h|h
     ·exact .inl h
     ·obtain rfl:p=a:=by simpa using h
      exact .inr ⟨by simp,FK b d⟩
  ·exact .inr ⟨bY _ h,e⟩
theorem I3(l:List Bs):∀p∈jk l,p=[]∨p∈l∧jt p=false:=by
 intro p a;unfold jk at a;cases h:jt (l.getLast?.getD [])
 ·rw[h] at a;rcases CM l [] p a with h|h
  ·cases h
  ·exact .inr h
 ·rw[h] at a;rcases gZ.1 a with a|a
  ·rcases CM l [] p a with h|h
   ·cases h
   ·exact .inr h
  ·exact .inl (by simpa using a)
theorem Bx(h:jt d=false):bU A d=A++[d]:=by unfold bU;rw[ae (fun e=>by rw[e] at h;cases h),ae (fun e=>by rw[e] at h;cases h)]
theorem Qy(a:A≠[]):jk A≠[]:=by
 unfold jk;cases h:jt (A.getLast?.getD [])
 ·rw[cI];have e:=(CV a).symm;have b:A.getLast?.getD []=A.getLast a:=by rw[Jb a];rfl
  rw[b] at h;unfold dh;rw[e,List.foldl_append];show bU _ _≠[];rw[Bx h];simp
 ·rw[aS];simp
theorem zk:∀(l kept:List Bs),(∀p∈l,jt p=false)→l.foldl bU kept=kept++l
 |[],kept,_=>by simp
 |a::l,kept,h=>by rw[qB,Bx (h a (by simp)),zk l _ (fun p b=>h p (bY _ b))];simp
theorem vL:∀(l:List Bs),l≠[]→(∀p∈l,p.contains 47=false)→∃r,iA l=47::r∧pieces 47 r=l
 |[],h,_=>(h rfl).elim
 |[p],_,h=>⟨p,by rw[fT,XY,jm],by rw[eP,h p (by simp)];rfl⟩
 |p::q::l,_,h=>by obtain⟨r,e,b⟩:=vL (q::l) (by simp) (fun x c=>h x (bY _ c));refine⟨p++47::r,by rw[fT,e];rfl, ?_⟩;have a:=h p (by simp);rw[eP,ah (by rw[CL,jR];simp),FN a,Qv a,b]
theorem Qz:fO (fO (47::d))=fO (47::d):=by
 rw[tB];have i:∀p∈jk (pieces 47 d),p.contains 47=false:=by
  intro p b;rcases I3 _ p b with rfl|⟨h,_⟩
  ·rfl
  ·exact vJ 47 d p h
 have c:∀p∈jk (pieces 47 d),jt p=false:=by
  intro p b;rcases I3 _ p b with rfl|⟨_,h⟩
  ·rfl
  ·exact h
 have a:=Qy (gO 47 d);generalize jk (pieces 47 d)=K at*;obtain⟨r,e,k⟩:=vL K a i;rw[e,tB,k,←e];congr 1;unfold jk dh;rw[zk K [] c];have j:K.getLast?.getD []=K.getLast a:=by rw[Jb a];rfl
 rw[j,c _ (List.getLast_mem a)];simp
theorem tC(l:List Bs):(iA l.dropLast).length≤(iA l).length:=by
 by_cases h:l=[]
 ·subst h;exact ag _
 ·conv=>rhs;rw[←CV h,nj]
  simp
theorem XX:∀(l kept:List Bs),(iA (l.foldl bU kept)).length≤(iA kept).length+(iA l).length
 |[],kept=>by simp
 |a::l,kept=>by
  rw[qB];have e:=XX l (bU kept a);have d:(iA (bU kept a)).length≤(iA kept).length+(1+a.length):=by
   unfold bU;by_cases b:a=zK
   ·rw[ah b];omega
   ·by_cases c:a=uB
    ·rw[ae b,ah c];have:=tC kept;omega
    ·rw[ae b,ae c,nj];simp;omega
  rw[fT];simp;omega
theorem S9(l:List Bs)(a:l≠[]):(iA (jk l)).length≤(iA l).length:=by
 unfold jk;cases h:jt (l.getLast?.getD [])
 ·have:=XX l [];rw[cI];unfold dh;simpa[XY] using this
 ·rw[aS,nj];have e:=(CV a).symm;have d:l.getLast?.getD []=l.getLast a:=by rw[Jb a];rfl
  rw[d] at h;generalize l.getLast a=x at*;generalize l.dropLast=b at*;subst e;have c:=XX b [];have i:(iA (bU (b.foldl bU []) x)).length≤(iA (b.foldl bU [])).length:=by
   unfold bU;rcases(XF x).1 h with rfl|rfl
   ·rw[ah rfl];exact ag _
   ·rw[ae TT,ah rfl];exact tC _
  unfold dh;rw[List.foldl_append,nj];show(iA (bU (b.foldl bU []) x)++[47]).length≤_;have j:1≤x.length:=by rcases(XF x).1 h with rfl|rfl<;>decide
  rw[XY] at c;simp at c⊢;omega
theorem zl(c:UInt8)(h:gY c=true):mi c=true:=by unfold mi;rw[h];rfl
theorem FT(c:UInt8)(h:gY c=true):mB c=true:=by unfold mB;rw[zl c h];rfl
structure Wc (s t:Bs):Prop where
 ok:jE t=true
 Xn:aW t=t
 Xo:fO t=t
 len:t.length≤s.length
theorem Mr(e:d=47::k)(h:bh mi (47::k)=true):Wc d (fO (aW d)):=by
 subst e;have c:bh mi k=true:=by rw[eh (by decide),cW] at h;exact h.2
 have x:aW (47::k)=47::aW k:=dG (by decide);rw[x,tB];have o:=Bw zl c;have u:=FP o;have w:∀q∈pieces 47 (aW k),aW q=q:=by have j:=FO o;rw[Mq c] at j;intro q hq;obtain⟨i,t,rfl⟩:=List.mem_iff_getElem.1 hq;have:=congrArg (fun l=>l[i]?) j;simp only[uI,cA t,Option.map_some,gR] at this;exact this.symm
 have n:∀q∈jk (pieces 47 (aW k)),bh mi q=true∧aW q=q:=by
  intro q hq;rcases I3 _ q hq with rfl|⟨h,_⟩
  ·exact⟨rfl,rfl⟩
  ·exact⟨u q h,w q h⟩
 refine⟨?_,FR _ n, ?_, ?_⟩
 ·unfold jE;rw[FQ (by decide) _ (fun q hq=>(n q hq).1),Bool.and_true];cases p:jk (pieces 47 (aW k)) with
  |nil=>exact(Qy (gO 47 _) p).elim
  |cons a b=>rw[fT,di,lA,mC]
 ·rw[←tB];exact Qz
 ·have m:=S9 _ (gO 47 (aW k));rw[rP] at m;have y:=tA c;simp at m⊢;omega
theorem Ms(h:mh n=true):mh (ui n)=true:=by
 unfold mh at h⊢;have a:=dv h;apply bN;by_cases b:65≤n.toNat∧n.toNat≤90
 ·have:=JP n (by omega) (by omega);omega
 ·have:=xM n (by omega);rw[this];omega
def iB(u:U):Int:=bif u.scheme==my&&u.port==80||u.scheme==ir&&u.port==443 then 0 else u.port
theorem FU{u:U}(h:okB u=true):ji u=⟨u.scheme,lower u.host,iB u,fO (aW u.path),aW u.query,u.hq⟩:=by unfold ji;rw[h];rfl
theorem pN(u:U):iB u=0∨iB u=u.port:=by
 unfold iB;cases(u.scheme==my&&u.port==80||u.scheme==ir&&u.port==443)
 ·exact .inr rfl
 ·exact .inl rfl
theorem Mt{u:U}(h:okB u=true):Form (ji u)∧(gU (ji u)).length≤(gU u).length:=by
 have b:=h;unfold okB at h;rw[cW,ef] at h;obtain⟨f,_⟩:=h;obtain⟨r,e,i⟩:=f.path;have a:=Mr e i;rw[FU b];refine⟨⟨f.scheme,by show 1≤(lower u.host).length∧_;rw[jf];exact f.hlen, ?_, ?_,mj a.ok, ?_,Bw FT f.made⟩, ?_⟩
 ·show(lower u.host).all mh=true;unfold lower;rw[eV];intro c d;obtain⟨x,j,rfl⟩:=qE.1 d;exact Ms (eV.1 f.host x j)
 ·show 0≤iB u∧iB u≤65535;have:=f.port;rcases pN u with h|h<;>rw[h]<;>omega
 ·show u.hq=true∨aW u.query=[];rcases f.query with h|h
  ·exact .inl h
  ·exact .inr (by rw[h];rfl)
 ·have l:(lower u.host).length=u.host.length:=jf _;have m:=a.len;have k:=tA f.made;have n:(bif iB u==0 then([]:Bs) else[58]++rQ (iB u).toNat).length≤(bif u.port==0 then([]:Bs) else[58]++rQ u.port.toNat).length:=by
   rcases pN u with h|h
   ·rw[h];exact aH _
   ·rw[h];exact ag _
  have o:(bif u.hq then[63]++aW u.query else([]:Bs)).length≤(bif u.hq then[63]++u.query else([]:Bs)).length:=by
   cases u.hq
   ·exact ag _
   ·simpa using k
  unfold gU;simp only[bB];omega
theorem Jc{u:U}(h:okB u=true):okB (ji u)=true:=by obtain⟨a,b⟩:=Mt h;unfold okB at h⊢;rw[cW,eM] at h;rw[(ef _).2 a,bN (bP b h.2)];rfl
end Go.Proofs.YtlemddnecmmfgaaGreatDoor
namespace Go.Proofs.YtlemddnecmmfgaaGreatDoor
open Go.Lib
variable{d k:Bs}{A:List Bs}{n I:UInt8}{F:UInt8→Bool}
theorem nZ:∀(l:Bs) (n:Nat),l.all kH=true→l.foldl ach (n:Int)=((l.foldl (fun m c=>10*m+(c.toNat-48)) n:Nat):Int)
 |[],n,_=>rfl
 |c::l,n,h=>by rw[kf,cW] at h;have a:=dv h.1;rw[qB,qB,←nZ l _ h.2];congr 1;unfold ach;omega
def jW(l:Bs):Nat:=l.foldl (fun m c=>10*m+(c.toNat-48)) 0
theorem I4(l:Bs)(c:UInt8):jW (l++[c])=10*jW l+(c.toNat-48):=by unfold jW;rw[List.foldl_append];rfl
theorem By:∀(r:Bs) (c:UInt8),kH c=true→c≠48→1≤jW (c::r):=by
 intro r c i d;have b:∀(l:Bs) (n:Nat),1≤n→1≤l.foldl (fun m c=>10*m+(c.toNat-48)) n:=by
  intro l;induction l with
  |nil=>intro n h;exact h
  |cons a l j=>intro n h;rw[qB];exact j _ (by omega)
 have o:48≤c.toNat∧c.toNat≤57:=dv i;have k:c.toNat≠48:=fun e=>d (by rw[Ei];exact e);refine b r _ ?_;show 1≤10*0+(c.toNat-48);omega
theorem Kj:∀(k:Nat) (l:Bs),l.all kH=true→l≠[]→(∀c r,l=c::r→c≠48∨r=[])→l.length≤k→XG k (jW l)=l
 |0,l,_,h,_,j=>by cases l with|nil=>exact(h rfl).elim|cons a b=>simp at j
 |k+1,l,i,h,n,j=>by
  have e:=(CV h).symm;generalize l.getLast h=d at*;generalize u:l.dropLast=l' at*;subst e;rw[List.all_append,cW] at i;have s:kH d=true:=by have:=i.2;rw[kf,cW] at this;exact this.1
  have t:=dv s;have q:UInt8.ofNat (48+(d.toNat-48))=d:=by rw[Ei,zR (by show _<256;omega)];omega
  rw[I4];by_cases m:l'=[]
  ·subst m;unfold XG;have:10*jW []+(d.toNat-48)=d.toNat-48:=by unfold jW;simp
   rw[this,ah (by omega),q];rfl
  ·have w:1≤jW l':=by
    cases o:l' with
    |nil=>exact(m o).elim
    |cons c r=>
     rw[o] at i n;have p:=i.1;rw[kf,cW] at p;rcases n c (r++[d]) rfl with h|h
     ·exact By r c p.1 h
     ·simp at h
   unfold XG;rw[ae (by omega),show(10*jW l'+(d.toNat-48))/10=jW l' by omega,show(10*jW l'+(d.toNat-48))%10=d.toNat-48 by omega,q];rw[Kj k l' i.1 m (fun c r e=>by
    rcases n c (r++[d]) (by rw[e];rfl) with h|h
    ·exact .inl h
    ·simp at h) (by simp at j;omega)]
theorem yS(h:cy d≠0):rQ (cy d).toNat=d∧1≤cy d:=by
 unfold cy cy.FD at h⊢;cases b:(decide (1≤d.length∧d.length≤5)&&d.all kH&& !(d.head?==some 48))
 ·rw[b] at h;exact(h rfl).elim
 ·rw[cW,cW,eM] at b;obtain⟨⟨⟨k,m⟩,a⟩,l⟩:=b;simp only[aS];have e:d.foldl (fun n c=>10*n+((c.toNat:Int)-48)) 0=((jW d:Nat):Int):=nZ d 0 a;rw[e];have i:d≠[]:=by rintro rfl;simp at k
  have j:∀c r,d=c::r→c≠48:=by rintro c r rfl rfl;simp at l
  refine⟨?_, ?_⟩
  ·rw[Int.toNat_natCast];exact Kj 6 d a i (fun c r e=>.inl (j c r e)) (by omega)
  ·cases d with
   |nil=>exact(i rfl).elim
   |cons c r=>rw[kf,cW] at a;have:=By r c a.1 (j c r rfl);omega
theorem QA(h:contains d fN=true):d=(cut d fN).1++(fN++(cut d fN).2.1):=by
 rw[Cf d fN h];rcases index_spec d fN with⟨e,_⟩|⟨i,e,j,a,_⟩
 ·unfold contains at h;rw[e] at h;cases h
 ·rw[e];show d=d.take i++(fN++d.drop (i+3));unfold occAt at a;obtain⟨t,b⟩:=CW.1 a;have c:d.drop (i+3)=t:=by rw[←fh,←b];rfl
  rw[c,b,List.take_append_drop]
theorem Ta(h:d.contains n=true):d[lead (·!=n) d]? =some n:=by
 have b:=kx n d h;rw[cA b];cases a:(d[lead (·!=n) d]==n)
 ·have e:=AQ (·!=n) d _ d[lead (·!=n) d] (ag _) (cA b) (by simpa using a);omega
 ·rw[bZ] at a;rw[a]
theorem Bz(h:d.contains n=true):d=upto n d++n::past n d:=by
 have a:=kx n d h;have e:=Ta h;rw[cA a,gR] at e
 conv=>lhs;rw[←List.take_append_drop (lead (·!=n) d) d]
 rw[kF,lG a,jA,e]
theorem Mu(c:UInt8)(s:Bs):(upto c s).contains c=false:=by
 unfold upto;cases h:(s.takeWhile (·!=c)).contains c
 ·rfl
 ·have:=eV.1 (List.all_takeWhile (p:=fun x=>x !=c) (l:=s)) c (r8.1 h);simp at this
structure WV (s:Bs) (v:U):Prop where
 ok:okB v=true
 eq:s=gU v∨(v.path=[47]∧∃a b,s=a++b∧gU v=a++47::b∧upto 63 s=a)
theorem qT{s:Bs}{v:U}(h:cZ s=(v,0)):WV s v:=by
 unfold cZ at h;cases w:decide (s.length≤ee)
 ·rw[w] at h;cases h
 ·rw[w,aS] at h;cases a:jh (LF s) with
  |none=>rw[a] at h;cases h
  |some u=>
   rw[a] at h;change(if aQ u=0 then(u,0) else(cm,aQ u))=(v,0) at h;by_cases d:aQ u=0
   ·rw[ah d] at h;obtain rfl:u=v:=by injection h
    have z:=(eC u).1 d;have q:=z;unfold okB at q;rw[cW,ef] at q;refine⟨z, ?_⟩;have f:=q.1;generalize i:(cut s fN).2.1=t at*;have O:LF s=⟨(cut s fN).1,(upto 63 t).takeWhile (·!=47),0,if(upto 63 t).dropWhile (·!=47)=[] then[47] else(upto 63 t).dropWhile (·!=47),past 63 t,t.contains 63⟩:=by rw[←i];rfl
    rw[O] at a;have N:upto 63 t=(upto 63 t).takeWhile (·!=47)++(upto 63 t).dropWhile (·!=47):=(CX (p:=fun x=>x !=47) (l:=upto 63 t)).symm;have J:=Mu 63 t;have j:t=upto 63 t++(bif t.contains 63 then[63]++past 63 t else[]):=by
     cases hq:t.contains 63
     ·rw[cI,jm,ld 63 t hq]
     ·exact Bz hq
    have L:((upto 63 t).takeWhile (·!=47)).contains 63=false:=by
     cases E:((upto 63 t).takeWhile (·!=47)).contains 63
     ·rfl
     ·have:=(List.takeWhile_sublist (fun x=>x !=47)).subset (r8.1 E);rw[←r8,J] at this;cases this
    generalize K:(upto 63 t).takeWhile (·!=47)=H at*;generalize S:(upto 63 t).dropWhile (·!=47)=Pq at*;have M:H=u.host++(bif u.port==0 then[] else[58]++rQ u.port.toNat)∧u.scheme=(cut s fN).1∧u.path=(if Pq=[] then[47] else Pq)∧u.query=past 63 t∧u.hq=t.contains 63:=by
     unfold jh at a;cases o:H.contains 58
     ·change(bif H.contains 58 then _ else _)=some u at a;rw[o,cI,gR] at a;subst a;exact⟨by simp,rfl,rfl,rfl,rfl⟩
     ·change(bif H.contains 58 then(if cy (past 58 H)=0 then none else some (U.mk (cut s fN).1 (upto 58 H) (cy (past 58 H)) (if Pq=[] then[47] else Pq) (past 63 t) (t.contains 63))) else _)=some u at a;rw[o,aS] at a;by_cases b:cy (past 58 H)=0
      ·rw[ah b] at a;cases a
      ·rw[ae b,gR] at a;subst a;obtain⟨b1,b2⟩:=yS b;refine⟨?_,rfl,rfl,rfl,rfl⟩;show H=upto 58 H++(bif cy (past 58 H)==0 then[] else[58]++rQ (cy (past 58 H)).toNat);rw[b1,show(cy (past 58 H)==0)=false from by rw[aL];exact b];exact Bz o
    obtain⟨m,r,n,B,C⟩:=M;have Q:contains s fN=true:=by
     cases I:contains s fN
     ·rw[AR s fN I] at i;have R:t=[]:=i.symm;subst R;have F:H=[]:=by rw[←K];rfl
      rw[F] at m;have:=f.hlen.1;have D:=congrArg List.length m;simp at D;omega
     ·rfl
    have e:=QA Q;rw[i] at e;have k:gU u=(cut s fN).1++(fN++(H++((if Pq=[] then[47] else Pq)++(bif t.contains 63 then[63]++past 63 t else[])))):=by rw[S7];unfold behind;rw[m,r,n,B,C];simp
    rw[N] at j;by_cases c:Pq=[]
    ·right;rw[ah c] at k n;refine⟨n,(cut s fN).1++(fN++H),(bif t.contains 63 then[63]++past 63 t else[]), ?_, ?_, ?_⟩
     ·conv=>lhs;rw[e,j,c]
      simp
     ·rw[k];simp
     ·have y:((cut s fN).1++(fN++H)).contains 63=false:=by rw[CL,CL,L,←r];rcases f.scheme with h|h<;>rw[h]<;>rfl
      have G:s=((cut s fN).1++(fN++H))++(bif t.contains 63 then[63]++past 63 t else[]):=by
       conv=>lhs;rw[e,j,c]
       simp
      generalize(cut s fN).1++(fN++H)=A at*;rw[G];cases t.contains 63
      ·rw[cI,jm,ld 63 A y]
      ·exact FN y
    ·left;rw[ae c] at k;rw[k]
     conv=>lhs;rw[e,j]
     simp
   ·rw[ae d] at h;injection h with _ h;exact(d h).elim
end Go.Proofs.YtlemddnecmmfgaaGreatDoor
