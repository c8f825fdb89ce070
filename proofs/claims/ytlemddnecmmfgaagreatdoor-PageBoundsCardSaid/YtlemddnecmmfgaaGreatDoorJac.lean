/- Variables that stand in a text. -/
import Derived.Test.YtlemddnecmmfgaaGreatDoorJab
namespace Go.Proofs.YtlemddnecmmfgaaGreatDoor
open Go.Lib
variable{d:Bool}{b e:Bs}{a:Nat}
structure iZ where
 src:Nat
 to:Nat
 name:Bs
 key:Bs
 cK:Bs
 hk:Bool
 hd:Bool
def dt(c:UInt8):Bool:=decide ((65≤c.toNat∧c.toNat≤90∨97≤c.toNat∧c.toNat≤122∨48≤c.toNat∧c.toNat≤57)∨c.toNat=95)
def Pg:Bs:=[97,98,99,100,101,102,103,104,105,106,107,108,109,110,111,112,113,114,115,116,117,118,119,120,121,122,65,66,67,68,69,70,71,72,73,74,75,76,77,78,79,80,81,82,83,84,85,86,87,88,89,90,48,49,50,51,52,53,54,55,56,57,95]
theorem LO:(fun c=>Pg.contains c)=dt:=jg _ _ (by decide+kernel)
def JY:Bs:=[97,98,99,100,101,102,103,104,105,106,107,108,109,110,111,112,113,114,115,116,117,118,119,120,121,122,65,66,67,68,69,70,71,72,73,74,75,76,77,78,79,80,81,82,83,84,85,86,87,88,89,90,48,49,50,51,52,53,54,55,56,57,95,45,46]
theorem Il:(fun c=>JY.contains c)=XC:=jg _ _ (by decide+kernel)
def ey(r:Bs):Option (Bs×Bool×Bs):=
 bif hasPrefix r [123] then
  bif(trimPrefix r [123]).contains 125&&fJ (upto 125 (trimPrefix r [123])) then some (upto 125 (trimPrefix r [123]),true,past 125 (trimPrefix r [123])) else none
 else some ([],false,r)
def lp(q:Bs):Option (Bs×Bool×Bs):=
 bif hasPrefix q [39] then bif(trimPrefix q [39]).contains 39 then some (upto 39 (trimPrefix q [39]),true,past 39 (trimPrefix q [39])) else none
 else bif(q.takeWhile XC).isEmpty then none else some (q.takeWhile XC,true,q.dropWhile XC)
def gm(r:Bs):Option (Bs×Bool×Bs):=
 bif hasPrefix r [124] then lp (trimPrefix r [124]) else some ([],false,r)
structure gi where
 name:Bs
 key:Bs
 cK:Bs
 hk:Bool
 hd:Bool
 rest:Bs
def gH(nm k d:Bs)(b a:Bool)(r:Bs):Option gi:=bif hasPrefix r [41] then some ⟨nm,k,d,b,a,trimPrefix r [41]⟩ else none
def dz(nm k:Bs)(b:Bool)(r:Bs):Option gi:=match gm r with|none=>none|some (d,a,c)=>gH nm k d b a c
def gj(r:Bs):Option gi:=
 bif cD (r.takeWhile dt) then match ey (r.dropWhile dt) with|none=>none|some (k,a,b)=>dz (r.takeWhile dt) k a b
 else none
def gI(s:Bs):Bool:=hasPrefix s [36,40]
def df(s:Bs):Option gi:=bif gI s then gj (s.drop 2) else none
def vy(n i:Nat)(p:gi):iZ:=⟨i,n-p.rest.length,p.name,p.key,p.cK,p.hk,p.hd⟩
def sV(n:Nat):Nat→Bs→Option iZ
 |_,[]=>none
 |i,c::r=>match df (c::r) with|some p=>some (vy n i p)|none=>sV n (i+1) r
def cv(s:Bs)(i:Nat):Option iZ:=sV s.length i (s.drop i)
theorem pw{s:Bs}{i:Nat}{p:gi}(h:df (s.drop i)=some p):cv s i=some (vy s.length i p):=by
 unfold cv;cases a:s.drop i with
 |nil=>rw[a] at h;cases h
 |cons c r=>rw[a] at h;unfold sV;rw[h]
theorem nO{i:Nat}(h:df (b.drop i)=none):cv b i=cv b (i+1):=by
 unfold cv;cases a:b.drop i with
 |nil=>rw[show b.drop (i+1)=[] from by rw[←fh,a];rfl];rfl
 |cons c r=>
  rw[a] at h;have:b.drop (i+1)=r:=by rw[←fh,a];rfl
  rw[this]
  conv=>lhs;unfold sV
  rw[h]
theorem yq(h:b.length≤a):cv b a=none:=by unfold cv;rw[qA h];rfl
theorem py(h:gI b=false):df b=none:=by unfold df;rw[h];rfl
theorem jT(h:gI b=true):df b=gj (b.drop 2):=by unfold df;rw[h];rfl
theorem gL(h:hasPrefix b e=true):e.length≤b.length:=by unfold hasPrefix at h;exact(CW.1 h).length_le
theorem fK(h:hasPrefix b e=true):(trimPrefix b e).length+e.length=b.length:=by unfold trimPrefix;rw[ah h,bK];have:=gL h;omega
theorem A6{i:Bs}(h:ey b=some (e,d,i)):i.length≤b.length:=by
 unfold ey at h;cases a:hasPrefix b [123]
 ·rw[a] at h;cases h;exact ag _
 ·rw[a] at h;have j:=fK a;simp only[aS] at h;cases c:((trimPrefix b [123]).contains 125&&fJ (upto 125 (trimPrefix b [123])))
  ·rw[c] at h;cases h
  ·rw[c] at h;simp only[aS,gR,kj] at h;rw[←h.2.2];have:=ij 125 (trimPrefix b [123]);omega
theorem A7{j:Bs}(h:gm b=some (e,d,j)):j.length≤b.length:=by
 unfold gm at h;cases c:hasPrefix b [124]
 ·rw[c] at h;cases h;exact ag _
 ·rw[c] at h;have k:=fK c;simp only[aS] at h;unfold lp at h;cases i:hasPrefix (trimPrefix b [124]) [39]
  ·rw[i] at h;simp only[cI] at h;cases a:((trimPrefix b [124]).takeWhile XC).isEmpty
   ·rw[a] at h;simp only[cI,gR,kj] at h;rw[←h.2.2];have:=cB XC (trimPrefix b [124]);omega
   ·rw[a] at h;cases h
  ·rw[i] at h;have l:=fK i;simp only[aS] at h;cases a:(trimPrefix (trimPrefix b [124]) [39]).contains 39
   ·rw[a] at h;cases h
   ·rw[a] at h;simp only[aS,gR,kj] at h;rw[←h.2.2];have:=ij 39 (trimPrefix (trimPrefix b [124]) [39]);omega
theorem LP{p:gi}(h:gj b=some p):p.rest.length+1≤b.length∧cD p.name=true:=by
 unfold gj at h;cases a:cD (b.takeWhile dt)
 ·rw[a] at h;cases h
 ·rw[a] at h;simp only[aS] at h;cases c:ey (b.dropWhile dt) with
  |none=>rw[c] at h;cases h
  |some q=>
   obtain⟨k,l,m⟩:=q;rw[c] at h;have s:=A6 c;have o:=cB dt b;change dz (b.takeWhile dt) k l m=some p at h;unfold dz at h;cases e:gm m with
   |none=>rw[e] at h;cases h
   |some q=>
    obtain⟨d,n,j⟩:=q;rw[e] at h;have t:=A7 e;change gH (b.takeWhile dt) k d l n j=some p at h;unfold gH at h;cases i:hasPrefix j [41]
    ·rw[i] at h;cases h
    ·rw[i] at h;simp only[aS,gR] at h;subst h;have:=fK i;simp only[mF] at this;exact⟨by show(trimPrefix j [41]).length+1≤_;omega,a⟩
theorem gF{p:gi}(h:df b=some p):p.rest.length+3≤b.length∧gI b=true∧cD p.name=true∧gj (b.drop 2)=some p:=by
 cases a:gI b
 ·rw[py a] at h;cases h
 ·rw[jT a] at h;have:=LP h;have c:=gL a;rw[bK] at this;simp at c;exact⟨by omega,rfl,this.2,h⟩
structure Found (s:Bs) (i:Nat) (u:iZ):Prop where
 ge:i≤u.src
 lt:u.src+3≤u.to
 le:u.to≤s.length
 gI:gI (s.drop u.src)=true
 known:cD u.name=true
 parts:∃p,gj (s.drop (u.src+2))=some p∧u=vy s.length u.src p
theorem pz:∀(k:Nat) (s:Bs) (i:Nat) (u:iZ),s.length≤k+i→cv s i=some u→Found s i u
 |0,s,i,u,j,h=>by rw[yq (by omega)] at h;cases h
 |k+1,s,i,u,j,h=>by
  cases a:df (s.drop i) with
  |none=>rw[nO a] at h;have f:=pz k s (i+1) u (by omega) h;exact⟨by have:=f.ge;omega,f.lt,f.le,f.gI,f.known,f.parts⟩
  |some p=>
   rw[pw a] at h;obtain rfl:=iS h;obtain⟨c,d,e,b⟩:=gF a;rw[bK] at c;rw[fh] at b;refine⟨ag _, ?_, ?_,d,e,p,b,rfl⟩
   ·show i+3≤s.length-p.rest.length;omega
   ·show s.length-p.rest.length≤s.length;omega
theorem Found.of{u:iZ}(h:cv b a=some u):Found b a u:=pz b.length b a u (by omega) h
def mQ(s:Bs):Nat→Nat→List iZ
 |0,_=>[]
 |k+1,i=>match cv s i with|none=>[]|some u=>u::mQ s k u.to
def mT(s:Bs):List iZ:=mQ s (s.length+1) 0
theorem Im{k i:Nat}(h:cv b i=none):mQ b k i=[]:=by
 cases k with
 |zero=>rfl
 |succ k=>unfold mQ;rw[h]
theorem Io{i:Nat}{u:iZ}(h:cv b i=some u)(l:b.length+1≤a+i):∃c,b.length+1≤c+u.to∧mQ b a i=u::mQ b c u.to:=by
 have f:=Found.of h;have d:=f.ge;have e:=f.lt;have j:=f.le;cases a with
 |zero=>omega
 |succ a=>refine⟨a,by omega, ?_⟩;conv=>lhs;unfold mQ;rw[h]
def yn(s:Bs):Nat→List iZ→Prop
 |_,[]=>True
 |i,u::l=>Found s i u∧yn s u.to l
theorem nC(s:Bs):∀k i,yn s i (mQ s k i)
 |0,_=>trivial
 |k+1,i=>by
  unfold mQ;cases h:cv s i with
  |none=>trivial
  |some u=>exact⟨Found.of h,nC s k u.to⟩
theorem Yr(s:Bs):∀(l:List iZ) (i:Nat),yn s i l→i≤s.length→l.length+i≤s.length
 |[],i,_,h=>by simpa using h
 |u::l,i,h,c=>by have f:=h.1;have a:=f.ge;have b:=f.lt;have:=Yr s l u.to h.2 f.le;simp only[bF];omega
def UE(s:Bs)(val:iZ→Bs):Nat→List iZ→Bs
 |i,[]=>s.drop i
 |i,u::l=>((s.drop i).take (u.src-i))++val u++UE s val u.to l
def oP:Nat:=262144
def jD(h t:Bs)(fs:List dQ)(u:iZ):Bs×Bool:=
 bif(dK h t fs u.name u.key u.hk).2 then dK h t fs u.name u.key u.hk else bif u.hd then(u.cK,true) else([],false)
def uW(h t:Bs)(fs:List dQ)(s:Bs):Bs:=UE s (fun u=>(jD h t fs u).1) 0 (mT s)
def eA(h t:Bs)(fs:List dQ)(s:Bs):Bs×Int:=bif decide ((uW h t fs s).length≤oP) then(uW h t fs s,0) else([],3)
