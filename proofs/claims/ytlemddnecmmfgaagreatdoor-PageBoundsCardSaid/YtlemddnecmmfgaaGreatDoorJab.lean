/- Arguments opened. -/
import Derived.Lib.SlTrimSet
import Derived.Lib.Join
import Derived.Lib.SplitLaws
import Derived.Test.YtlemddnecmmfgaaGreatDoorJaa
import Derived.Test.YtlemddnecmmfgaaGreatDoorProg
import Derived.Lib.Hide
import Derived.Lib.BufferRead
import Derived.Laws.AppendOwnNone
import Derived.WalkSpells
import Derived.WalkLawsBesides
import Derived.BigQuiet
import Derived.ProofKit
import Derived.OpenShut
import Derived.ShutString
import Derived.Deep.Slices
set_option linter.unusedVariables false
set_option maxRecDepth 100000
namespace Go.Proofs.YtlemddnecmmfgaaGreatDoor
open Go.Lib
abbrev Bs:=List UInt8
def ws(c:UInt8):Bool:=decide (c.toNat=32∨c.toNat=9)
def kH(c:UInt8):Bool:=decide (48≤c.toNat∧c.toNat≤57)
def XC(c:UInt8):Bool:=decide ((65≤c.toNat∧c.toNat≤90∨97≤c.toNat∧c.toNat≤122∨48≤c.toNat∧c.toNat≤57)∨c.toNat=95∨c.toNat=45∨c.toNat=46)
def ui(c:UInt8):UInt8:=if 65≤c.toNat∧c.toNat≤90 then c+32 else c
theorem Ei{a b:UInt8}:a=b↔a.toNat=b.toNat:=UInt8.toNat_inj.symm
theorem dU{s:ByteArray}{l:Bs}(h:s.data.toList=l):s=⟨l.toArray⟩:=by subst h;rfl
theorem bj(s:ByteArray):s.data.toList.length=s.size:=(Lib.size_eq s).symm
theorem OJ(s:ByteArray)(k:Nat)(h:k<s.size):s.data.toList[k]? =some s[k]:=Lib.data_getElem? s k h
def lead(p:UInt8→Bool)(l:Bs):Nat:=(l.takeWhile p).length
theorem iV(p:UInt8→Bool):∀l:Bs,lead p l≤l.length
 |[]=>ag _
 |c::l=>by
  unfold lead;by_cases h:p c
  ·have:=iV p l;simp[h];exact this
  ·simp[h]
theorem OK(p:UInt8→Bool):lead p []=0:=rfl
theorem kI(p:UInt8→Bool)(c:UInt8)(l:Bs):lead p (c::l)=if p c then lead p l+1 else 0:=by unfold lead;by_cases h:p c<;>simp[h]
theorem AQ(p:UInt8→Bool):∀(l:Bs) (k:Nat) (c:UInt8),k≤lead p l→l[k]? =some c→p c=true→k+1≤lead p l
 |[],k,c,_,h,_=>by simp at h
 |a::l,0,c,_,h,d=>by simp at h;subst h;rw[kI,ah d];omega
 |a::l,k+1,c,b,h,d=>by
  rw[kI] at b⊢;by_cases e:p a
  ·rw[ah e] at b⊢;have:=AQ p l k c (by omega) (by simpa using h) d;omega
  ·rw[ae e] at b;omega
theorem cz(p:UInt8→Bool):∀l:Bs,l.drop (lead p l)=l.dropWhile p
 |[]=>rfl
 |c::l=>by
  rw[kI];by_cases h:p c
  ·simp[h,cz p l]
  ·simp[h]
theorem cU(p:UInt8→Bool):∀l:Bs,l.take (lead p l)=l.takeWhile p
 |[]=>rfl
 |c::l=>by
  rw[kI];by_cases h:p c
  ·simp[h,cU p l]
  ·simp[h]
theorem bI(p:UInt8→Bool):∀l:Bs,l.dropWhile p=[]↔l.all p=true
 |[]=>by simp
 |c::l=>by
  by_cases h:p c
  ·simp[h,bI p l]
  ·simp[h]
theorem sK(p:UInt8→Bool):∀l:Bs,lead p l=l.length↔l.all p=true
 |[]=>by simp[OK]
 |c::l=>by
  rw[kI];by_cases h:p c
  ·simp[h,sK p l]
  ·simp[h]
def trim(l:Bs):Bs:=Lib.trimS l [32,9]
theorem Ej(c:UInt8):([32,9]:Bs).contains c=ws c:=by
 have h:∀a:UInt8,(c==a)=decide (c.toNat=a.toNat):=fun a=>by rw[gf];simp[Ei]
 simp only[List.contains_cons,List.contains_nil,Bool.or_false,h];unfold ws;by_cases b:c.toNat=32<;>by_cases d:c.toNat=9<;>simp_all
theorem R5(l:Bs):trim l=((l.reverse.dropWhile ws).reverse).dropWhile ws:=by have:(fun c=>([32,9]:Bs).contains c)=ws:=funext Ej;show List.dropWhile (fun c=>([32,9]:Bs).contains c) (List.dropWhile (fun c=>([32,9]:Bs).contains c) l.reverse).reverse=_;rw[this]
def lower(l:Bs):Bs:=l.map ui
def same(a b:Bs):Bool:=lower a==lower b
theorem JP(c:UInt8)(a:(65:Int)≤↑c.toNat)(b:(↑c.toNat:Int)≤90):((ui c).toNat:Int)=(c.toNat:Int)+32:=by unfold ui;rw[ah (by omega)];rw[UInt8.toNat_add];have:(32:UInt8).toNat=32:=rfl;rw[this];omega
theorem xM(c:UInt8)(h:¬((65:Int)≤↑c.toNat∧(↑c.toNat:Int)≤90)):ui c=c:=by unfold ui;rw[ae (by omega)]
theorem jf(l:Bs):(lower l).length=l.length:=by simp[lower]
end Go.Proofs.YtlemddnecmmfgaaGreatDoor
namespace Go.Proofs.YtlemddnecmmfgaaGreatDoor
open Go.Lib
def upto(c:UInt8)(l:Bs):Bs:=l.takeWhile (·!=c)
def past(c:UInt8)(l:Bs):Bs:=(l.dropWhile (·!=c)).drop 1
def hasB(c:UInt8)(l:Bs):Bool:=l.contains c
theorem jR(c x:UInt8)(l:Bs):(x::l).contains c=(x==c||l.contains c):=by
 rw[List.contains_cons];have:(c==x)=(x==c):=by
  by_cases h:c=x
  ·subst h;rfl
  ·rw[aL.2 h,aL.2 (eo h)]
 rw[this]
theorem iG(c:UInt8):∀l:Bs,Lib.index l [c]=if l.contains c then(lead (·!=c) l:Int) else-1
 |[]=>rfl
 |x::l=>by
  have j:=iG c l;unfold Lib.index;rw[jR,kI];by_cases b:x=c
  ·subst b;simp[List.isPrefixOf]
  ·have d:(x==c)=false:=by simp[b]
   have e:(c==x)=false:=by simp;exact fun h=>b h.symm
   have i:(x !=c)=true:=by simp[b]
   rw[d,j];simp only[List.isPrefixOf,e,Bool.false_and,wG,if_false,Bool.false_or,i,if_true];by_cases a:l.contains c
   ·rw[ah a,ah a];have:((lead (·!=c) l:Int)==-1)=false:=by rw[aL];omega
    rw[this];simp
   ·rw[ae a,ae a];rfl
theorem Eg(c:UInt8)(l:Bs):Lib.cut l [c]=(upto c l,past c l,l.contains c):=by
 unfold Lib.cut upto past;rw[iG];by_cases h:l.contains c
 ·rw[ah h,ah (by omega)];rw[h];have:((lead (·!=c) l:Int)).toNat=lead (·!=c) l:=by omega
  rw[this,cU];simp only[bF,lH,dH];rw[←fh,cz]
 ·rw[ae h,ae (by decide)];have a:∀x∈l,(x !=c)=true:=by intro x i;simp only[bne_iff_ne,ne_eq];intro e;subst e;exact h (by simpa using i)
  have b:l.takeWhile (·!=c)=l:=by rw[←cU,(sK _ l).2 (eV.2 a),List.take_length]
  have d:l.dropWhile (·!=c)=[]:=(bI _ l).2 (eV.2 a);rw[b,d];simp at h;simp[h]
def pieces(c:UInt8):Bs→List Bs
 |[]=>[[]]
 |x::l=>if x==c then[]::pieces c l else(x::(pieces c l).headD [])::(pieces c l).tail
theorem iP(c x:UInt8)(l:Bs):pieces c (x::l)=if x==c then[]::pieces c l else(x::(pieces c l).headD [])::(pieces c l).tail:=rfl
theorem gO(c:UInt8)(l:Bs):pieces c l≠[]:=by
 cases l with
 |nil=>simp[pieces]
 |cons x l=>unfold pieces;split<;>simp
theorem eP(c:UInt8):∀l:Bs,pieces c l=if l.contains c then upto c l::pieces c (past c l) else[l]
 |[]=>rfl
 |x::l=>by
  have i:=eP c l;rw[jR,iP];by_cases e:x=c
  ·subst e;have d:upto x (x::l)=[]:=by simp[upto]
   have b:past x (x::l)=l:=by simp[past]
   rw[d,b];simp
  ·have j:(x==c)=false:=by simp[e]
   have h:(x !=c)=true:=by simp[e]
   have d:upto c (x::l)=x::upto c l:=by simp[upto,h]
   have b:past c (x::l)=past c l:=by simp[past,h]
   rw[j,d,b];simp only[Bool.false_or,wG,if_false];by_cases a:l.contains c
   ·rw[ah a,i,ah a];rfl
   ·rw[ae a,i,ae a];rfl
theorem JQ(c:UInt8)(l:Bs)(h:l.contains c):(past c l).length<l.length:=by
 unfold past;rw[←cz,fh,bK];have:0<l.length:=by cases l with|nil=>simp at h|cons=>simp
 omega
theorem Cc(c:UInt8)(k:Nat):∀l:Bs,Lib.count l [c]≤k→Lib.splitK [c] 0 k l=pieces c l:=by
 induction k with
 |zero=>
  intro l h;rw[Lib.count_one] at h;have a:l.contains c=false:=by
   have:l.count c=0:=by omega
   rw[List.count_eq_zero] at this;simpa using this
  rw[eP,a];rfl
 |succ k j=>
  intro l h;rw[eP];have b:=iG c l;unfold Lib.splitK;by_cases a:l.contains c
  ·rw[ah a] at b⊢;have hcut:=Eg c l;unfold Lib.cut at hcut;rw[ah (by omega)] at hcut;simp only[kj] at hcut;have i:(Lib.index l [c]==-1)=false:=by rw[aL];omega
   rw[i,hcut.2.1];simp only[wG,if_false,qF];rw[hcut.1,j];have e:Lib.index l [c]=(lead (·!=c) l:Nat):=b;have:=Lib.count_hit (by simp) e;rw[this] at h;have d:List.drop (lead (·!=c) l+1) l=past c l:=by unfold past;rw[←cz,fh]
   simp only[bF,lH,dH] at h;rw[d] at h;omega
  ·rw[ae a] at b⊢;rw[b];rfl
end Go.Proofs.YtlemddnecmmfgaaGreatDoor
namespace Go.Proofs.YtlemddnecmmfgaaGreatDoor
open Go.Lib
abbrev dQ:=Bs×Bs
def values(fs:List dQ)(name:Bs):List Bs:=(fs.filter fun f=>same f.1 name).map (·.2)
theorem qN(a b:List dQ)(name:Bs):values (a++b) name=values a name++values b name:=by simp[values]
theorem uj{a:Type}(l:List a)(k:Nat)(x:a)(h:l[k]? =some x):l.take (k+1)=l.take k++[x]:=by rw[List.take_add_one,h];rfl
theorem G6(fs:List dQ)(name:Bs)(k:Nat)(f:dQ)(h:fs[k]? =some f)(a:same f.1 name=true):values (fs.take (k+1)) name=values (fs.take k) name++[f.2]:=by rw[uj fs k f h,qN];simp[values,a]
theorem Lo(fs:List dQ)(name:Bs)(k:Nat)(f:dQ)(h:fs[k]? =some f)(a:same f.1 name=false):values (fs.take (k+1)) name=values (fs.take k) name:=by rw[uj fs k f h,qN];simp[values,a]
theorem xN(fs:List dQ)(name:Bs):(values fs name).length≤fs.length:=by unfold values;rw[jo];exact List.length_filter_le _ _
theorem vR(fs:List dQ)(name:Bs)(k:Nat):(values (fs.take k) name).length≤k:=by have:=xN (fs.take k) name;rw[gu] at this;omega
structure rX (fs:List dQ):Prop where
 many:fs.length≤1000
 each:∀f∈fs,f.1.length+f.2.length≤100000
theorem rX.get{fs:List dQ}(h:rX fs){k:Nat}{f:dQ}(a:fs[k]? =some f):f.1.length+f.2.length≤100000:=h.each f (eQ a)
structure Uq (ls:List Bs):Prop where
 many:ls.length≤1000
 each:∀l∈ls,l.length≤100000
theorem rX.values{fs:List dQ}(h:rX fs)(name:Bs):Uq (values fs name):=by refine⟨bP (xN fs name) h.many,fun l a=> ?_⟩;unfold Go.Proofs.YtlemddnecmmfgaaGreatDoor.values at a;obtain⟨f,b,rfl⟩:=qE.1 a;have:=h.each f (List.mem_filter.1 b).1;omega
theorem R6(ls:List Bs)(h:∀l∈ls,l.length≤100000):lens ls≤100000*ls.length:=by
 induction ls with
 |nil=>simp[lens]
 |cons l ls c=>have d:=h l (by simp);have a:=c fun x b=>h x (by simp[b]);unfold lens at a⊢;simp only[kg,List.sum_cons,bF];omega
theorem oX{ls:List Bs}(h:Uq ls)(a:Bs)(c:a.length≤2):(join ls a).length≤100002000:=by
 cases ls with
 |nil=>simp[join_nil]
 |cons x r=>rw[join_length];have:=R6 (x::r) h.each;have b:=h.many;simp only[bF] at b this;have:a.length*r.length≤2*r.length:=Nat.mul_le_mul_right _ c;omega
def jz(fs:List dQ)(name:Bs):Bs×Bool:=(join (values fs name) [44,32],decide (0<(values fs name).length))
end Go.Proofs.YtlemddnecmmfgaaGreatDoor
namespace Go.Proofs.YtlemddnecmmfgaaGreatDoor
open Go.Lib
theorem l8(c:UInt8):∀l:Bs,(pieces c l).length≤l.length+1
 |[]=>by simp[pieces]
 |x::l=>by
  have:=l8 c l;have a:=gO c l;rw[iP];split
  ·simp;omega
  ·have:0<(pieces c l).length:=abb.2 a;simp;omega
theorem iO(c:UInt8)(n:Nat)(l:Bs)(e:l.length≤n):∀p∈pieces c l,p.length≤l.length:=by
 induction n generalizing l with
 |zero=>have:l=[]:=jn (by omega);subst this;simp[pieces]
 |succ n d=>
  rw[eP];by_cases a:l.contains c
  ·rw[ah a];intro p b;rcases bL.1 b with rfl|b
   ·unfold upto;rw[←cU,gu];omega
   ·have:=JQ c l a;have:=d (past c l) (by omega) p b;omega
  ·rw[ae a];simp
theorem oZ(c:UInt8)(l:Bs):(upto c l).length≤l.length:=by unfold upto;rw[←cU,gu];omega
theorem ij(c:UInt8)(l:Bs):(past c l).length≤l.length:=by unfold past;rw[←cz,fh,bK];omega
theorem cB(p:UInt8→Bool)(l:Bs):(l.dropWhile p).length≤l.length:=by rw[←cz,bK];omega
theorem sJ(l:Bs):(trim l).length≤l.length:=by rw[R5];refine bP (cB _ _) ?_;rw[zN];refine bP (cB _ _) ?_;rw[zN];exact ag _
end Go.Proofs.YtlemddnecmmfgaaGreatDoor
namespace Go.Proofs.YtlemddnecmmfgaaGreatDoor
open Go.Lib
def bA:Bs:=[99,111,111,107,105,101]
def fe(fs:List dQ):Bs×Bool:=(join (values fs bA) [59,32],decide (0<(values fs bA).length))
def vQ(key p:Bs):Option Bs:=if(trim p).contains 61&&upto 61 (trim p)==key then some (past 61 (trim p)) else none
def nL(fs:List dQ)(key:Bs):Option Bs:=(pieces 59 (fe fs).1).findSome? (vQ key)
def uh(key p:Bs):Option Bs:=if upto 61 p==key then some (past 61 p) else none
def rD(t:Bs):Option Bs:=if t.contains 63 then some (past 63 t) else none
def kZ(t key:Bs):Option Bs:=(pieces 38 (past 63 t)).findSome? (uh key)
def TC:List Bs:=[[113,61,48],[113,61,48,46],[113,61,48,46,48],[113,61,48,46,48,48],[113,61,48,46,48,48,48]]
def zq(t:Bs):Bool:=TC.any (t==·)
def zero(w:Bs):Bool:=zq (lower (trim w))
def zB(key p:Bs):Bool:=same (trim (upto 59 p)) key&& !(pieces 59 p).tail.any zero
def ed:Bs:=[97,99,99,101,112,116,45,108,97,110,103,117,97,103,101]
def mS(fs:List dQ)(key:Bs):Bool:=(pieces 44 (jz fs ed).1).any (zB key)
def vk(b:Bool):Bs:=bif b then[116,114,117,101] else[]
theorem R7{a:Type}{ls:List a}{p:a→Bool}{k:Nat}{l:a}(b:ls[k]? =some l)(c:p l=true):ls.any p=true:=
 lF.2 ⟨l,eQ b,c⟩
theorem Ek(c:UInt8)(l:Bs):(pieces c l).head?=some (upto c l):=by
 rw[eP];by_cases h:l.contains c
 ·rw[ah h];rfl
 ·rw[ae h];have b:∀x∈l,(x !=c)=true:=by intro x d;simp only[bne_iff_ne,ne_eq];intro e;subst e;exact h (by simpa using d)
  have a:upto c l=l:=by unfold upto;rw[←cU,(sK _ l).2 (eV.2 b),List.take_length]
  rw[a];rfl
theorem Lp(c:UInt8)(l:Bs)(h:l.contains c=true):Lib.index l [c]=(lead (·!=c) l:Nat):=by rw[iG,ah h]
theorem OL(c:UInt8)(l:Bs)(h:l.contains c=false):Lib.index l [c]=-1:=by rw[iG,h];rfl
theorem kF(c:UInt8)(l:Bs):l.take (lead (·!=c) l)=upto c l:=cU _ _
theorem jA(c:UInt8)(l:Bs):l.drop (lead (·!=c) l+1)=past c l:=by unfold past;rw[←cz,fh]
theorem ld(c:UInt8)(l:Bs)(h:l.contains c=false):upto c l=l:=by have:=Ek c l;rw[eP,h] at this;simpa using this.symm
theorem El(c:UInt8)(l:Bs)(h:l.contains c=false):past c l=[]:=by have a:=congrArg List.length (ld c l h);unfold upto at a;rw[←cU,gu] at a;have b:=iV (·!=c) l;rw[←jA];exact qA (by omega)
theorem kx(c:UInt8)(l:Bs)(h:l.contains c=true):lead (·!=c) l<l.length:=by
 have b:=iV (·!=c) l;rcases aaN (lead (·!=c) l) l.length with h2|h2
 ·exact h2
 ·have a:lead (·!=c) l=l.length:=by omega
  rw[sK,eV] at a;rw[r8] at h;have:=a c h;simp at this
theorem OM(t:Bs)(c:UInt8)(n:Nat)(a:t.length≤n):((⟨t.toArray⟩:ByteArray).extract (lead (·!=c) t+1) n).data.toList=past c t:=by rw[Lib.extract_data,jA,oe];rw[←jA,bK];omega
theorem RR{key l:Bs}(h:(trim l).contains 61=false):vQ key l=none:=by unfold vQ;rw[h];rfl
end Go.Proofs.YtlemddnecmmfgaaGreatDoor
namespace Go.Proofs.YtlemddnecmmfgaaGreatDoor
open Go.Lib
def agentName:Bs:=[117,115,101,114,45,97,103,101,110,116]
def lg:Bs:=[98,114,111,119,115,101,114]
def mU:Bs:=[118,101,114,115,105,111,110]
def VE:Bs:=[111,115]
def iq:Bs:=[77,83,73,69,32]
def sL:Bs:=[77,111,122,105,108,108,97,47]
def mV:Bs:=[87,105,110,100,111,119,115]
def Lq:Bs:=[77,97,99]
def Lr:Bs:=[88,49,49]
def uk:Bs:=[76,105,110,117,120]
def vd(c:UInt8):Bool:=decide (48≤c.toNat∧c.toNat≤57∨c.toNat=46)
def jS(s:Bs):Bs:=bif Lib.contains s iq then[77,83,73,69] else bif Lib.hasPrefix s sL then[77,79,90,73,76,76,65] else[79,84,72,69,82]
def kq(s:Bs):Nat:=bif Lib.contains s iq then(Lib.index s iq).toNat+5 else lead (·!=47) s+1
def Em(s:Bs):Bs×Bool:=((s.drop (kq s)).takeWhile vd,decide (0<lead vd (s.drop (kq s))))
def Us(s:Bs):Bs:=bif Lib.contains s mV then[87,73,78] else bif Lib.contains s Lq then[77,65,67] else bif Lib.contains s Lr||Lib.contains s uk then[85,78,73,88] else[79,84,72,69,82]
def gX(s key:Bs):Bs×Bool:=bif key==lg then(jS s,true) else bif key==mU then Em s else bif key==VE then(Us s,true) else([],false)
def Ls(fs:List dQ)(key:Bs):Bs×Bool:=bif(jz fs agentName).2 then gX (jz fs agentName).1 key else([],false)
theorem De(s:Bs)(c:UInt8):Lib.contains s [c]=s.contains c:=by
 unfold Lib.contains;rw[iG];by_cases h:s.contains c
 ·rw[ah h,h];simp
 ·rw[ae h];simp at h;simp[h]
theorem En(s t:Bs)(h:Lib.contains s t=true):(Lib.index s t).toNat+t.length≤s.length:=by unfold Lib.contains at h;have a:=dv h;have:=Lib.index_room s t a;omega
theorem xO(s key:Bs)(h:(key==lg)=true):gX s key=(jS s,true):=by unfold gX;rw[h];rfl
theorem xP(s key:Bs)(a:(key==lg)=false)(h:(key==mU)=true):gX s key=Em s:=by unfold gX;rw[a,h];rfl
theorem Lt(s key:Bs)(a:(key==lg)=false)(b:(key==mU)=false)(h:(key==VE)=true):gX s key=(Us s,true):=by unfold gX;rw[a,b,h];rfl
theorem Ce(s key:Bs)(a:(key==lg)=false)(b:(key==mU)=false)(h:(key==VE)=false):gX s key=([],false):=by unfold gX;rw[a,b,h];rfl
end Go.Proofs.YtlemddnecmmfgaaGreatDoor
namespace Go.Proofs.YtlemddnecmmfgaaGreatDoor
open Go.Lib
def kX:Bs:=[72,84,84,80,95,72,79,83,84]
def dZ:Bs:=[72,84,84,80,95,82,69,70,69,82,69,82]
def iE:Bs:=[72,84,84,80,95,85,83,69,82,95,65,71,69,78,84]
def eU:Bs:=[72,84,84,80,95,67,79,79,75,73,69]
def iF:Bs:=[81,85,69,82,89,95,83,84,82,73,78,71]
def kY:Bs:=[72,84,84,80,95,65,67,67,69,80,84,95,76,65,78,71,85,65,71,69]
def dP:Bs:=[114,101,102,101,114,101,114]
def Tz:List (Bs×Bs):=[(kX,[104,111,115,116]),(dZ,dP),(iE,agentName),(eU,bA),(iF,[]),(kY,ed)]
def names:List Bs:=Tz.map (·.1)
def cD(name:Bs):Bool:=names.any (·==name)
def RX(name:Bs):Bs:=((Tz.find? (·.1==name)).map (·.2)).getD []
def eT(name key:Bs)(has:Bool):Bs:=bif RX name==bA&&has then bA++[46]++key else RX name
def fJ(s:Bs):Bool:=decide (1≤s.length∧s.length≤64)&&s.all XC
end Go.Proofs.YtlemddnecmmfgaaGreatDoor
namespace Go.Proofs.YtlemddnecmmfgaaGreatDoor
open Go.Lib
def pd(o:Option Bs):Bs×Bool:=(o.getD [],o.isSome)
def OH(h t:Bs)(fs:List dQ)(name:Bs):Bs×Bool:=
 bif name==kX then(h, !h.isEmpty) else
 bif name==dZ then jz fs dP else
 bif name==iE then jz fs agentName else
 bif name==eU then fe fs else
 bif name==iF then pd (rD t) else
 bif name==kY then jz fs ed else([],false)
def TA(t:Bs)(fs:List dQ)(name key:Bs):Bs×Bool:=
 bif name==kX then([],false) else
 bif name==dZ then([],false) else
 bif name==iE then Ls fs key else
 bif name==eU then pd (nL fs key) else
 bif name==iF then pd (bif t.contains 63 then kZ t key else none) else
 bif name==kY then(vk (mS fs key),mS fs key) else([],false)
def dK(h t:Bs)(fs:List dQ)(name key:Bs)(has:Bool):Bs×Bool:=
 bif has then bif fJ key then TA t fs name key else([],false) else OH h t fs name
end Go.Proofs.YtlemddnecmmfgaaGreatDoor
namespace Go.Proofs.YtlemddnecmmfgaaGreatDoor
open Go.Lib
theorem jg(a:Bs)(p:UInt8→Bool)(h:(List.range 256).all (fun n=>a.contains (UInt8.ofNat n)==p (UInt8.ofNat n))=true):(fun c=>a.contains c)=p:=by
 funext c
 have b:=eV.1 h c.toNat (by simp;exact c.toNat_lt);have d:UInt8.ofNat c.toNat=c:=by simp
 rw[d] at b;exact eq_of_beq b
def rE:Bs:=[97,98,99,100,101,102,103,104,105,106,107,108,109,110,111,112,113,114,115,116,117,118,119,120,121,122,65,66,67,68,69,70,71,72,73,74,75,76,77,78,79,80,81,82,83,84,85,86,87,88,89,90,48,49,50,51,52,53,54,55,56,57,95,45,46]
theorem Lu:(fun c=>rE.contains c)=XC:=jg _ _ (by decide+kernel)
def j7:Bs:=[48,49,50,51,52,53,54,55,56,57,46]
theorem Lv:(fun c=>j7.contains c)=vd:=jg _ _ (by decide+kernel)
theorem ON(s:Bs):(Lib.trimLeftS s rE==[])=s.all XC:=by unfold Lib.trimLeftS;rw[show(fun x=>rE.contains x)=XC from Lu,gf,bZ,bI]
theorem R8(s:Bs):fJ s=((s !=[]&&decide (s.length≤64))&&(Lib.trimLeftS s rE==[])):=by
 rw[ON];unfold fJ;congr 1;rw[gf];cases s with
 |nil=>simp
 |cons a l=>simp
theorem Cf(s t:Bs)(h:Lib.contains s t=true):Lib.cut s t=(s.take (Lib.index s t).toNat,s.drop ((Lib.index s t).toNat+t.length),true):=by unfold Lib.cut;unfold Lib.contains at h;rw[ah (dv h)]
theorem AR(s t:Bs)(h:Lib.contains s t=false):Lib.cut s t=(s,[],false):=by unfold Lib.cut;unfold Lib.contains at h;rw[ae (tF h)]
theorem OO(s:Bs)(h:Lib.contains s iq=true):s.drop (kq s)=(Lib.cut s iq).2.1:=by rw[Cf s iq h];unfold kq;rw[h];rfl
theorem Lw(s:Bs)(h:Lib.contains s iq=false):s.drop (kq s)=past 47 s:=by unfold kq;rw[h];exact jA 47 s
theorem Eo(r:Bs):r.length-(Lib.trimLeftS r j7).length=lead vd r:=by unfold Lib.trimLeftS;rw[show(fun x=>j7.contains x)=vd from Lv,←cz,bK];have:=iV vd r;omega
theorem OP(r:Bs):(Lib.trimLeftS r j7).length≤r.length:=by unfold Lib.trimLeftS;exact cB _ _
def R9(t:Bs):Bool:=Lib.hasPrefix t [113,61,48]&&(Lib.trimPrefix t [113,61,48]==[]||((Lib.trimPrefix t [113,61,48]).head?==some 46&&decide ((Lib.trimPrefix t [113,61,48]).length≤4)&&(Lib.trimS (Lib.trimPrefix t [113,61,48]).tail [48]==[])))
theorem XO(l:Bs):(Lib.trimS l [48]==[])=l.all (·==48):=by
 unfold Lib.trimS Lib.trimLeftS Lib.trimRightS;have e:(fun x=>([48]:Bs).contains x)=(·==48):=jg _ _ (by decide+kernel);rw[show(fun x=>([48]:Bs).contains x)=(·==48) from e,gf,bZ,bI];constructor
 ·intro h;have b:l.reverse.dropWhile (·==48)=[]:=by
   cases d:l.reverse.dropWhile (·==48) with
   |nil=>rfl
   |cons a r=>rw[d] at h;have c:=List.head?_dropWhile_not (p:=(·==(48:UInt8))) (l:=l.reverse);rw[d] at c;simp at c h;exact absurd h.2 c
  rw[bI,List.all_reverse] at b;exact b
 ·intro h;have b:l.reverse.dropWhile (·==48)=[]:=by rw[bI,List.all_reverse];exact h
  rw[b];rfl
theorem Ut(t:Bs):R9 t=zq t:=by
 unfold R9 zq TC
 match t with
 |[]=>rfl
 |[a]=>simp[Lib.hasPrefix,List.isPrefixOf]
 |[a,b]=>simp[Lib.hasPrefix,List.isPrefixOf]
 |a::b::c::r=>
  by_cases h:a=113∧b=61∧c=48
  ·obtain⟨rfl,rfl,rfl⟩:=h;have d:Lib.hasPrefix (113::61::48::r) [113,61,48]=true:=by simp[Lib.hasPrefix]
   have e:Lib.trimPrefix (113::61::48::r) [113,61,48]=r:=by unfold Lib.trimPrefix;rw[d];rfl
   rw[d,e]
   match r with
   |[]=>rfl
   |[x]=>rw[XO];simp
   |[x,y]=>rw[XO];simp
   |[x,y,z]=>rw[XO];simp
   |[x,y,z,u]=>rw[XO];simp
   |x::y::z::u::v::r=>simp
  ·have d:Lib.hasPrefix (a::b::c::r) [113,61,48]=false:=by unfold Lib.hasPrefix;rw[Bool.eq_false_iff];simp only[List.isPrefixOf,Bool.and_true,ne_eq,cW,bZ];rintro⟨d,e,i⟩;exact h ⟨d.symm,e.symm,i.symm⟩
   rw[d];simp only[Bool.false_and,rZ,List.any_nil,Bool.or_false];symm;simp only[uF,aL,ne_eq,Xy,not_and];refine⟨?_, ?_, ?_, ?_, ?_⟩<;>(intro d e i;exact absurd ⟨d,e,i⟩ h)
end Go.Proofs.YtlemddnecmmfgaaGreatDoor
abbrev Go.RowKit.Below.t:=@Go.RowKit.Below.trans
abbrev Go.RowKit.Below.m:=@Go.RowKit.Below.mono
abbrev Go.Calls.m:=@Go.Calls.mono
abbrev Go.CallsD.m:=@Go.CallsD.mono
abbrev Go.World.Extends.t:=@Go.World.Extends.trans
namespace Go.Proofs.YtlemddnecmmfgaaGreatDoor
open Go.RowKit
variable{e k:Bool}{a:Bs}{I:ByteArray}{Z:List Value}{i p j:Nat}{l:TypeId}{d V:World}
def Good(w:World):Prop:=∃m:Int,w.cell? ⟨0,0,none⟩=some (.int .i64 m)
theorem aV{v:Value}(h:d.cell? ⟨i,p,none⟩=some v):i<d.heap.size:=by
 unfold World.cell? at h;by_cases a:i<d.heap.size
 ·exact a
 ·rw[Kl (by show d.heap.size≤i;omega)] at h;cases h
theorem Good.lt(h:Good d):0<d.heap.size:=by obtain⟨m,h⟩:=h;exact aV h
theorem Good.below{n:Nat}(h:Good d)(a:Below n d V)(b:0<n):Good V:=by obtain⟨m,h⟩:=h;exact⟨m,(a.cell (p:=⟨_,0,none⟩) b).t h⟩
theorem Good.next{w w':World}(h:Good w)(a:Below w.heap.size w w'):Good w':=h.below a h.lt
theorem eR(a:Below d.heap.size d V):(∀b o,b<d.heap.size→V.cell? ⟨b,o,none⟩=d.cell? ⟨b,o,none⟩)∧(∀b o,b<d.heap.size→V.frozen? ⟨b,o,none⟩=d.frozen? ⟨b,o,none⟩):=
 ⟨fun b o h=>a.cell (p:=⟨b,o,none⟩) h,fun b o h=>a.frozen (p:=⟨b,o,none⟩) h⟩
theorem bH(w:World)(a:Array Value)(t:TypeId)(j:Nat)(v:Value)(h:a[j]? =some v):(w.alloc (.cells a t)).cell? ⟨w.heap.size,j,none⟩=some v:=by have b:(w.alloc (.cells a t)).heap[w.heap.size]? =some (.cells a t):=heap_alloc_new w _;unfold World.cell?;rw[show(w.alloc (.cells a t)).heap[(⟨w.heap.size,j,none⟩:Addr).block]? =_ from b];simpa using h
theorem eG{x:Obj}(a:Below (d.alloc x).heap.size (d.alloc x) V):Below d.heap.size d V:=
 ((Below.refl _ _).alloc (ag _) x).t (a.m (by simp))
theorem kt(h:Below d.drew.heap.size d.drew V):Below d.heap.size d V:=
 have k:=(Below.refl d.heap.size d).drew
 k.t (h.m k.size)
def cN(w:World)(v:Value):Ending→World→Prop:=fun e w'=>e=.returned v∧Below w.heap.size w w'
theorem jF(h:I.data.toList=a):Ending.returned (.string I)=.returned (.string ⟨a.toArray⟩):=by rw[dU h]
theorem MN(h:I.data.toList=a)(c:e=k):Ending.returned (.tuple #[.string I,.bool e])=.returned (.tuple #[.string ⟨a.toArray⟩,.bool k]):=by rw[dU h,c]
theorem bW{k:IntKind}{a b:Int}(h:a=b):Ending.returned (.int k a)=.returned (.int k b):=by rw[h]
theorem cq(h:e=k):Ending.returned (.bool e)=.returned (.bool k):=by rw[h]
theorem cf(s:ByteArray)(a b:Nat):(s.extract a b).data.toList=(s.data.toList.drop a).take (b-a):=Lib.extract_data s a b
theorem se{v:Value}(h:d.ownsRow i l p v (j+1) Z):∃g cap,v=.slice (some ⟨g,0,none⟩) (j+1) cap:=by
 rcases h.2 with⟨_,a⟩|⟨g,cap,_,rfl,_⟩
 ·omega
 ·exact⟨g,cap,rfl⟩
theorem cp{v:Value}(h:d.ownsRow i l p v j Z)(a:Below d.heap.size d V):V.ownsRow i l p v j Z:=
 h.kept (row:=none) ⟨a.os,a.tape,a.output,a.size,fun k b _=>a.block k b⟩ (by cases v.ownBlock<;>simp)
theorem CZ{P:Program}{ops:Array Oper}{rest:List Oper}{o:Oper}{a:Act}{Q:Exit→Act→World→Prop}(C:o.guard=none)(s x:Operand)(t:TypeId)
 (J:o.op=.call {callee:=.builtin .append,args:=#[s,x],argTypes:=#[t,t]})
 (e:TypeId)(z:Value)(size bytes:Nat)(R:P.underlying t=some (.slice e))(E:(P.info? e).map (fun i=>(i.zero,i.size,i.bytes))=some (some z,size,bytes))
 (X:z.cells.size=size)(N:0<size)(base:Nat)(w:World)
 (v:Value)(n:Nat)(xs:List Value)(L:a.eval s=v)(m:w.ownsRow base e size v n xs)
 (b:List Value)(S:d=w.alloc (.cells b.toArray e))(Z:b.length=size)(T:a.eval x=.slice (some ⟨w.heap.size,0,none⟩) 1 1)(q:∀u∈b,u.oneCell'=true)
 (B:(n+1)*bytes≤140737488355328)(Y:n+1≤140737488355328)(y:base≤w.heap.size)
 (h:∀g cap w',w'.ownsRow base e size (.slice (some ⟨g,0,none⟩) (n+1) cap) (n+1) (xs++b)→Below base w w'→w.heap.size<w'.heap.size→
  wpList P ops Q rest (a.put o.dst (.slice (some ⟨g,0,none⟩) (n+1) cap)) w'):
 wpList P ops Q (o::rest) a d:=by
 subst S;obtain⟨i,D,V,M,A⟩:=info_parts E;refine wpList_append_own _ C s x t J base e i z size bytes R D V M A X N v n xs L (m.alloc _) ⟨w.heap.size,0,none⟩ 1 1 b T (by omega) ?_ q
  (by unfold maxLen;omega) B (by simp;omega) ?_
 ·intro j u F;have G:b.toArray[j]? =some u:=by simpa using F
  have I:(w.alloc (.cells b.toArray e)).heap[w.heap.size]? =some (.cells b.toArray e):=heap_alloc_new w _;have:((⟨w.heap.size,0,none⟩:Addr).add j)=⟨w.heap.size,j,none⟩:=by
   unfold Addr.add;by_cases c:j=0
   ·subst c;rfl
   ·rw[ae c];simp
  rw[this];unfold World.cell?;rw[show(w.alloc (.cells b.toArray e)).heap[(⟨w.heap.size,j,none⟩:Addr).block]? =_ from I];simpa using G
 ·intro v' w' p l _;obtain⟨g,cap,rfl⟩:=se p;have r:Below base w (w.alloc (.cells b.toArray e)):=(Below.refl _ _).alloc y _;have K:∀k,v.ownBlock=some k→base≤k:=fun k H=>(m.lt k H).1;have O:w.heap.size<w'.heap.size:=by have:=l.size;simp at this;omega
  exact h g cap w' p (r.grown l (by simp;omega) K) O
theorem u5:Tryz.prog.underlying 5=some (.int .u8):=by kernel_rfl
theorem u9:Tryz.prog.underlying 9=some .string:=by kernel_rfl
theorem u83:Tryz.prog.underlying 83=some (.slice 5):=by kernel_rfl
theorem u42:Tryz.prog.underlying 42=some (.slice 9):=by kernel_rfl
theorem Ti:(Tryz.prog.info? 5).map (fun i=>(i.zero,i.size,i.bytes))=some (some (.int .u8 0),1,1):=by kernel_rfl
theorem MO:(Tryz.prog.info? 9).map (fun i=>(i.zero,i.size,i.bytes))=some (some (.string ⟨#[]⟩),1,16):=by kernel_rfl
def da(l:Bs):List Value:=l.map fun b=>Value.int .u8 (b.toNat:Int)
theorem MP{v:Value}(h:d.ownsRow i 5 1 v p (da a)):
 (convert 83 9 v).run Tryz.prog d=.ok (.string ⟨a.toArray⟩) d:=by
 have c:a.length=p:=by have:=h.1;simpa[da] using this
 rcases h.2 with⟨rfl,k⟩|⟨g,cap,e,rfl,_,m,_,_,_,o⟩
 ·have:a=[]:=jn (by omega);subst this;exact Lib.run_convert_nil_bytes d _ _ _ 0 u83 u5 u9
 ·have:=run_convert_bytes_back (P:=Tryz.prog) d 83 9 5 ⟨g,0,none⟩ cap a u83 u5 u9
   (fun j b=>h.cells rfl j (.int .u8 (a[j].toNat:Int)) (by simp[da,b]))
  rw[c] at this;exact this
end Go.Proofs.YtlemddnecmmfgaaGreatDoor
namespace Go.Proofs.YtlemddnecmmfgaaGreatDoor
open Go.RowKit
variable{e k:Bool}{a:Bs}{I:ByteArray}{Z:List Value}{i p j:Nat}{l:TypeId}{d V:World}
theorem C0{v:Value}(h:d.grownBy V v.ownBlock)(a:∀k,v.ownBlock=some k→i≤k)(b:i≤d.heap.size):Below i d V:=
 (Below.refl i d).grown h b a
structure Xg (w W:World) (o1 o2:Obj):Prop where
 b1:W.heap[w.heap.size]? =some o1
 b2:W.heap[w.heap.size+1]? =some o2
 size:W.heap.size=w.heap.size+1+1
 below:Below w.heap.size w W
theorem jG(w:World)(o1 o2:Obj):Xg w ((w.alloc o1).alloc o2) o1 o2:=by have n1:(w.alloc o1).heap[w.heap.size]? =some o1:=heap_alloc_new w _;have n2:=heap_alloc_new (w.alloc o1) o2;simp only[World.size_alloc] at n2;have a:=(Below.refl w.heap.size w).alloc (ag _) o1;exact⟨(Below.heap_alloc _ _ _ (by simp)).t n1,n2,by simp,a.alloc a.size o2⟩
theorem aw{b j:Nat}{a:Array Value}{v:Value}(h:d.heap[b]? =some (.cells a l)):(d.setCell ⟨b,j,none⟩ v).heap[b]? =some (.cells (a.setIfInBounds j v) l):=by exact Lib.heap_setCell_same (i:=j) h v
end Go.Proofs.YtlemddnecmmfgaaGreatDoor
namespace Go.Proofs.YtlemddnecmmfgaaGreatDoor
open Go.RowKit
variable{e k:Bool}{a:Bs}{I:ByteArray}{Z:List Value}{i p j:Nat}{l:TypeId}{d V:World}
def cM(ls:List Bs):List Value:=ls.map fun l=>Value.string ⟨l.toArray⟩
theorem oG(ls:List Bs)(l:Bs):cM (ls++[l])=cM ls++[.string ⟨l.toArray⟩]:=by simp[cM]
theorem nk(ls:List Bs):(cM ls).length=ls.length:=by simp[cM]
def cg(w:World)(v:Value)(ls:List Bs):Prop:=
 (∃a c,v=.slice a 0 c∧ls=[])∨
 ∃b o c,v=.slice (some ⟨b,o,none⟩) ls.length c∧ls.length≤c∧b<w.heap.size∧
  ∀(j:Nat) (l:Bs),ls[j]? =some l→w.cell? ⟨b,o+j,none⟩=some (.string ⟨l.toArray⟩)
def qU(w:World)(b o:Nat)(ls:List Bs):Prop:=∀(j:Nat) (l:Bs),ls[j]? =some l→w.cell? ⟨b,o+j,none⟩=some (.string ⟨l.toArray⟩)
theorem qU.below{b o n:Nat}{ls:List Bs}(h:qU d b o ls)(a:Below n d V)(e:b<n):qU V b o ls:=fun j l c=>(a.cell (p:=⟨b,_,none⟩) e).t (h j l c)
theorem cg.below{w w':World}{v:Value}{ls:List Bs}(h:cg w v ls)(a:Below w.heap.size w w'):cg w' v ls:=by
 rcases h with h|⟨b,o,c,rfl,e,d,i⟩
 ·exact .inl h
 ·exact .inr ⟨b,o,c,rfl,e,ej d a.size,qU.below i a d⟩
theorem cg.wO{v:Value}{ls:List Bs}(h:d.ownsRow i 9 1 v p (cM ls)):cg d v ls:=by
 have k:p=ls.length:=by have:=h.1;simpa[cM] using this.symm
 have m:=fun(g:Nat) (c:v.ownBlock=some g)=>h.cells c;have b:=h.lt;rcases h.2 with⟨rfl,a⟩|⟨g,cap,o,rfl,_,c,q,_,_,_⟩
 ·subst a;exact .inl ⟨none,0,rfl,jn k.symm⟩
 ·refine .inr ⟨g,0,cap,by rw[k],by omega,(b g rfl).2,fun j l b=> ?_⟩;have:=m g rfl j (.string ⟨l.toArray⟩) (by simp[cM,b]);have e:((⟨g,0,none⟩:Addr).add j)=⟨g,0+j,none⟩:=by
   unfold Addr.add;by_cases a:j=0
   ·subst a;rfl
   ·rw[ae a]
  rw[e] at this;exact this
theorem aX{v:Value}(h:d.ownsRow i l p v j Z):∃a c,v=.slice a j c:=by
 rcases h.2 with⟨rfl,rfl⟩|⟨g,cap,_,rfl,_⟩
 ·exact⟨none,0,rfl⟩
 ·exact⟨_,_,rfl⟩
def vU(w:World)(ls:List Bs):Ending→World→Prop:=fun e w'=>∃v,e=.returned v∧w'.ownsRow w.heap.size 9 1 v ls.length (cM ls)∧Below w.heap.size w w'
end Go.Proofs.YtlemddnecmmfgaaGreatDoor
namespace Go.Proofs.YtlemddnecmmfgaaGreatDoor
open Go.RowKit Go.ChangeShapes Go.WideShapes
variable{a:List (Nat×TypeId)}{d:Nat}{L:Reach}{b i:TypeId}
def wv:Option TypeDesc→Option (List (Nat×TypeId))
 |some (.struct fs)=>some (fs.toList.map fun f=>(f.offset,f.type))
 |_=>none
theorem Cd{d:Option TypeDesc}(h:wv d=some a):∃fs,d=some (.struct fs)∧fs.toList.map (fun f=>(f.offset,f.type))=a:=by
 cases d with
 |none=>cases h
 |some d=>cases d<;>first|(cases h;done)|(exact⟨_,rfl,by simpa[wv] using h⟩)
def Xw{H:Type}(t:TypeId)(d:DataW H):Prop:=∀n∈d.weights Tryz.prog t,n≤reachBytes
theorem X1{H:Type}{c:List TypeId}{a:List (DataW H)}(h:(DataW.weightsEach Tryz.prog c a).all (·≤reachBytes)=true){j:Nat}{d:DataW H}(k:c[j]? =some b)(e:a[j]? =some d):Xw b d:=fun n i=>dv (eV.1 h n (DataW.weights_mem_each k e n i))
theorem X5{H:Type}{fs:Array Field}{parts:List (DataW H)}(l:Tryz.prog.underlying b=some (.struct fs))(h:Xw b (.agg parts)){f:Field}{a:DataW H}(e:fs[d]? =some f)(c:parts[d]? =some a):Xw f.type a:=fun n k=>by refine h n ?_;rw[DataW.weights,l];exact DataW.weights_mem_each (j:=d) (by simp[e]) c n k
theorem YY{H:Type}{e:TypeId}:∀{l:List (DataW H)} {d:DataW H},d∈l→∀n∈d.weights Tryz.prog e,n∈DataW.weightsAll Tryz.prog e l
 |[],d,h,n,a=>by cases h
 |x::r,d,h,n,a=>by
  rw[DataW.weightsAll];rcases bL.1 h with rfl|h
  ·exact gZ.2 (.inl a)
  ·exact gZ.2 (.inr (YY h n a))
theorem Ym{H:Type}{elems spare:List (DataW H)}(j:Tryz.prog.underlying b=some (.slice i))(h:Xw b (.slice elems spare)){d:DataW H}(a:d∈elems):Xw i d:=fun n c=>by refine h n ?_;rw[DataW.weights,j];exact bY _ (gZ.2 (.inl (YY a n c)))
theorem X6{H:Type}{elems spare:List (DataW H)}(a:Tryz.prog.underlying b=some (.slice i))(h:Xw b (.slice elems spare)):(elems.length+spare.length)*Tryz.prog.bytesOf i≤reachBytes:=by refine h _ ?_;rw[DataW.weights,a];exact eF
theorem Xp{H:Type}{s:Bs}(h:Xw b (.lit (.string s):DataW H)):s.length≤reachBytes:=h _ (by rw[DataW.weights];exact fj.2 rfl)
section
variable{H:Type}{enc:TypeId×Value→H}{W:World}{base:Nat}{sp:Nat→Bool}{held:Bool}
theorem wq{j:List Value}{x:DataW H×List MemPlace}(B:wv (Tryz.prog.underlying b)=some a)(h:DataW.trod enc Tryz.prog W base sp held d b j=some x)
 (i o:Nat)(c:TypeId)(q:a[i]? =some (o,c))(s:Tryz.prog.cellsOf c=1):∃y n,DataW.trod enc Tryz.prog W base sp held n c ((j.drop o).take 1)=some y∧(Xw b x.1→Xw c y.1):=by
 obtain⟨fs,r,A⟩:=Cd B;obtain⟨xs,n,_,C,_,z,w⟩:=DataW.trod_struct r h;rw[←A,uI] at q;obtain⟨f,u,m⟩:=qG.1 q;simp only[kj] at m;obtain⟨rfl,rfl⟩:=m;have e:fs[i]? =some f:=by simpa using u
 have:=w i f e;rw[s] at this;have p:i<xs.length:=by rw[z];exact(aB.1 e).1
 refine⟨xs[i],n,by rw[this];exact cA p,fun k=> ?_⟩;rw[C] at k;exact X5 r k e (by rw[uI,cA p];rfl)
end
theorem TB:Tryz.prog.cellsOf 9=1:=by kernel_rfl
theorem YZ:Tryz.prog.cellsOf 3=1:=by kernel_rfl
theorem YQ:Tryz.prog.cellsOf 4=1:=by kernel_rfl
theorem u3:Tryz.prog.underlying 3=some (.int .i64):=by kernel_rfl
theorem u4:Tryz.prog.underlying 4=some .bool:=by kernel_rfl
theorem YB{c:Type}{p:Nat→c→Prop}:∀n:Nat,(∀i,i<n→∃x,p i x)→∃l:List c,l.length=n∧∀i x,l[i]? =some x→p i x
 |0,_=>⟨[],rfl,fun i x h=>by simp at h⟩
 |n+1,h=>by
  obtain⟨l,b,e⟩:=YB n fun i d=>h i (by omega);obtain⟨x,j⟩:=h n (by omega);refine⟨l++[x],by simp[b],fun i y a=> ?_⟩;by_cases d:i<n
  ·rw[qC (by omega)] at a;exact e i y a
  ·have:i=n:=by have:=(cH.1 a).1;simp at this;omega
   subst this;rw[jL (by omega),b] at a;simp at a;subst a;exact j
section
variable{H:Type}{enc:TypeId×Value→H}{W:World}{sp:Nat→Bool}{held:Bool}
theorem Yw{n:Nat}{v:Value}(h:wv (Tryz.prog.underlying b)=some a)(e:Tryz.prog.cellsOf b=n)(k:Value.okWide Tryz.prog W L d b v):∃c:List Value,v=.agg c.toArray∧c.length=n:=by obtain⟨fs,j,_⟩:=Cd h;obtain⟨c,rfl,i⟩:=okWide_struct j k;exact⟨c.toList,by simp,by rw[←e,←i];simp⟩
theorem ZG{v:Value}{a:DataW H}{p:List MemPlace}(c:Value.okWide Tryz.prog W L d 9 v)(h:DataW.Trod enc Tryz.prog W 0 (fun _=>true) held 9 v a p)(b:Xw 9 a):
 ∃s:ByteArray,v=.string s∧s.size≤140737488351232:=by
 obtain⟨s,rfl,rfl,_,_⟩:=Go.ChangeMaps.open_string u9 c h;exact⟨s,rfl,by rw[←bj];exact Xp b⟩
end
