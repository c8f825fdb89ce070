/- The walks of esitree's small functions. -/
import Derived.Test.YtlemddnecmmfgaaGreatDoorKak
set_option linter.unusedVariables false
set_option maxRecDepth 100000
namespace Go.Proofs.YtlemddnecmmfgaaGreatDoor
open Go.Lib
variable{n:Bool}{j:Bs}{J:Ex}{a:Int}{b:UInt8}{e:bc}{B:gi}
theorem zH(c x:UInt8)(r:Bs):hasPrefix (x::r) [c]=(c==x):=by simp[hasPrefix,List.isPrefixOf]
theorem SD(c d x y:UInt8)(r:Bs):hasPrefix (x::y::r) [c,d]=(c==x&&d==y):=by simp[hasPrefix,List.isPrefixOf]
section
variable{s s' q:Bs}{d:Nat}
end
section
variable{s s' q:Bs}{d:Nat}{low:Prop}
end
theorem IB{s:Bs}(h:(ew s).2.2=0):∃x t,vh s 16 0=.aq x t∧t≤s.length∧rs s t=[]∧ew s=(x,0,0):=by
 have a:=(lq s 16).1 0 (aH _);unfold ew at h⊢;cases c:vh s 16 0 with
 |ay p e=>rw[c] at h a;have h:e=0:=h;have a:p≤s.length∧(e=3∨e=15):=a;omega
 |aq x t=>
  rw[c] at h a;have a:0<t∧t≤s.length:=a;change(bif decide (pa s t=s.length) then(x,0,0) else(sF,pa s t,15):Ex×Nat×Int).2.2=0 at h;refine⟨x,t,rfl,a.2, ?_, ?_⟩
  ·cases b:decide (pa s t=s.length)
   ·rw[b] at h;cases h
   ·rw[eM] at b;have:=nP s a.2;exact List.length_eq_zero_iff.1 (by omega)
  ·show(bif decide (pa s t=s.length) then(x,0,0) else(sF,pa s t,15):Ex×Nat×Int)=_;cases b:decide (pa s t=s.length)
   ·rw[b] at h;cases h
   ·rfl
end Go.Proofs.YtlemddnecmmfgaaGreatDoor
namespace Go.Proofs.YtlemddnecmmfgaaGreatDoor
open Go.Lib
variable{n:Bool}{j:Bs}{J:Ex}{a:Int}{b:UInt8}{e:bc}{B:gi}
def pD(u:bc):Bs:=
 let a:=[36,40]++u.name;let b:=bif u.hk then a++(([123]++u.key)++[125]) else a;let c:=bif u.hd then b++(([124,39]++u.cK)++[39]) else b
 c++[41]
def UL(v:iZ)(u:bc):Bool:=v.name==u.name&&v.key==u.key&&v.cK==u.cK&&v.hk==u.hk&&v.hd==u.hd
def E8(u:bc):Bool:=match cv (pD u) 0 with
 |none=>false
 |some v=>decide (v.src=0)&&decide (v.to=(pD u).length)&&UL v u
def ez(t:Bs):Bool:= !t.isEmpty&&decide (t.length≤18)&&t.all kH
def IC(k:Int)(t:Bs)(u:bc)(n:Nat):Bool:=
 if k=3 then decide (n=1)&&t.isEmpty&&Ba u aC
 else if k=10 then !hasB 39 t&&(decide (n=0)&&Ba u aC)
 else if k=11 then ez t&&(decide (n=0)&&Ba u aC)
 else if k=12 then E8 u&&(decide (n=0)&&t.isEmpty)
 else decide (1≤k∧k≤12)&&(decide (n=2)&&t.isEmpty&&Ba u aC)
mutual
def jU:Ex→Bool
 |.mk k t u l=>IC k t u l.length&&vT l
def vT:List Ex→Bool
 |[]=>true
 |x::r=>jU x&&vT r
end
mutual
def cu:Ex→Nat
 |.mk _ t u l=>1+t.length+u.name.length+u.key.length+u.cK.length+jc l
def jc:List Ex→Nat
 |[]=>0
 |x::r=>cu x+jc r
end
theorem SE{l:List Ex}(h:l.length=1):∃a,l=[a]:=List.length_eq_one_iff.1 h
theorem SF{l:List Ex}(h:l.length=2):∃a b,l=[a,b]:=by
 match l,h with
 |[a,b],_=>exact⟨a,b,rfl⟩
theorem Ps(a:Ex):vT [a]=jU a:=by rw[vT,vT,Bool.and_true]
theorem Pt(a b:Ex):vT [a,b]=(jU a&&jU b):=by rw[vT,vT,vT,Bool.and_true]
theorem yB{p:UInt8→Bool}{q:Bs}(hq:∀c r,q=c::r→p c=false):∀{l:Bs},l.all p=true→(l++q).takeWhile p=l∧(l++q).dropWhile p=q
 |[],_=>by
  cases q with
  |nil=>exact⟨rfl,rfl⟩
  |cons c r=>rw[kK,oD,r9,hq c r rfl];exact⟨rfl,rfl⟩
 |x::l,h=>by rw[kf,cW] at h;obtain⟨a,b⟩:=yB hq h.2;rw[di,oD,r9,ah h.1,ah h.1];exact⟨by rw[a],b⟩
theorem pF(p:UInt8→Bool):∀l:Bs,(l.takeWhile p).all p=true
 |[]=>rfl
 |x::l=>by
  rw[oD];cases h:p x
  ·rfl
  ·rw[ah rfl,kf,h,pF p l];rfl
theorem uv(c:UInt8)(l:Bs):hasB c (upto c l)=false:=by have h:=pF (·!=c) l;unfold hasB;rw[List.contains_eq_mem,wJ];intro a;have:=eV.1 h c a;simp at this
theorem J1(h:hasB b j=false)(q:Bs):upto b (j++b::q)=j∧past b (j++b::q)=q∧(j++b::q).contains b=true:=by
 have k:j.all (·!=b)=true:=by rw[eV];intro x m;unfold hasB at h;rw[List.contains_eq_mem,wJ] at h;simp only[bne_iff_ne,ne_eq];intro e;subst e;exact h m
 obtain⟨d,i⟩:=yB (p:=(·!=b)) (q:=b::q) (fun a r e=>by cases e;simp) k;refine⟨d, ?_, ?_⟩
 ·unfold past;rw[i];rfl
 ·rw[List.contains_eq_mem,eM];simp
theorem SG(h:j.all XC=true):hasB 39 j=false:=by unfold hasB;rw[List.contains_eq_mem,wJ];intro a;have:=eV.1 h 39 a;exact absurd this (by decide)
theorem qQ(h:j.contains b=true):(upto b j).length+(past b j).length+1=j.length:=by have a:=kx b j h;rw[←jA,bK];show lead (·!=b) j+_+1=_;omega
structure J2 (r:Bs) (p:gi):Prop where
 name:p.name.all dt=true
 known:cD p.name=true
 key:(p.hk=true∧fJ p.key=true∧hasB 125 p.key=false)∨(p.hk=false∧p.key=[])
 cK:(p.hd=true∧hasB 39 p.cK=false)∨(p.hd=false∧p.cK=[])
 len:p.name.length+p.key.length+p.cK.length+p.rest.length+1≤r.length
theorem Pu{k d:Bs}(h:ey j=some (k,n,d)):((n=true∧fJ k=true∧hasB 125 k=false)∨(n=false∧k=[]))∧k.length+d.length≤j.length:=by
 unfold ey at h;cases a:hasPrefix j [123]
 ·rw[a] at h;cases h;exact⟨.inr ⟨rfl,rfl⟩,by simp⟩
 ·rw[a] at h;have e:=fK a;simp only[aS] at h;cases b:(trimPrefix j [123]).contains 125
  ·rw[b] at h;cases h
  ·rw[b] at h;cases c:fJ (upto 125 (trimPrefix j [123]))
   ·rw[c] at h;cases h
   ·rw[c] at h;simp only[Bool.and_self,aS,gR,kj] at h;obtain⟨rfl,rfl,rfl⟩:=h;have i:=qQ b;exact⟨.inl ⟨rfl,c,uv _ _⟩,by omega⟩
theorem Pv{r d e:Bs}(h:gm r=some (d,n,e)):((n=true∧hasB 39 d=false)∨(n=false∧d=[]))∧d.length+e.length≤r.length:=by
 unfold gm at h;cases b:hasPrefix r [124]
 ·rw[b] at h;cases h;exact⟨.inr ⟨rfl,rfl⟩,by simp⟩
 ·rw[b] at h;have i:=fK b;simp only[aS] at h;unfold lp at h;cases c:hasPrefix (trimPrefix r [124]) [39]
  ·rw[c] at h;simp only[cI] at h;cases a:((trimPrefix r [124]).takeWhile XC).isEmpty
   ·rw[a] at h;simp only[cI,gR,kj] at h;obtain⟨rfl,rfl,rfl⟩:=h;refine⟨.inl ⟨rfl,SG (pF _ _)⟩, ?_⟩;rw[←cz,←cU,bK,gu];omega
   ·rw[a] at h;cases h
  ·rw[c] at h;have j:=fK c;simp only[aS] at h;cases a:(trimPrefix (trimPrefix r [124]) [39]).contains 39
   ·rw[a] at h;cases h
   ·rw[a] at h;simp only[aS,gR,kj] at h;obtain⟨rfl,rfl,rfl⟩:=h;have k:=qQ a;exact⟨.inl ⟨rfl,uv _ _⟩,by omega⟩
theorem xE(h:gj j=some B):J2 j B:=by
 unfold gj at h;cases a:cD (j.takeWhile dt)
 ·rw[a] at h;cases h
 ·rw[a] at h;simp only[aS] at h;cases b:ey (j.dropWhile dt) with
  |none=>rw[b] at h;cases h
  |some v=>
   obtain⟨k,l,m⟩:=v;rw[b] at h;obtain⟨a1,a2⟩:=Pu b;change dz (j.takeWhile dt) k l m=some B at h;unfold dz at h;cases c:gm m with
   |none=>rw[c] at h;cases h
   |some v=>
    obtain⟨d,o,i⟩:=v;rw[c] at h;obtain⟨b1,b2⟩:=Pv c;change gH (j.takeWhile dt) k d l o i=some B at h;unfold gH at h;cases e:hasPrefix i [41]
    ·rw[e] at h;cases h
    ·rw[e] at h;simp only[aS,gR] at h;subst h;have n:=fK e;simp only[mF] at n;have q:(j.takeWhile dt).length+(j.dropWhile dt).length=j.length:=by rw[←bB,CX]
     exact⟨pF _ _,a,a1,b1,by show(j.takeWhile dt).length+k.length+d.length+(trimPrefix i [41]).length+1≤_;omega⟩
theorem pG(c:UInt8)(r:Bs):trimPrefix (c::r) [c]=r:=by unfold trimPrefix;rw[ah (by rw[zH];simp)];rfl
theorem ID(h:J2 j B)(q:Bs):gj ((B.name++((bif B.hk then([123]++B.key)++[125] else[])++(bif B.hd then([124,39]++B.cK)++[39] else[])))++41::q)=some {B with rest:=q}:=by
 obtain⟨nm,k,d,i,l,rest⟩:=B;obtain⟨u,w,x,y,_⟩:=h;simp only at u w x y⊢;have N:∀j,j=(bif l then([124,39]++d)++[39] else[])++41::q→dz nm k i j=some ⟨nm,k,d,i,l,q⟩∧∃c n,j=c::n∧c≠123∧dt c=false:=by
  intro j m;rcases y with⟨rfl,M⟩|⟨rfl,rfl⟩
  ·have e:j=124::39::(d++39::41::q):=by rw[m];simp
   subst e;refine⟨?_,124,_,rfl,by decide,by decide⟩;obtain⟨u1,u2,u3⟩:=J1 M (41::q);unfold dz gm;rw[zH,pG];show(match lp (39::(d++39::41::q)) with|none=>none|some (d,l,s)=>gH nm k d i l s)=_;unfold lp;rw[zH,pG];show(match(bif(d++39::41::q).contains 39 then some (upto 39 (d++39::41::q),true,past 39 (d++39::41::q)) else none:Option (Bs×Bool×Bs)) with|none=>none|some (d,l,s)=>gH nm k d i l s)=_;rw[u1,u2,u3];show gH nm k d i true (41::q)=_;unfold gH;rw[zH,pG];rfl
  ·have e:j=41::q:=by rw[m];rfl
   subst e;refine⟨?_,41,_,rfl,by decide,by decide⟩;unfold dz gm;rw[zH];show gH nm k [] i false (41::q)=_;unfold gH;rw[zH,pG];rfl
 obtain⟨R,A⟩:∃R,(bif l then([124,39]++d)++[39] else[])++41::q=R:=⟨_,rfl⟩;obtain⟨t,c,n,o,I,J⟩:=N R A.symm;rw[jl,jl,A];have O:∀j,j=(bif i then([123]++k)++[125] else[])++R→(match ey j with|none=>none|some (k,i,C)=>dz nm k i C)=some ⟨nm,k,d,i,l,q⟩∧∃c n,j=c::n∧dt c=false:=by
  intro j m;rcases x with⟨rfl,Q,L⟩|⟨rfl,rfl⟩
  ·have e:j=123::(k++125::R):=by rw[m];simp
   subst e;refine⟨?_,123,_,rfl,by decide⟩;obtain⟨u1,u2,u3⟩:=J1 L R;unfold ey;rw[zH,pG,u1,u2,u3,Q];exact t
  ·have e:j=R:=by rw[m];rfl
   subst e;refine⟨?_,c,n,o,J⟩;unfold ey;rw[o,zH,show((123:UInt8)==c)=false from aL.2 (eo I),←o];exact t
 obtain⟨K,z⟩:∃K,(bif i then([123]++k)++[125] else[])++R=K:=⟨_,rfl⟩;obtain⟨F,S,C,G,H⟩:=O K z.symm;rw[z];obtain⟨D,E⟩:=yB (p:=dt) (q:=K) (fun a b e=>by rw[G] at e;cases e;exact H) u;unfold gj;rw[D,E,w];exact F
theorem Pw(u:bc):pD u=36::40::((u.name++((bif u.hk then([123]++u.key)++[125] else[])++(bif u.hd then([124,39]++u.cK)++[39] else[])))++[41]):=by unfold pD;cases u.hk<;>cases u.hd<;>simp
theorem Cn(h:df j=some B)(n i:Nat):df (pD (sX n i B))=some {B with rest:=[]}:=by obtain⟨_,_,_,b⟩:=gF h;have a:=ID (xE b) [];have e:pD (sX n i B)=36::40::((B.name++((bif B.hk then([123]++B.key)++[125] else[])++(bif B.hd then([124,39]++B.cK)++[39] else[])))++[41]):=Pw _;rw[e,jT (by unfold gI;rw[SD];rfl)];exact a
theorem Py(h:df (pD e)=some B)(b:B.rest=[])(a:B.name=e.name∧B.key=e.key∧B.cK=e.cK∧B.hk=e.hk∧B.hd=e.hd):E8 e=true:=by unfold E8;rw[pw (s:=pD e) (i:=0) (p:=B) (by rw[XK];exact h)];show(decide (0=0)&&decide ((pD e).length-B.rest.length=(pD e).length)&&(B.name==e.name&&B.key==e.key&&B.cK==e.cK&&B.hk==e.hk&&B.hd==e.hd))=true;rw[b,a.1,a.2.1,a.2.2.1,a.2.2.2.1,a.2.2.2.2];simp
theorem Co(h:df j=some B)(n i:Nat):E8 (sX n i B)=true:=
 Py (Cn h n i) rfl ⟨rfl,rfl,rfl,rfl,rfl⟩
end Go.Proofs.YtlemddnecmmfgaaGreatDoor
namespace Go.Proofs.YtlemddnecmmfgaaGreatDoor
open Go.Lib
variable{n:Bool}{j:Bs}{J:Ex}{a:Int}{b:UInt8}{e:bc}{B:gi}
def TP(i:Nat):cG→Prop
 |.aq x t=>cu x+2*i≤2*t∧jU x=true
 |.ay _ _=>True
def Pz(s:Bs)(f:Nat→cG):Prop:=∀i,i≤s.length→TP i (f i)
def VV(s:Bs)(f:Option (Nat→cG)):Prop:=∀g,f=some g→Pz s g
theorem IE(h:hasB 39 j=false):jU (ox 10 j)=true:=by unfold ox jU IC vT;rw[ae (by decide),ah rfl,h,nQ];rfl
theorem IF(h:ez j=true):jU (ox 11 j)=true:=by unfold ox jU IC vT;rw[ae (by decide),ae (by decide),ah rfl,h,nQ];rfl
theorem IG(h:E8 e=true):jU (yA e)=true:=by unfold yA jU IC vT;rw[ae (by decide),ae (by decide),ae (by decide),ah rfl,h];rfl
theorem PD(h:jU J=true):jU (ry 3 J)=true:=by unfold ry;rw[jU,Ps,h];unfold IC;rw[ah rfl,nQ];rfl
theorem J3{y:Ex}(c:a=1∨a=2∨(4≤a∧a≤9))(h:jU J=true)(b:jU y=true):jU (oA a J y)=true:=by unfold oA;rw[jU,Pt,h,b];unfold IC;rw[ae (by omega),ae (by omega),ae (by omega),ae (by omega),nQ,bN (show 1≤a∧a≤12 by omega)];rfl
theorem vB(k:Int)(t:Bs):cu (ox k t)=1+t.length:=by unfold ox cu jc aC;simp
theorem yC(k:Int)(x y:Ex):cu (oA k x y)=1+cu x+cu y:=by unfold oA;rw[cu,jc,jc,jc];simp[aC];omega
theorem IH(k:Int)(x:Ex):cu (ry k x)=1+cu x:=by unfold ry;rw[cu,jc,jc];simp[aC]
theorem TQ{s:Bs}{d:Option (Nat→cG)}(q:VV s d)(u:pC s d):Pz s (qL d s):=by
 intro i m;have z:=jP s m;have A:=cY s i;unfold qL;cases w:rs s i with
 |nil=>trivial
 |cons c r=>
  have B:=vA m w;show TP i (bif c==40 then _ else _);cases c==40
  ·rw[cI];cases c==39
   ·rw[cI];cases l:kH c
    ·rw[cI];unfold zz;cases n:df (c::r) with
     |none=>trivial
     |some p=>
      obtain⟨o,_,_,j⟩:=gF n;have k:=(xE j).len;simp only[bF] at o;rw[bK,bF] at k;refine⟨?_,IG (Co n _ _)⟩;have:cu (yA (sX s.length (pa s i) p))=1+p.name.length+p.key.length+p.cK.length:=by unfold yA cu jc sX;simp
      rw[this];omega
    ·rw[aS];unfold D9;have j:1≤((c::r).takeWhile kH).length:=by rw[oD,ah l];simp
     by_cases h:((c::r).takeWhile kH).length≤18
     ·rw[bN h];refine⟨by rw[vB];omega,IF ?_⟩;unfold ez;rw[bN h,pF,oD,ah l];rfl
     ·rw[cL h];trivial
   ·rw[aS];unfold Tw;cases hq:r.contains 39
    ·trivial
    ·exact⟨by rw[vB];omega,IE (uv _ _)⟩
  ·rw[aS];unfold Tx;cases d with
   |none=>trivial
   |some f=>
    have a:=q f rfl (pa s i+1) (by omega);have b:=u f rfl (pa s i+1) (by omega);show TP i (match f (pa s i+1) with|.ay p e=>.ay p e|.aq x t=>bif hasPrefix (rs s t) [41] then .aq x (pa s t+1) else .ay (pa s t) 15);cases y:f (pa s i+1) with
    |ay p e=>trivial
    |aq x t=>
     rw[y] at a b;have b:pa s i+1<t∧t≤s.length:=b;have a:cu x+2*(pa s i+1)≤2*t∧jU x=true:=a;have k:=jP s b.2;show TP i (bif hasPrefix (rs s t) [41] then .aq x (pa s t+1) else .ay (pa s t) 15);cases hasPrefix (rs s t) [41]
     ·trivial
     ·exact⟨by omega,a.2⟩
theorem UP{s:Bs}{d:Option (Nat→cG)}(l:VV s d)(h:pC s d):Pz s (zA d s):=by
 intro i m;have a:=TQ l h i m;have b:=Cp h i m;unfold zA;cases o:qL d s i with
 |ay p e=>trivial
 |aq x t=>
  rw[o] at a b;have b:i<t∧t≤s.length:=b;have a:cu x+2*i≤2*t∧jU x=true:=a;show TP i (ou d s x t);unfold ou;cases r:oV (rs s t) with
  |none=>exact a
  |some kn=>
   obtain⟨k,n⟩:=kn;obtain⟨A,B,_,C⟩:=E9 r;have u:=nP s b.2;have w:=jP s b.2;have z:=cY s t;have c:=TQ l h (pa s t+n) (by omega);show TP i (match qL d s (pa s t+n) with|.ay p e=>.ay p e|.aq y j=>.aq (oA (4+k) x y) j);cases q:qL d s (pa s t+n) with
   |ay p e=>trivial
   |aq y j=>rw[q] at c;have c:cu y+2*(pa s t+n)≤2*j∧jU y=true:=c;exact⟨by rw[yC];omega,J3 (by omega) a.2 c.2⟩
theorem PE{s:Bs}{d1 d2:Option (Nat→cG)}(c:VV s d1)(j:pC s d1)(d:VV s d2):Pz s (uf d1 d2 s):=by
 intro i b;unfold uf;cases k:hasPrefix (rs s i) [33]
 ·exact UP c j i b
 ·have h:=nR b k;have m:=jP s b;simp only[mF] at h;rw[aS];cases d2 with
  |none=>trivial
  |some f=>
   have a:=d f rfl (pa s i+1) (by omega);show TP i (match f (pa s i+1) with|.ay p e=>.ay p e|.aq x t=>.aq (ry 3 x) t);cases l:f (pa s i+1) with
   |ay p e=>trivial
   |aq x t=>rw[l] at a;have a:cu x+2*(pa s i+1)≤2*t∧jU x=true:=a;exact⟨by rw[IH];omega,PD a.2⟩
theorem Fa{s:Bs}{one:Nat→cG}(h:Pz s one)(m:jV s one){kind:Int}(o:kind=1∨kind=2∨(4≤kind∧kind≤9))(k:UInt8)(i:Nat):∀(n:Nat) (x:Ex) (t:Nat),cu x+2*i≤2*t→jU x=true→t≤s.length→TP i (kp one kind k s n x t)
 |0,_,_,j,a,_=>⟨j,a⟩
 |n+1,x,t,j,a,l=>by
  unfold kp;cases u:hasPrefix (rs s t) [k]
  ·exact⟨j,a⟩
  ·have q:=nR l u;have w:=jP s l;simp only[mF] at q;have b:=h (pa s t+1) (by omega);have c:=m (pa s t+1) (by omega);rw[aS];cases r:one (pa s t+1) with
   |ay p e=>trivial
   |aq y d=>rw[r] at b c;have b:cu y+2*(pa s t+1)≤2*d∧jU y=true:=b;have c:pa s t+1<d∧d≤s.length:=c;exact Fa h m o k i n _ d (by rw[yC];omega) (J3 o a b.2) c.2
theorem Cq{s:Bs}{one:Nat→cG}(h:Pz s one)(d:jV s one)(l:a=1∨a=2∨(4≤a∧a≤9))(k:UInt8):Pz s (rz one a k s):=by
 intro i j;have c:=h i j;have b:=d i j;unfold rz;cases m:one i with
 |ay p e=>trivial
 |aq x t=>rw[m] at c b;have b:i<t∧t≤s.length:=b;exact Fa h d l k i _ x t c.1 c.2 b.2
theorem PF(s:Bs):∀k,Pz s (vh s k)∧Pz s (je s k)
 |0=>by
  have b:VV s none:=fun g h=>by cases h
  have c:pC s none:=fun g h=>by cases h
  have a:Pz s (je s 0):=PE b c b;exact⟨Cq (Cq a (lq s 0).2 (.inr (.inl rfl)) 38) (yD s 0) (.inl rfl) 124,a⟩
 |k+1=>by obtain⟨d,i⟩:=PF s k;have a:Pz s (je s (k+1)):=PE (d1:=some (vh s k)) (d2:=some (je s k)) (fun g e=>by cases e;exact d) (rL (lq s k).1) (fun g e=>by cases e;exact i);exact⟨Cq (Cq a (lq s (k+1)).2 (.inr (.inl rfl)) 38) (yD s (k+1)) (.inl rfl) 124,a⟩
theorem At{s:Bs}(h:(ew s).2.2=0):jU (ew s).1=true∧cu (ew s).1≤2*s.length:=by obtain⟨x,t,a,c,_,b⟩:=IB h;have:=(PF s 16).1 0 (aH _);rw[a] at this;have this:cu x+2*0≤2*t∧jU x=true:=this;rw[b];exact⟨this.2,by show cu x≤_;omega⟩
end Go.Proofs.YtlemddnecmmfgaaGreatDoor
namespace Go.Proofs.YtlemddnecmmfgaaGreatDoor
open Go.Lib
inductive TV where
 |none
 |sr (s:Bs)
 |yes (b:Bool)
def gr(h t:Bs)(fs:List dQ)(u:bc):Bs×Bool:=jD h t fs ⟨0,0,u.name,u.key,u.cK,u.hk,u.hd⟩
def CA:Bs:=[102,97,108,115,101]
def oz:TV→Bool
 |.none=>false
 |.sr s=>(s !=[])&&(s !=CA)
 |.yes b=>b
def tg(s:Bs):Nat:=s.foldl (fun m c=>10*m+(c.toNat-48)) 0
def CB(a b:Bs):Int:=if Op.bytesLess a b=true then-1 else if a=b then 0 else 1
def Fu(a b:Bs):Int:=if ez a=true∧ez b=true then compareInt (tg a) (tg b) else CB a b
def mA(k o:Int):Bool:=
 if k=4 then o==0 else if k=5 then o !=0 else if k=6 then decide (o<0) else if k=7 then decide (o≤0) else if k=8 then decide (0<o) else decide (0≤o)
def fQ(k:Int):TV→TV→Bool
 |.sr a,.sr b=>mA k (Fu a b)
 |.yes a,.yes b=>(decide (k=4)&&(a==b))||(decide (k=5)&&(a !=b))
 |_,_=>false
def fG(k:Int):Int:=if k=10∨k=11∨k=12 then 0 else if k=3 then 1 else if 1≤k∧k≤9 then 2 else-1
def Bi(val:bc→Bs×Bool)(k:Int)(t:Bs)(u:bc)(L:List (TV×Nat)):TV×Nat:=
 if fG k≠(L.length:Int) then(.none,0)
 else if k=10∨k=11 then(.sr t,0)
 else if k=12 then(bif(val u).2 then .sr (val u).1 else .none,1)
 else match L with
  |[]=>(.none,0)
  |A::R=>
   if k=3 then(.yes (!oz A.1),A.2)
   else if k=1∧oz A.1=true then(.yes true,A.2)
   else if k=2∧oz A.1=false then(.yes false,A.2)
   else match R with
    |[]=>(.none,0)
    |B::_=>if k=1∨k=2 then(.yes (oz B.1),A.2+B.2) else(.yes (fQ k A.1 B.1),A.2+B.2)
mutual
def iy (val:bc→Bs×Bool):Ex→TV×Nat
 |.mk k t u l=>Bi val k t u (XV val l)
def XV (val:bc→Bs×Bool):List Ex→List (TV×Nat)
 |[]=>[]
 |x::r=>iy val x::XV val r
end
theorem Fv(val:bc→Bs×Bool):∀l,(XV val l).length=l.length
 |[]=>by rw[XV];rfl
 |x::r=>by rw[XV,bF,bF,Fv val r]
theorem Kd(val:bc→Bs×Bool)(k:Int)(t:Bs)(u:bc)(l:List Ex):iy val (.mk k t u l)=Bi val k t u (XV val l):=by rw[iy]
theorem nV(k:Int):(fG k=0∧(k=10∨k=11∨k=12))∨(fG k=1∧k=3)∨(fG k=2∧(k=1∨k=2∨(4≤k∧k≤9)))∨(fG k=-1∧(k<1∨12<k)):=by
 unfold fG;by_cases h:k=10∨k=11∨k=12
 ·rw[ah h];exact .inl ⟨rfl,h⟩
 ·rw[ae h];by_cases a:k=3
  ·rw[ah a];exact .inr (.inl ⟨rfl,a⟩)
  ·rw[ae a];by_cases b:1≤k∧k≤9
   ·rw[ah b];exact .inr (.inr (.inl ⟨rfl,by omega⟩))
   ·rw[ae b];exact .inr (.inr (.inr ⟨rfl,by omega⟩))
theorem vH:∀(l:Bs) (a:Nat),l.all kH=true→decFrom a l=some (l.foldl (fun m c=>10*m+(c.toNat-48)) a)
 |[],a,_=>rfl
 |c::r,a,h=>by rw[kf,cW] at h;have b:48≤c.toNat∧c.toNat≤57:=dv h.1;unfold decFrom digitVal;rw[ah b];show decFrom (a*10+(c.toNat-48)) r=_;rw[vH r _ h.2,qB,Nat.mul_comm a 10]
theorem P8{s:Bs}(h:ez s=true):atoi s=some ((tg s:Nat):Int):=by
 unfold ez at h;simp only[cW,eM,Bool.not_eq_true'] at h;cases s with
 |nil=>cases h.1.1
 |cons c r=>
  have j:kH c=true:=by have:=h.2;rw[kf,cW] at this;exact this.1
  have a:48≤c.toNat∧c.toNat≤57:=dv j;have b:(c==45)=false:=aL.2 (by intro e;subst e;revert a;decide);have d:(c==43)=false:=aL.2 (by intro e;subst e;revert a;decide);have i:decNat (c::r)=some (tg (c::r)):=by have:decNat (c::r)=decFrom 0 (c::r):=rfl;rw[this,vH _ 0 h.2];rfl
  simp[atoi,b,d,i]
def Dd(v:Bs):Bool:=v.contains 34&&v.contains 39
def cr(l:List bQ)(nm:Bs):Nat:=(l.filter fun a=>a.name==nm).length
def sq(k:Int)(l:List bQ):Bool:=
 l.all (fun a=>(aE k).1.contains a.name&&lJ a.name a.val&& !Dd a.val&&decide (cr l a.name≤1))
  &&((aE k).1.take (aE k).2).all fun nm=>l.any fun a=>a.name==nm
def si(t:Bs):Bool:=contains t eY||contains t bD||G5.any fun c=>contains t (jv++[c])
def sj(k:Int)(t:Bs)(hid:Bool):Bool:=
 if k=2 then !t.isEmpty&& !si t&& !(hid&&contains t oJ)
 else if k=4 then !contains t (bD++cF)
 else if k=5 then !contains t (bD++bS)&& !contains t eY
 else t.isEmpty
def oI(k:Int):Bool:=decide (k=2∨k=3∨k=4∨k=5∨k=6∨k=7∨k=10∨k=13∨k=14)
def zT(parent k:Int)(i n:Nat):Bool:=
 if parent=7 then decide (k=8∧i=0∨k=9∧i=1)
 else if parent=10 then decide (k=11∨k=12∧0<i∧i+1=n)
 else oI k
def Df(k:Int)(n:Nat):Bool:= !(decide (2≤k∧k≤6)&&decide (0<n))&& !(decide (k=7)&&decide (n≠2))&& !(decide (k=10)&&decide (n=0))
mutual
def j3:Nd→Nat→Bool→Int→Int
 |.mk k _ t a l,deep,hid,behind=>
  if k=14∧hid=true then 13
  else if k≠2∧16<deep then 3
  else if sq k a=false then 12
  else if sj k t hid=false∨(k=2∧behind=2) then 4
  else if Df k l.length=false then 13
  else mq k l.length (deep+1) (hid||decide (k=14)) 0 0 l
def mq (k:Int) (n deep:Nat) (hid:Bool):Nat→Int→List Nd→Int
 |_,_,[]=>0
 |i,before,x::r=>
  if zT k x.kind i n=false then 13
  else if j3 x deep hid before≠0 then j3 x deep hid before
  else mq k n deep hid (i+1) x.kind r
end
def xe(t:Nd):Int:=if t.kind=1 then j3 t 0 false 0 else 13
structure j5 where
 body:Bs
 F3:Bool
 ok:Bool
structure fx where
 h:Bs
 t:Bs
 fs:List dQ
 inc:Nat
 fZ:List j5
structure PS where
 asked:List U
 aU:Nat
 work:Nat
 reads:List Bs
 inl:List (Bs×Bs)
inductive Oc where
 |yes (t:Bs)
 |no
 |wait
def lQ(l:List Bs)(s:Bs):List Bs:=if s.isEmpty||l.contains s then l else l++[s]
def gh(l:List Bs)(a:List (Bs×Bs×Bool)):List Bs:=a.foldl (fun l u=>lQ l (eT u.1 u.2.1 u.2.2)) l
def dd(s:Bs):List (Bs×Bs×Bool):=(mT s).map fun u=>(u.name,u.key,u.hk)
def jq(t:Bs)(ahead:Nat):Oc:=if oP<ahead+t.length then .no else .yes t
def bG(l:List bQ)(nm:Bs):Option Bs:=(l.find? fun a=>a.name==nm).map (·.val)
def Xr(l:List (Bs×Bs))(k:Bs):Option Bs:=(l.reverse.find? fun x=>x.1==k).map (·.2)
def PS.read(S:PS)(a:List (Bs×Bs×Bool)):PS:={S with reads:=gh S.reads a}
abbrev Deep:=Option (U→Nd→PS→Nat→PS×Oc)
section
variable(E:fx)
def BR(s:Bs):Option Bs:=if(eA E.h E.t E.fs s).2=0 then some (eA E.h E.t E.fs s).1 else none
def zx(f:U→Nd→PS→Nat→PS×Oc)(u:U)(S:PS)(ahead:Nat)(g:j5):PS×Oc:=
 if g.ok=false then(S,.no)
 else if g.F3=false then(S,jq g.body ahead)
 else if(gW g.body).2.2≠0 then(S,.no)
 else f u (gW g.body).1 S ahead
def zw(f:U→Nd→PS→Nat→PS×Oc)(u:U)(S:PS)(ahead:Nat):PS×Oc:=
 match Xr S.inl (nE u) with
 |some t=>zx f u S ahead ⟨t,true,true⟩
 |none=>match E.fZ[S.asked.length]? with
  |none=>({S with asked:=S.asked++[u]},.wait)
  |some g=>zx f u {S with asked:=S.asked++[u]} ahead g
def gB(deep:Deep)(base:U)(a:PS)(ahead:Nat)(s:Bs):PS×Oc:=
 let S:=a.read (dd s)
 match BR E s with
 |none=>(S,.no)
 |some r=>
  if(eW base r).2≠0∨E.inc≤S.aU then(S,.no)
  else match deep with
   |none=>(S,.no)
   |some f=>zw E f (eW base r).1 {S with aU:=S.aU+1} ahead
def DQ(deep:Deep)(base:U)(S:PS)(ahead:Nat)(o:Option Bs):PS×Oc:=
 match o with|none=>(S,.no)|some s=>gB E deep base S ahead s
def oQ(deep:Deep)(base:U)(a:List bQ)(S:PS)(ahead:Nat):PS×Oc:=
 match DQ E deep base S ahead (bG a lC) with
 |(b,.no)=>match DQ E deep base b ahead (bG a lD) with
  |(c,.no)=>(c,if(bG a dj).isSome then .yes [] else .no)
  |r=>r
 |r=>r
def lS(vs:Bool)(t:Bs)(S:PS)(ahead:Nat):PS×Oc:=
 if vs=false then(S,jq t ahead)
 else match BR E t with
  |none=>(S.read (dd t),.no)
  |some r=>(S.read (dd t),jq r ahead)
def lV(base:U)(a:List bQ)(t:Bs)(S:PS):PS:=
 if(eW base ((bG a kO).getD [])).2=0 then{S with inl:=S.inl++[(nE (eW base ((bG a kO).getD [])).1,t)]} else S
def cT(l:List bc):List (Bs×Bs×Bool):=l.map fun u=>(u.name,u.key,u.hk)
def PS.step(S:PS):PS:={S with work:=S.work+1}
end
def qI(val:bc→Bs×Bool)(k:Int)(t:Bs)(u:bc)(L:List (TV×List bc)):TV×List bc:=
 if fG k≠(L.length:Int) then(.none,[])
 else if k=10∨k=11 then(.sr t,[])
 else if k=12 then(bif(val u).2 then .sr (val u).1 else .none,[u])
 else match L with
  |[]=>(.none,[])
  |A::R=>
   if k=3 then(.yes (!oz A.1),A.2)
   else if k=1∧oz A.1=true then(.yes true,A.2)
   else if k=2∧oz A.1=false then(.yes false,A.2)
   else match R with
    |[]=>(.none,[])
    |B::_=>if k=1∨k=2 then(.yes (oz B.1),A.2++B.2) else(.yes (fQ k A.1 B.1),A.2++B.2)
mutual
def bt (val:bc→Bs×Bool):Ex→TV×List bc
 |.mk k t u l=>qI val k t u (ig val l)
def ig (val:bc→Bs×Bool):List Ex→List (TV×List bc)
 |[]=>[]
 |x::r=>bt val x::ig val r
end
def gd(a:List bQ):Ex×Nat×Int:=ew ((bG a gT).getD [])
def Au(r:PS×Oc)(k:PS→PS×Oc):PS×Oc:=match r with|(S,.no)=>k S|r=>r
section
variable(E:fx)(deep:Deep)(base:U)
mutual
def bT:Nd→Bool→PS→Nat→PS×Oc
 |.mk k _ t a l,vs,S,ahead=>
  if k=2 then lS E vs t S.step ahead
  else if k=4 then(lV base a t S.step,.yes [])
  else if k=5∨k=6 then(S.step,.yes [])
  else if k=3 then oQ E deep base a S.step ahead
  else if k=7 then ot l vs S.step ahead
  else if k=10 then eK l vs S.step ahead
  else dJ l (vs||decide (k=13)) S.step ahead
def oT:Nd→Bool→PS→Nat→PS×Oc
 |.mk _ _ _ _ l,vs,S,ahead=>dJ l vs S ahead
def dJ:List Nd→Bool→PS→Nat→PS×Oc
 |[],_,S,_=>(S,.yes [])
 |x::r,vs,S,ahead=>
  match bT x vs S ahead with
  |(S1,.yes t)=>match dJ r vs S1 (ahead+t.length) with
   |(S2,.yes t2)=>(S2,.yes (t++t2))
   |q=>q
  |q=>q
def ot:List Nd→Bool→PS→Nat→PS×Oc
 |[],_,S,_=>(S,.no)
 |x::r,vs,S,ahead=>Au (bT x vs S ahead) fun S1=>qJ r vs S1 ahead
def qJ:List Nd→Bool→PS→Nat→PS×Oc
 |[],_,S,_=>(S,.no)
 |x::_,vs,S,ahead=>bT x vs S ahead
def eK:List Nd→Bool→PS→Nat→PS×Oc
 |[],_,S,_=>(S,.yes [])
 |x::r,vs,S,ahead=>
  if x.kind=12 then bT x vs S ahead
  else if(gd x.attrs).2.2≠0 then eK r vs S.step ahead
  else
   let v:=bt (gr E.h E.t E.fs) (gd x.attrs).1
   if oz v.1=true then oT x vs (S.step.read (cT v.2)) ahead
   else eK r vs (S.step.read (cT v.2)) ahead
end
end
def rl(E:fx):Nat→Deep
 |0=>none
 |d+1=>some fun u t S ahead=>bT E (rl E d) u t false S ahead
structure GM where
 out:Bs
 ok:Bool
 done:Bool
 asked:List U
 aU:Nat
 work:Nat
 reads:List Bs
def N8:PS:=⟨[],0,0,[],[]⟩
def N6(r:PS×Oc):GM:=
 match r.2 with
 |.yes t=>⟨t,true,true,r.1.asked,r.1.aU,r.1.work,r.1.reads⟩
 |.no=>⟨[],false,true,r.1.asked,r.1.aU,r.1.work,r.1.reads⟩
 |.wait=>⟨[],false,false,r.1.asked,r.1.aU,r.1.work,r.1.reads⟩
def qK(E:fx)(a:Nat)(base:U)(t:Nd):GM:=
 if xe t=0 then N6 (bT E (rl E a) base t false N8 0) else⟨[],false,true,[],0,0,[]⟩
end Go.Proofs.YtlemddnecmmfgaaGreatDoor
namespace Go.Proofs.YtlemddnecmmfgaaGreatDoor
open Go.RowKit
theorem Kq(k:Int)(w:aaK):Calls Tryz.prog 88 #[.int .i64 k] w fun e w'=>e=.returned (.bool (decide (2≤k∧k≤6)))∧w'=w:=by
 by_cases a:2≤k
 ·by_cases b:k≤6
  ·rw[bN (show 2≤k∧k≤6 from⟨a,b⟩)];go_enter Tryz.func88,Tryz.ntmps88;go_wp2_with fail;go_ret;exact⟨rfl,rfl⟩
  ·rw[cL (show¬(2≤k∧k≤6) from fun h=>b h.2)];go_enter Tryz.func88,Tryz.ntmps88;go_wp2_with fail;go_ret;exact⟨rfl,rfl⟩
 ·rw[cL (show¬(2≤k∧k≤6) from fun h=>a h.1)];go_enter Tryz.func88,Tryz.ntmps88;go_wp2_with fail;go_ret;exact⟨rfl,rfl⟩
theorem Kr(v:Bs)(w:aaK):Calls Tryz.prog 124 #[.string ⟨v.toArray⟩] w fun e w'=>e=.returned (.bool (!v.isEmpty))∧w'=w:=by
 have b:(!v.isEmpty)=(v !=[]):=by cases v<;>rfl
 rw[b];obtain⟨r,a⟩:∃r,(v !=[])=r:=⟨_,rfl⟩;have c:(v==[])= !r:=by rw[←a,bne,Bool.not_not]
 rw[a];cases r
 ·go_enter Tryz.func124,Tryz.ntmps124;go_wp2_with fail;go_ret;exact⟨rfl,rfl⟩
 ·go_enter Tryz.func124,Tryz.ntmps124;go_wp2_with fail;go_ret;exact⟨rfl,rfl⟩
theorem MW(v:Bs)(w:aaK):Calls Tryz.prog 126 #[.string ⟨v.toArray⟩] w fun e w'=>e=.returned (.bool true)∧w'=w:=by go_enter Tryz.func126,Tryz.ntmps126;go_wp2_with fail;go_ret;exact⟨rfl,rfl⟩
theorem C5(k:Int):oI k=([2,3,4,5,6,7,10,13,14]:List Int).any (k==·):=by unfold oI;rw[gf];simp
theorem BD(k:Int)(w:aaK):Calls Tryz.prog 128 #[.int .i64 k] w (cN w (.bool (oI k))):=by
 rw[C5];obtain⟨q,hq⟩:∃q,([2,3,4,5,6,7,10,13,14]:List Int).any (k==·)=q:=⟨_,rfl⟩;have d:=ad (show Below w.heap.size w (w.alloc (.cells #[.int .i64 2,.int .i64 3,.int .i64 4,.int .i64 5,.int .i64 6,.int .i64 7,.int .i64 10,.int .i64 13,.int .i64 14] 3)) from(ar _ _).alloc (ag _) _);have c:=ad (C6 [2,3,4,5,6,7,10,13,14] k (by decide) w.heap.size 9 (w.alloc (.cells #[.int .i64 2,.int .i64 3,.int .i64 4,.int .i64 5,.int .i64 6,.int .i64 7,.int .i64 10,.int .i64 13,.int .i64 14] 3)) (fun j a b=>bH w _ _ j _ (by
  match j,b with
  |0,b=>(cases b;rfl)
  |1,b=>(cases b;rfl)
  |2,b=>(cases b;rfl)
  |3,b=>(cases b;rfl)
  |4,b=>(cases b;rfl)
  |5,b=>(cases b;rfl)
  |6,b=>(cases b;rfl)
  |7,b=>(cases b;rfl)
  |8,b=>(cases b;rfl))) (by decide))
 rw[hq] at c⊢;clear hq;go_enter Tryz.func128,Tryz.ntmps128;go_wp2_with fail;refine c.o.m ?_;rintro e h⟨rfl,rfl⟩;go_wp2_with fail;go_ret;exact⟨rfl,d.o⟩
theorem Ks(p k:Int)(i n:Nat)(X:i≤1000000)(Y:n≤1000000)(w:aaK):Calls Tryz.prog 89 #[.int .i64 p,.int .i64 k,.int .i64 i,.int .i64 n] w (cN w (.bool (zT p k i n))):=by
 have G:=ad (BD k w);obtain⟨R,C⟩:∃R,zT p k i n=R:=⟨_,rfl⟩;rw[C];have I:(if p=7 then decide (k=8∧i=0∨k=9∧i=1) else if p=10 then decide (k=11∨k=12∧0<i∧i+1=n) else oI k)=R:=C;have y:=ad I;have A:=ad (show Below w.heap.size w (w.alloc (.cells #[.int .i64 8,.int .i64 9] 3)) from(ar _ _).alloc (ag _) _);have E:=bH w #[.int .i64 8,.int .i64 9] 3 0 _ rfl;have F:=bH w #[.int .i64 8,.int .i64 9] 3 1 _ rfl;clear C I;have Z:(0:Int)≤(i:Int):=by omega
 have i1:(i:Int)≤1000000:=by omega
 have n1:(n:Int)≤1000000:=by omega
 have n0:(0:Int)≤(n:Int):=by omega
 by_cases q:p=7
 ·have c:=ad ((ah q).symm.t y.o);have S:=jY q;clear q y;obtain⟨V,D⟩:∃V:Int,(if i=0 then 8 else 9)=V:=⟨_,rfl⟩;have ym:(w.alloc (.cells #[.int .i64 8,.int .i64 9] 3)).cell? ⟨w.heap.size,(min (i:Int) 1).toNat,none⟩=some (.int .i64 V):=by
   rw[←D];by_cases u:i=0
   ·rw[ah u,show(min (i:Int) 1).toNat=0 by omega];exact E
   ·rw[ae u,show(min (i:Int) 1).toNat=1 by omega];exact F
  have H:=ad D;clear D E F;by_cases j:k=V
  ·have T:=jY j;by_cases x:i<2
   ·have a:=ad (show R=true by
     rw[←c.o,j,←H.o];by_cases u:i=0
     ·simp[u]
     ·simp[u];omega)
    have K:(i:Int)<2:=by omega
    clear x c j;go_enter Tryz.func89,Tryz.ntmps89;go_wp2_with fail;go_ret;exact⟨by rw[a.o];rfl,A.o⟩
   ·have a:=ad (show R=false by rw[←c.o];exact cL (by omega))
    have K:¬(i:Int)<2:=by omega
    clear x c j;go_enter Tryz.func89,Tryz.ntmps89;go_wp2_with fail;go_ret;exact⟨by rw[a.o];rfl,A.o⟩
  ·have T:=eS j;have a:=ad (show R=false by
    rw[←c.o];refine cL fun h=>j ?_;rw[←H.o];rcases h with⟨B,x⟩|⟨B,x⟩
    ·rw[ah x];exact B
    ·rw[ae (by omega)];exact B)
   clear c j;go_enter Tryz.func89,Tryz.ntmps89;go_wp2_with fail;go_ret;exact⟨by rw[a.o];rfl,A.o⟩
 ·have c:=ad ((ae q).symm.t y.o);have S:=eS q;clear q y E F;have s:=ad (ar w.heap.size w);by_cases l:p=10
  ·have b:=ad ((ah l).symm.t c.o);have M:=jY l;clear l c;by_cases e:k=11
   ·have a:=ad (show R=true by rw[←b.o];simp[e]);have N:=jY e;clear e b;go_enter Tryz.func89,Tryz.ntmps89;go_wp2_with fail;go_ret;exact⟨by rw[a.o];rfl,s.o⟩
   ·have N:=eS e;by_cases d:k=12
    ·have O:=jY d;by_cases r:0<i
     ·have L:(0:Int)<(i:Int):=by omega
      by_cases z:i+1=n
      ·have a:=ad (show R=true by rw[←b.o];simp[d,r,z]);have Q:((i:Int)==(n:Int)-1)=true:=jY (by omega);clear e d r z b;go_enter Tryz.func89,Tryz.ntmps89;go_wp2_with fail;go_ret;exact⟨by rw[a.o];rfl,s.o⟩
      ·have a:=ad (show R=false by rw[←b.o];simp[d,r,z]);have Q:((i:Int)==(n:Int)-1)=false:=eS (by omega);clear e d r z b;go_enter Tryz.func89,Tryz.ntmps89;go_wp2_with fail;go_ret;exact⟨by rw[a.o];rfl,s.o⟩
     ·have L:¬(0:Int)<(i:Int):=by omega
      have a:=ad (show R=false by rw[←b.o];simp[d,r]);clear e d r b;go_enter Tryz.func89,Tryz.ntmps89;go_wp2_with fail;go_ret;exact⟨by rw[a.o];rfl,s.o⟩
    ·have O:=eS d;have a:=ad (show R=false by rw[←b.o];simp[e,d]);clear e d b;go_enter Tryz.func89,Tryz.ntmps89;go_wp2_with fail;go_ret;exact⟨by rw[a.o];rfl,s.o⟩
  ·have b:=ad ((ae l).symm.t c.o);have M:=eS l;rw[b.o] at G;clear l c b;go_enter Tryz.func89,Tryz.ntmps89;go_wp2_with fail;refine G.o.m ?_;rintro W w3⟨rfl,J⟩;go_wp2_with fail;go_ret;exact⟨rfl,J⟩
