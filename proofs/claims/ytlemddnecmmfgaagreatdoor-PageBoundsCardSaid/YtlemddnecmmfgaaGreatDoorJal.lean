/- The walks of esitree's rules and keep. -/
import Derived.Test.YtlemddnecmmfgaaGreatDoorJak
set_option linter.unusedVariables false
set_option maxRecDepth 100000
set_option maxHeartbeats 4000000
namespace Go.Proofs.YtlemddnecmmfgaaGreatDoor
open Go.Lib
variable{a:Bool}{j:Bs}{K:Ex}{b:Int}{n:UInt8}{k:bc}{C:gi}
theorem zH(c x:UInt8)(r:Bs):hasPrefix (x::r) [c]=(c==x):=by simp[hasPrefix,List.isPrefixOf]
theorem SD(c d x y:UInt8)(r:Bs):hasPrefix (x::y::r) [c,d]=(c==x&&d==y):=by simp[hasPrefix,List.isPrefixOf]
section
variable{s s' q:Bs}{d:Nat}
end
section
variable{s s' q:Bs}{d:Nat}{low:Prop}
end
theorem IB{s:Bs}(h:(ew s).2.2=0):∃x t,vh s 16 0=.aq x t∧t≤s.length∧rs s t=[]∧ew s=(x,0,0):=by
 have a:=(lq s 16).1 0 (aH _);unfold ew at h⊢;cases c:vh s 16 0 with
 |ay p e=>rw[c] at h a;have h:e=0:=h;have a:p≤s.length∧(e=3∨e=15):=a;omega
 |aq x t=>
  rw[c] at h a;have a:0<t∧t≤s.length:=a;change(bif decide (pa s t=s.length) then(x,0,0) else(sF,pa s t,15):Ex×Nat×Int).2.2=0 at h;refine⟨x,t,rfl,a.2, ?_, ?_⟩
  ·cases b:decide (pa s t=s.length)
   ·rw[b] at h;cases h
   ·rw[eM] at b;have:=nP s a.2;exact List.length_eq_zero_iff.1 (by omega)
  ·show(bif decide (pa s t=s.length) then(x,0,0) else(sF,pa s t,15):Ex×Nat×Int)=_;cases b:decide (pa s t=s.length)
   ·rw[b] at h;cases h
   ·rfl
end Go.Proofs.YtlemddnecmmfgaaGreatDoor
namespace Go.Proofs.YtlemddnecmmfgaaGreatDoor
open Go.Lib
variable{a:Bool}{j:Bs}{K:Ex}{b:Int}{n:UInt8}{k:bc}{C:gi}
def pD(u:bc):Bs:=
 let a:=[36,40]++u.name;let b:=bif u.hk then a++(([123]++u.key)++[125]) else a;let c:=bif u.hd then b++(([124,39]++u.cK)++[39]) else b
 c++[41]
def UL(v:iZ)(u:bc):Bool:=v.name==u.name&&v.key==u.key&&v.cK==u.cK&&v.hk==u.hk&&v.hd==u.hd
def E8(u:bc):Bool:=match cv (pD u) 0 with
 |none=>false
 |some v=>decide (v.src=0)&&decide (v.to=(pD u).length)&&UL v u
def lb(t:Bs):Bool:= !t.isEmpty&&decide (t.length≤18)&&t.all kH
def IC(k:Int)(t:Bs)(u:bc)(n:Nat):Bool:=
 if k=3 then decide (n=1)&&t.isEmpty&&Ba u aC
 else if k=10 then !hasB 39 t&&(decide (n=0)&&Ba u aC)
 else if k=11 then lb t&&(decide (n=0)&&Ba u aC)
 else if k=12 then E8 u&&(decide (n=0)&&t.isEmpty)
 else decide (1≤k∧k≤12)&&(decide (n=2)&&t.isEmpty&&Ba u aC)
mutual
def jU:Ex→Bool
 |.mk k t u l=>IC k t u l.length&&vT l
def vT:List Ex→Bool
 |[]=>true
 |x::r=>jU x&&vT r
end
mutual
def cu:Ex→Nat
 |.mk _ t u l=>1+t.length+u.name.length+u.key.length+u.cK.length+jc l
def jc:List Ex→Nat
 |[]=>0
 |x::r=>cu x+jc r
end
theorem SE{l:List Ex}(h:l.length=1):∃a,l=[a]:=List.length_eq_one_iff.1 h
theorem SF{l:List Ex}(h:l.length=2):∃a b,l=[a,b]:=by
 match l,h with
 |[a,b],_=>exact⟨a,b,rfl⟩
theorem Ps(a:Ex):vT [a]=jU a:=by rw[vT,vT,Bool.and_true]
theorem Pt(a b:Ex):vT [a,b]=(jU a&&jU b):=by rw[vT,vT,vT,Bool.and_true]
theorem yB{p:UInt8→Bool}{q:Bs}(hq:∀c r,q=c::r→p c=false):∀{l:Bs},l.all p=true→(l++q).takeWhile p=l∧(l++q).dropWhile p=q
 |[],_=>by
  cases q with
  |nil=>exact⟨rfl,rfl⟩
  |cons c r=>rw[kK,oD,r9,hq c r rfl];exact⟨rfl,rfl⟩
 |x::l,h=>by rw[kf,cW] at h;obtain⟨a,b⟩:=yB hq h.2;rw[di,oD,r9,ah h.1,ah h.1];exact⟨by rw[a],b⟩
theorem pF(p:UInt8→Bool):∀l:Bs,(l.takeWhile p).all p=true
 |[]=>rfl
 |x::l=>by
  rw[oD];cases h:p x
  ·rfl
  ·rw[ah rfl,kf,h,pF p l];rfl
theorem uv(c:UInt8)(l:Bs):hasB c (upto c l)=false:=by have h:=pF (·!=c) l;unfold hasB;rw[List.contains_eq_mem,wJ];intro a;have:=eV.1 h c a;simp at this
theorem J1(h:hasB n j=false)(q:Bs):upto n (j++n::q)=j∧past n (j++n::q)=q∧(j++n::q).contains n=true:=by
 have i:j.all (·!=n)=true:=by rw[eV];intro x k;unfold hasB at h;rw[List.contains_eq_mem,wJ] at h;simp only[bne_iff_ne,ne_eq];intro e;subst e;exact h k
 obtain⟨b,d⟩:=yB (p:=(·!=n)) (q:=n::q) (fun a r e=>by cases e;simp) i;refine⟨b, ?_, ?_⟩
 ·unfold past;rw[d];rfl
 ·rw[List.contains_eq_mem,eM];simp
theorem SG(h:j.all XC=true):hasB 39 j=false:=by unfold hasB;rw[List.contains_eq_mem,wJ];intro a;have:=eV.1 h 39 a;exact absurd this (by decide)
theorem qQ(h:j.contains n=true):(upto n j).length+(past n j).length+1=j.length:=by have a:=kx n j h;rw[←jA,bK];show lead (·!=n) j+_+1=_;omega
structure J2 (r:Bs) (p:gi):Prop where
 name:p.name.all dt=true
 known:cD p.name=true
 key:(p.hk=true∧fJ p.key=true∧hasB 125 p.key=false)∨(p.hk=false∧p.key=[])
 cK:(p.hd=true∧hasB 39 p.cK=false)∨(p.hd=false∧p.cK=[])
 len:p.name.length+p.key.length+p.cK.length+p.rest.length+1≤r.length
theorem Pu{k e:Bs}(h:ey j=some (k,a,e)):((a=true∧fJ k=true∧hasB 125 k=false)∨(a=false∧k=[]))∧k.length+e.length≤j.length:=by
 unfold ey at h;cases b:hasPrefix j [123]
 ·rw[b] at h;cases h;exact⟨.inr ⟨rfl,rfl⟩,by simp⟩
 ·rw[b] at h;have i:=fK b;simp only[aS] at h;cases c:(trimPrefix j [123]).contains 125
  ·rw[c] at h;cases h
  ·rw[c] at h;cases d:fJ (upto 125 (trimPrefix j [123]))
   ·rw[d] at h;cases h
   ·rw[d] at h;simp only[Bool.and_self,aS,gR,kj] at h;obtain⟨rfl,rfl,rfl⟩:=h;have l:=qQ c;exact⟨.inl ⟨rfl,d,uv _ _⟩,by omega⟩
theorem Pv{r d i:Bs}(h:gm r=some (d,a,i)):((a=true∧hasB 39 d=false)∨(a=false∧d=[]))∧d.length+i.length≤r.length:=by
 unfold gm at h;cases c:hasPrefix r [124]
 ·rw[c] at h;cases h;exact⟨.inr ⟨rfl,rfl⟩,by simp⟩
 ·rw[c] at h;have j:=fK c;simp only[aS] at h;unfold lp at h;cases e:hasPrefix (trimPrefix r [124]) [39]
  ·rw[e] at h;simp only[cI] at h;cases b:((trimPrefix r [124]).takeWhile XC).isEmpty
   ·rw[b] at h;simp only[cI,gR,kj] at h;obtain⟨rfl,rfl,rfl⟩:=h;refine⟨.inl ⟨rfl,SG (pF _ _)⟩, ?_⟩;rw[←cz,←cU,bK,gu];omega
   ·rw[b] at h;cases h
  ·rw[e] at h;have k:=fK e;simp only[aS] at h;cases b:(trimPrefix (trimPrefix r [124]) [39]).contains 39
   ·rw[b] at h;cases h
   ·rw[b] at h;simp only[aS,gR,kj] at h;obtain⟨rfl,rfl,rfl⟩:=h;have l:=qQ b;exact⟨.inl ⟨rfl,uv _ _⟩,by omega⟩
theorem xE(h:gj j=some C):J2 j C:=by
 unfold gj at h;cases a:cD (j.takeWhile dt)
 ·rw[a] at h;cases h
 ·rw[a] at h;simp only[aS] at h;cases b:ey (j.dropWhile dt) with
  |none=>rw[b] at h;cases h
  |some v=>
   obtain⟨k,l,m⟩:=v;rw[b] at h;obtain⟨a1,a2⟩:=Pu b;change dz (j.takeWhile dt) k l m=some C at h;unfold dz at h;cases c:gm m with
   |none=>rw[c] at h;cases h
   |some v=>
    obtain⟨d,o,i⟩:=v;rw[c] at h;obtain⟨b1,b2⟩:=Pv c;change gH (j.takeWhile dt) k d l o i=some C at h;unfold gH at h;cases e:hasPrefix i [41]
    ·rw[e] at h;cases h
    ·rw[e] at h;simp only[aS,gR] at h;subst h;have n:=fK e;simp only[mF] at n;have q:(j.takeWhile dt).length+(j.dropWhile dt).length=j.length:=by rw[←bB,CX]
     exact⟨pF _ _,a,a1,b1,by show(j.takeWhile dt).length+k.length+d.length+(trimPrefix i [41]).length+1≤_;omega⟩
theorem pG(c:UInt8)(r:Bs):trimPrefix (c::r) [c]=r:=by unfold trimPrefix;rw[ah (by rw[zH];simp)];rfl
theorem ID(h:J2 j C)(q:Bs):gj ((C.name++((bif C.hk then([123]++C.key)++[125] else[])++(bif C.hd then([124,39]++C.cK)++[39] else[])))++41::q)=some {C with rest:=q}:=by
 obtain⟨nm,k,d,i,l,rest⟩:=C;obtain⟨u,w,x,y,_⟩:=h;simp only at u w x y⊢;have N:∀j,j=(bif l then([124,39]++d)++[39] else[])++41::q→dz nm k i j=some ⟨nm,k,d,i,l,q⟩∧∃c n,j=c::n∧c≠123∧dt c=false:=by
  intro j m;rcases y with⟨rfl,M⟩|⟨rfl,rfl⟩
  ·have e:j=124::39::(d++39::41::q):=by rw[m];simp
   subst e;refine⟨?_,124,_,rfl,by decide,by decide⟩;obtain⟨u1,u2,u3⟩:=J1 M (41::q);unfold dz gm;rw[zH,pG];show(match lp (39::(d++39::41::q)) with|none=>none|some (d,l,s)=>gH nm k d i l s)=_;unfold lp;rw[zH,pG];show(match(bif(d++39::41::q).contains 39 then some (upto 39 (d++39::41::q),true,past 39 (d++39::41::q)) else none:Option (Bs×Bool×Bs)) with|none=>none|some (d,l,s)=>gH nm k d i l s)=_;rw[u1,u2,u3];show gH nm k d i true (41::q)=_;unfold gH;rw[zH,pG];rfl
  ·have e:j=41::q:=by rw[m];rfl
   subst e;refine⟨?_,41,_,rfl,by decide,by decide⟩;unfold dz gm;rw[zH];show gH nm k [] i false (41::q)=_;unfold gH;rw[zH,pG];rfl
 obtain⟨R,A⟩:∃R,(bif l then([124,39]++d)++[39] else[])++41::q=R:=⟨_,rfl⟩;obtain⟨t,c,n,o,I,J⟩:=N R A.symm;rw[jl,jl,A];have O:∀j,j=(bif i then([123]++k)++[125] else[])++R→(match ey j with|none=>none|some (k,i,B)=>dz nm k i B)=some ⟨nm,k,d,i,l,q⟩∧∃c n,j=c::n∧dt c=false:=by
  intro j m;rcases x with⟨rfl,Q,L⟩|⟨rfl,rfl⟩
  ·have e:j=123::(k++125::R):=by rw[m];simp
   subst e;refine⟨?_,123,_,rfl,by decide⟩;obtain⟨u1,u2,u3⟩:=J1 L R;unfold ey;rw[zH,pG,u1,u2,u3,Q];exact t
  ·have e:j=R:=by rw[m];rfl
   subst e;refine⟨?_,c,n,o,J⟩;unfold ey;rw[o,zH,show((123:UInt8)==c)=false from aL.2 (eo I),←o];exact t
 obtain⟨K,z⟩:∃K,(bif i then([123]++k)++[125] else[])++R=K:=⟨_,rfl⟩;obtain⟨F,S,B,G,H⟩:=O K z.symm;rw[z];obtain⟨D,E⟩:=yB (p:=dt) (q:=K) (fun a b e=>by rw[G] at e;cases e;exact H) u;unfold gj;rw[D,E,w];exact F
theorem Pw(u:bc):pD u=36::40::((u.name++((bif u.hk then([123]++u.key)++[125] else[])++(bif u.hd then([124,39]++u.cK)++[39] else[])))++[41]):=by unfold pD;cases u.hk<;>cases u.hd<;>simp
theorem Cn(h:df j=some C)(n i:Nat):df (pD (sX n i C))=some {C with rest:=[]}:=by obtain⟨_,_,_,b⟩:=gF h;have a:=ID (xE b) [];have e:pD (sX n i C)=36::40::((C.name++((bif C.hk then([123]++C.key)++[125] else[])++(bif C.hd then([124,39]++C.cK)++[39] else[])))++[41]):=Pw _;rw[e,jT (by unfold gI;rw[SD];rfl)];exact a
theorem Py(h:df (pD k)=some C)(b:C.rest=[])(a:C.name=k.name∧C.key=k.key∧C.cK=k.cK∧C.hk=k.hk∧C.hd=k.hd):E8 k=true:=by unfold E8;rw[pw (s:=pD k) (i:=0) (p:=C) (by rw[List.drop_zero];exact h)];show(decide (0=0)&&decide ((pD k).length-C.rest.length=(pD k).length)&&(C.name==k.name&&C.key==k.key&&C.cK==k.cK&&C.hk==k.hk&&C.hd==k.hd))=true;rw[b,a.1,a.2.1,a.2.2.1,a.2.2.2.1,a.2.2.2.2];simp
theorem Co(h:df j=some C)(n i:Nat):E8 (sX n i C)=true:=
 Py (Cn h n i) rfl ⟨rfl,rfl,rfl,rfl,rfl⟩
end Go.Proofs.YtlemddnecmmfgaaGreatDoor
namespace Go.Proofs.YtlemddnecmmfgaaGreatDoor
open Go.Lib
variable{a:Bool}{j:Bs}{K:Ex}{b:Int}{n:UInt8}{k:bc}{C:gi}
def TP(i:Nat):cG→Prop
 |.aq x t=>cu x+2*i≤2*t∧jU x=true
 |.ay _ _=>True
def Pz(s:Bs)(f:Nat→cG):Prop:=∀i,i≤s.length→TP i (f i)
def VV(s:Bs)(f:Option (Nat→cG)):Prop:=∀g,f=some g→Pz s g
theorem IE(h:hasB 39 j=false):jU (ox 10 j)=true:=by unfold ox jU IC vT;rw[ae (by decide),ah rfl,h,nQ];rfl
theorem IF(h:lb j=true):jU (ox 11 j)=true:=by unfold ox jU IC vT;rw[ae (by decide),ae (by decide),ah rfl,h,nQ];rfl
theorem IG(h:E8 k=true):jU (yA k)=true:=by unfold yA jU IC vT;rw[ae (by decide),ae (by decide),ae (by decide),ah rfl,h];rfl
theorem PD(h:jU K=true):jU (ry 3 K)=true:=by unfold ry;rw[jU,Ps,h];unfold IC;rw[ah rfl,nQ];rfl
theorem J3{y:Ex}(c:b=1∨b=2∨(4≤b∧b≤9))(h:jU K=true)(a:jU y=true):jU (oA b K y)=true:=by unfold oA;rw[jU,Pt,h,a];unfold IC;rw[ae (by omega),ae (by omega),ae (by omega),ae (by omega),nQ,bN (show 1≤b∧b≤12 by omega)];rfl
theorem vB(k:Int)(t:Bs):cu (ox k t)=1+t.length:=by unfold ox cu jc aC;simp
theorem yC(k:Int)(x y:Ex):cu (oA k x y)=1+cu x+cu y:=by unfold oA;rw[cu,jc,jc,jc];simp[aC];omega
theorem IH(k:Int)(x:Ex):cu (ry k x)=1+cu x:=by unfold ry;rw[cu,jc,jc];simp[aC]
theorem TQ{s:Bs}{d:Option (Nat→cG)}(q:VV s d)(u:pC s d):Pz s (qL d s):=by
 intro i m;have z:=jP s m;have A:=cY s i;unfold qL;cases w:rs s i with
 |nil=>trivial
 |cons c r=>
  have B:=vA m w;show TP i (bif c==40 then _ else _);cases c==40
  ·rw[cI];cases c==39
   ·rw[cI];cases l:kH c
    ·rw[cI];unfold zz;cases n:df (c::r) with
     |none=>trivial
     |some p=>
      obtain⟨o,_,_,j⟩:=gF n;have k:=(xE j).len;simp only[bF] at o;rw[bK,bF] at k;refine⟨?_,IG (Co n _ _)⟩;have:cu (yA (sX s.length (pa s i) p))=1+p.name.length+p.key.length+p.cK.length:=by unfold yA cu jc sX;simp
      rw[this];omega
    ·rw[aS];unfold D9;have j:1≤((c::r).takeWhile kH).length:=by rw[oD,ah l];simp
     by_cases h:((c::r).takeWhile kH).length≤18
     ·rw[bN h];refine⟨by rw[vB];omega,IF ?_⟩;unfold lb;rw[bN h,pF,oD,ah l];rfl
     ·rw[cL h];trivial
   ·rw[aS];unfold Tw;cases hq:r.contains 39
    ·trivial
    ·exact⟨by rw[vB];omega,IE (uv _ _)⟩
  ·rw[aS];unfold Tx;cases d with
   |none=>trivial
   |some f=>
    have a:=q f rfl (pa s i+1) (by omega);have b:=u f rfl (pa s i+1) (by omega);show TP i (match f (pa s i+1) with|.ay p e=>.ay p e|.aq x t=>bif hasPrefix (rs s t) [41] then .aq x (pa s t+1) else .ay (pa s t) 15);cases y:f (pa s i+1) with
    |ay p e=>trivial
    |aq x t=>
     rw[y] at a b;have b:pa s i+1<t∧t≤s.length:=b;have a:cu x+2*(pa s i+1)≤2*t∧jU x=true:=a;have k:=jP s b.2;show TP i (bif hasPrefix (rs s t) [41] then .aq x (pa s t+1) else .ay (pa s t) 15);cases hasPrefix (rs s t) [41]
     ·trivial
     ·exact⟨by omega,a.2⟩
theorem UP{s:Bs}{d:Option (Nat→cG)}(l:VV s d)(h:pC s d):Pz s (zA d s):=by
 intro i m;have a:=TQ l h i m;have b:=Cp h i m;unfold zA;cases o:qL d s i with
 |ay p e=>trivial
 |aq x t=>
  rw[o] at a b;have b:i<t∧t≤s.length:=b;have a:cu x+2*i≤2*t∧jU x=true:=a;show TP i (ou d s x t);unfold ou;cases r:oV (rs s t) with
  |none=>exact a
  |some kn=>
   obtain⟨k,n⟩:=kn;obtain⟨A,B,_,C⟩:=E9 r;have u:=nP s b.2;have w:=jP s b.2;have z:=cY s t;have c:=TQ l h (pa s t+n) (by omega);show TP i (match qL d s (pa s t+n) with|.ay p e=>.ay p e|.aq y j=>.aq (oA (4+k) x y) j);cases q:qL d s (pa s t+n) with
   |ay p e=>trivial
   |aq y j=>rw[q] at c;have c:cu y+2*(pa s t+n)≤2*j∧jU y=true:=c;exact⟨by rw[yC];omega,J3 (by omega) a.2 c.2⟩
theorem PE{s:Bs}{d1 d2:Option (Nat→cG)}(c:VV s d1)(j:pC s d1)(d:VV s d2):Pz s (uf d1 d2 s):=by
 intro i b;unfold uf;cases k:hasPrefix (rs s i) [33]
 ·exact UP c j i b
 ·have h:=nR b k;have m:=jP s b;simp only[mF] at h;rw[aS];cases d2 with
  |none=>trivial
  |some f=>
   have a:=d f rfl (pa s i+1) (by omega);show TP i (match f (pa s i+1) with|.ay p e=>.ay p e|.aq x t=>.aq (ry 3 x) t);cases l:f (pa s i+1) with
   |ay p e=>trivial
   |aq x t=>rw[l] at a;have a:cu x+2*(pa s i+1)≤2*t∧jU x=true:=a;exact⟨by rw[IH];omega,PD a.2⟩
theorem Fa{s:Bs}{one:Nat→cG}(h:Pz s one)(m:jV s one){kind:Int}(o:kind=1∨kind=2∨(4≤kind∧kind≤9))(k:UInt8)(i:Nat):∀(n:Nat) (x:Ex) (t:Nat),cu x+2*i≤2*t→jU x=true→t≤s.length→TP i (kp one kind k s n x t)
 |0,_,_,j,a,_=>⟨j,a⟩
 |n+1,x,t,j,a,l=>by
  unfold kp;cases u:hasPrefix (rs s t) [k]
  ·exact⟨j,a⟩
  ·have q:=nR l u;have w:=jP s l;simp only[mF] at q;have b:=h (pa s t+1) (by omega);have c:=m (pa s t+1) (by omega);rw[aS];cases r:one (pa s t+1) with
   |ay p e=>trivial
   |aq y d=>rw[r] at b c;have b:cu y+2*(pa s t+1)≤2*d∧jU y=true:=b;have c:pa s t+1<d∧d≤s.length:=c;exact Fa h m o k i n _ d (by rw[yC];omega) (J3 o a b.2) c.2
theorem Cq{s:Bs}{one:Nat→cG}(h:Pz s one)(d:jV s one)(l:b=1∨b=2∨(4≤b∧b≤9))(k:UInt8):Pz s (rz one b k s):=by
 intro i j;have c:=h i j;have a:=d i j;unfold rz;cases m:one i with
 |ay p e=>trivial
 |aq x t=>rw[m] at c a;have a:i<t∧t≤s.length:=a;exact Fa h d l k i _ x t c.1 c.2 a.2
theorem PF(s:Bs):∀k,Pz s (vh s k)∧Pz s (je s k)
 |0=>by
  have b:VV s none:=fun g h=>by cases h
  have c:pC s none:=fun g h=>by cases h
  have a:Pz s (je s 0):=PE b c b;exact⟨Cq (Cq a (lq s 0).2 (.inr (.inl rfl)) 38) (yD s 0) (.inl rfl) 124,a⟩
 |k+1=>by obtain⟨d,i⟩:=PF s k;have a:Pz s (je s (k+1)):=PE (d1:=some (vh s k)) (d2:=some (je s k)) (fun g e=>by cases e;exact d) (rL (lq s k).1) (fun g e=>by cases e;exact i);exact⟨Cq (Cq a (lq s (k+1)).2 (.inr (.inl rfl)) 38) (yD s (k+1)) (.inl rfl) 124,a⟩
theorem At{s:Bs}(h:(ew s).2.2=0):jU (ew s).1=true∧cu (ew s).1≤2*s.length:=by obtain⟨x,t,a,c,_,b⟩:=IB h;have:=(PF s 16).1 0 (aH _);rw[a] at this;have this:cu x+2*0≤2*t∧jU x=true:=this;rw[b];exact⟨this.2,by show cu x≤_;omega⟩
end Go.Proofs.YtlemddnecmmfgaaGreatDoor
namespace Go.Proofs.YtlemddnecmmfgaaGreatDoor
open Go.Lib
inductive TV where
 |none
 |sr (s:Bs)
 |yes (b:Bool)
def gr(h t:Bs)(fs:List dQ)(u:bc):Bs×Bool:=jD h t fs ⟨0,0,u.name,u.key,u.cK,u.hk,u.hd⟩
def CA:Bs:=[102,97,108,115,101]
def oz:TV→Bool
 |.none=>false
 |.sr s=>(s !=[])&&(s !=CA)
 |.yes b=>b
def tg(s:Bs):Nat:=s.foldl (fun m c=>10*m+(c.toNat-48)) 0
def CB(a b:Bs):Int:=if Op.bytesLess a b=true then-1 else if a=b then 0 else 1
def Fu(a b:Bs):Int:=if lb a=true∧lb b=true then compareInt (tg a) (tg b) else CB a b
def mA(k o:Int):Bool:=
 if k=4 then o==0 else if k=5 then o !=0 else if k=6 then decide (o<0) else if k=7 then decide (o≤0) else if k=8 then decide (0<o) else decide (0≤o)
def fQ(k:Int):TV→TV→Bool
 |.sr a,.sr b=>mA k (Fu a b)
 |.yes a,.yes b=>(decide (k=4)&&(a==b))||(decide (k=5)&&(a !=b))
 |_,_=>false
def fG(k:Int):Int:=if k=10∨k=11∨k=12 then 0 else if k=3 then 1 else if 1≤k∧k≤9 then 2 else-1
def Bi(val:bc→Bs×Bool)(k:Int)(t:Bs)(u:bc)(L:List (TV×Nat)):TV×Nat:=
 if fG k≠(L.length:Int) then(.none,0)
 else if k=10∨k=11 then(.sr t,0)
 else if k=12 then(bif(val u).2 then .sr (val u).1 else .none,1)
 else match L with
  |[]=>(.none,0)
  |A::R=>
   if k=3 then(.yes (!oz A.1),A.2)
   else if k=1∧oz A.1=true then(.yes true,A.2)
   else if k=2∧oz A.1=false then(.yes false,A.2)
   else match R with
    |[]=>(.none,0)
    |B::_=>if k=1∨k=2 then(.yes (oz B.1),A.2+B.2) else(.yes (fQ k A.1 B.1),A.2+B.2)
mutual
def iy (val:bc→Bs×Bool):Ex→TV×Nat
 |.mk k t u l=>Bi val k t u (XV val l)
def XV (val:bc→Bs×Bool):List Ex→List (TV×Nat)
 |[]=>[]
 |x::r=>iy val x::XV val r
end
theorem Fv(val:bc→Bs×Bool):∀l,(XV val l).length=l.length
 |[]=>by rw[XV];rfl
 |x::r=>by rw[XV,bF,bF,Fv val r]
theorem Kd(val:bc→Bs×Bool)(k:Int)(t:Bs)(u:bc)(l:List Ex):iy val (.mk k t u l)=Bi val k t u (XV val l):=by rw[iy]
theorem nV(k:Int):(fG k=0∧(k=10∨k=11∨k=12))∨(fG k=1∧k=3)∨(fG k=2∧(k=1∨k=2∨(4≤k∧k≤9)))∨(fG k=-1∧(k<1∨12<k)):=by
 unfold fG;by_cases h:k=10∨k=11∨k=12
 ·rw[ah h];exact .inl ⟨rfl,h⟩
 ·rw[ae h];by_cases a:k=3
  ·rw[ah a];exact .inr (.inl ⟨rfl,a⟩)
  ·rw[ae a];by_cases b:1≤k∧k≤9
   ·rw[ah b];exact .inr (.inr (.inl ⟨rfl,by omega⟩))
   ·rw[ae b];exact .inr (.inr (.inr ⟨rfl,by omega⟩))
theorem vH:∀(l:Bs) (a:Nat),l.all kH=true→decFrom a l=some (l.foldl (fun m c=>10*m+(c.toNat-48)) a)
 |[],a,_=>rfl
 |c::r,a,h=>by rw[kf,cW] at h;have b:48≤c.toNat∧c.toNat≤57:=dv h.1;unfold decFrom digitVal;rw[ah b];show decFrom (a*10+(c.toNat-48)) r=_;rw[vH r _ h.2,qB,Nat.mul_comm a 10]
theorem P8{s:Bs}(h:lb s=true):atoi s=some ((tg s:Nat):Int):=by
 unfold lb at h;simp only[cW,eM,aaU] at h;cases s with
 |nil=>cases h.1.1
 |cons c r=>
  have j:kH c=true:=by have:=h.2;rw[kf,cW] at this;exact this.1
  have a:48≤c.toNat∧c.toNat≤57:=dv j;have b:(c==45)=false:=aL.2 (by intro e;subst e;revert a;decide);have d:(c==43)=false:=aL.2 (by intro e;subst e;revert a;decide);have i:decNat (c::r)=some (tg (c::r)):=by have:decNat (c::r)=decFrom 0 (c::r):=rfl;rw[this,vH _ 0 h.2];rfl
  simp[atoi,b,d,i]
def Dd(v:Bs):Bool:=v.contains 34&&v.contains 39
def cr(l:List bQ)(nm:Bs):Nat:=(l.filter fun a=>a.name==nm).length
def sq(k:Int)(l:List bQ):Bool:=
 l.all (fun a=>(aE k).1.contains a.name&&lJ a.name a.val&& !Dd a.val&&decide (cr l a.name≤1))
  &&((aE k).1.take (aE k).2).all fun nm=>l.any fun a=>a.name==nm
def si(t:Bs):Bool:=contains t eY||contains t bD||G5.any fun c=>contains t (jv++[c])
def sj(k:Int)(t:Bs)(hid:Bool):Bool:=
 if k=2 then !t.isEmpty&& !si t&& !(hid&&contains t oJ)
 else if k=4 then !contains t (bD++cF)
 else if k=5 then !contains t (bD++bS)&& !contains t eY
 else t.isEmpty
def oI(k:Int):Bool:=decide (k=2∨k=3∨k=4∨k=5∨k=6∨k=7∨k=10∨k=13∨k=14)
def zT(parent k:Int)(i n:Nat):Bool:=
 if parent=7 then decide (k=8∧i=0∨k=9∧i=1)
 else if parent=10 then decide (k=11∨k=12∧0<i∧i+1=n)
 else oI k
def Df(k:Int)(n:Nat):Bool:= !(decide (2≤k∧k≤6)&&decide (0<n))&& !(decide (k=7)&&decide (n≠2))&& !(decide (k=10)&&decide (n=0))
mutual
def hX:Nd→Nat→Bool→Int→Int
 |.mk k _ t a l,deep,hid,behind=>
  if k=14∧hid=true then 13
  else if k≠2∧16<deep then 3
  else if sq k a=false then 12
  else if sj k t hid=false∨(k=2∧behind=2) then 4
  else if Df k l.length=false then 13
  else mq k l.length (deep+1) (hid||decide (k=14)) 0 0 l
def mq (k:Int) (n deep:Nat) (hid:Bool):Nat→Int→List Nd→Int
 |_,_,[]=>0
 |i,before,x::r=>
  if zT k x.kind i n=false then 13
  else if hX x deep hid before≠0 then hX x deep hid before
  else mq k n deep hid (i+1) x.kind r
end
def xe(t:Nd):Int:=if t.kind=1 then hX t 0 false 0 else 13
structure j5 where
 body:Bs
 F3:Bool
 ok:Bool
structure fx where
 h:Bs
 t:Bs
 fs:List dQ
 inc:Nat
 fZ:List j5
structure PS where
 asked:List U
 aU:Nat
 work:Nat
 reads:List Bs
 inl:List (Bs×Bs)
inductive Oc where
 |yes (t:Bs)
 |no
 |wait
def lQ(l:List Bs)(s:Bs):List Bs:=if s.isEmpty||l.contains s then l else l++[s]
def gh(l:List Bs)(a:List (Bs×Bs×Bool)):List Bs:=a.foldl (fun l u=>lQ l (eT u.1 u.2.1 u.2.2)) l
def dd(s:Bs):List (Bs×Bs×Bool):=(mT s).map fun u=>(u.name,u.key,u.hk)
def jq(t:Bs)(ahead:Nat):Oc:=if oP<ahead+t.length then .no else .yes t
def bG(l:List bQ)(nm:Bs):Option Bs:=(l.find? fun a=>a.name==nm).map (·.val)
def Xr(l:List (Bs×Bs))(k:Bs):Option Bs:=(l.reverse.find? fun x=>x.1==k).map (·.2)
def PS.read(S:PS)(a:List (Bs×Bs×Bool)):PS:={S with reads:=gh S.reads a}
abbrev Deep:=Option (U→Nd→PS→Nat→PS×Oc)
section
variable(E:fx)
def BR(s:Bs):Option Bs:=if(eA E.h E.t E.fs s).2=0 then some (eA E.h E.t E.fs s).1 else none
def zx(f:U→Nd→PS→Nat→PS×Oc)(u:U)(S:PS)(ahead:Nat)(g:j5):PS×Oc:=
 if g.ok=false then(S,.no)
 else if g.F3=false then(S,jq g.body ahead)
 else if(gW g.body).2.2≠0 then(S,.no)
 else f u (gW g.body).1 S ahead
def zw(f:U→Nd→PS→Nat→PS×Oc)(u:U)(S:PS)(ahead:Nat):PS×Oc:=
 match Xr S.inl (nE u) with
 |some t=>zx f u S ahead ⟨t,true,true⟩
 |none=>match E.fZ[S.asked.length]? with
  |none=>({S with asked:=S.asked++[u]},.wait)
  |some g=>zx f u {S with asked:=S.asked++[u]} ahead g
def gB(deep:Deep)(base:U)(a:PS)(ahead:Nat)(s:Bs):PS×Oc:=
 let S:=a.read (dd s)
 match BR E s with
 |none=>(S,.no)
 |some r=>
  if(eW base r).2≠0∨E.inc≤S.aU then(S,.no)
  else match deep with
   |none=>(S,.no)
   |some f=>zw E f (eW base r).1 {S with aU:=S.aU+1} ahead
def DQ(deep:Deep)(base:U)(S:PS)(ahead:Nat)(o:Option Bs):PS×Oc:=
 match o with|none=>(S,.no)|some s=>gB E deep base S ahead s
def oQ(deep:Deep)(base:U)(a:List bQ)(S:PS)(ahead:Nat):PS×Oc:=
 match DQ E deep base S ahead (bG a lC) with
 |(b,.no)=>match DQ E deep base b ahead (bG a lD) with
  |(c,.no)=>(c,if(bG a dj).isSome then .yes [] else .no)
  |r=>r
 |r=>r
def lS(vs:Bool)(t:Bs)(S:PS)(ahead:Nat):PS×Oc:=
 if vs=false then(S,jq t ahead)
 else match BR E t with
  |none=>(S.read (dd t),.no)
  |some r=>(S.read (dd t),jq r ahead)
def lV(base:U)(a:List bQ)(t:Bs)(S:PS):PS:=
 if(eW base ((bG a kO).getD [])).2=0 then{S with inl:=S.inl++[(nE (eW base ((bG a kO).getD [])).1,t)]} else S
def cT(l:List bc):List (Bs×Bs×Bool):=l.map fun u=>(u.name,u.key,u.hk)
def PS.step(S:PS):PS:={S with work:=S.work+1}
end
def qI(val:bc→Bs×Bool)(k:Int)(t:Bs)(u:bc)(L:List (TV×List bc)):TV×List bc:=
 if fG k≠(L.length:Int) then(.none,[])
 else if k=10∨k=11 then(.sr t,[])
 else if k=12 then(bif(val u).2 then .sr (val u).1 else .none,[u])
 else match L with
  |[]=>(.none,[])
  |A::R=>
   if k=3 then(.yes (!oz A.1),A.2)
   else if k=1∧oz A.1=true then(.yes true,A.2)
   else if k=2∧oz A.1=false then(.yes false,A.2)
   else match R with
    |[]=>(.none,[])
    |B::_=>if k=1∨k=2 then(.yes (oz B.1),A.2++B.2) else(.yes (fQ k A.1 B.1),A.2++B.2)
mutual
def bt (val:bc→Bs×Bool):Ex→TV×List bc
 |.mk k t u l=>qI val k t u (ig val l)
def ig (val:bc→Bs×Bool):List Ex→List (TV×List bc)
 |[]=>[]
 |x::r=>bt val x::ig val r
end
def gd(a:List bQ):Ex×Nat×Int:=ew ((bG a gT).getD [])
def Au(r:PS×Oc)(k:PS→PS×Oc):PS×Oc:=match r with|(S,.no)=>k S|r=>r
section
variable(E:fx)(deep:Deep)(base:U)
mutual
def bT:Nd→Bool→PS→Nat→PS×Oc
 |.mk k _ t a l,vs,S,ahead=>
  if k=2 then lS E vs t S.step ahead
  else if k=4 then(lV base a t S.step,.yes [])
  else if k=5∨k=6 then(S.step,.yes [])
  else if k=3 then oQ E deep base a S.step ahead
  else if k=7 then ot l vs S.step ahead
  else if k=10 then eK l vs S.step ahead
  else dJ l (vs||decide (k=13)) S.step ahead
def oT:Nd→Bool→PS→Nat→PS×Oc
 |.mk _ _ _ _ l,vs,S,ahead=>dJ l vs S ahead
def dJ:List Nd→Bool→PS→Nat→PS×Oc
 |[],_,S,_=>(S,.yes [])
 |x::r,vs,S,ahead=>
  match bT x vs S ahead with
  |(S1,.yes t)=>match dJ r vs S1 (ahead+t.length) with
   |(S2,.yes t2)=>(S2,.yes (t++t2))
   |q=>q
  |q=>q
def ot:List Nd→Bool→PS→Nat→PS×Oc
 |[],_,S,_=>(S,.no)
 |x::r,vs,S,ahead=>Au (bT x vs S ahead) fun S1=>qJ r vs S1 ahead
def qJ:List Nd→Bool→PS→Nat→PS×Oc
 |[],_,S,_=>(S,.no)
 |x::_,vs,S,ahead=>bT x vs S ahead
def eK:List Nd→Bool→PS→Nat→PS×Oc
 |[],_,S,_=>(S,.yes [])
 |x::r,vs,S,ahead=>
  if x.kind=12 then bT x vs S ahead
  else if(gd x.attrs).2.2≠0 then eK r vs S.step ahead
  else
   let v:=bt (gr E.h E.t E.fs) (gd x.attrs).1
   if oz v.1=true then oT x vs (S.step.read (cT v.2)) ahead
   else eK r vs (S.step.read (cT v.2)) ahead
end
end
def rl(E:fx):Nat→Deep
 |0=>none
 |d+1=>some fun u t S ahead=>bT E (rl E d) u t false S ahead
structure GM where
 out:Bs
 ok:Bool
 done:Bool
 asked:List U
 aU:Nat
 work:Nat
 reads:List Bs
def N8:PS:=⟨[],0,0,[],[]⟩
def N6(r:PS×Oc):GM:=
 match r.2 with
 |.yes t=>⟨t,true,true,r.1.asked,r.1.aU,r.1.work,r.1.reads⟩
 |.no=>⟨[],false,true,r.1.asked,r.1.aU,r.1.work,r.1.reads⟩
 |.wait=>⟨[],false,false,r.1.asked,r.1.aU,r.1.work,r.1.reads⟩
def qK(E:fx)(a:Nat)(base:U)(t:Nd):GM:=
 if xe t=0 then N6 (bT E (rl E a) base t false N8 0) else⟨[],false,true,[],0,0,[]⟩
end Go.Proofs.YtlemddnecmmfgaaGreatDoor
namespace Go.Proofs.YtlemddnecmmfgaaGreatDoor
open Go.RowKit
theorem Kq(k:Int)(w:aaK):Calls Tryz.prog 88 #[.int .i64 k] w fun e w'=>e=.returned (.bool (decide (2≤k∧k≤6)))∧w'=w:=by
 by_cases a:2≤k
 ·by_cases b:k≤6
  ·rw[bN (show 2≤k∧k≤6 from⟨a,b⟩)];go_enter Tryz.func88,Tryz.ntmps88;go_wp2_with fail;go_ret;exact⟨rfl,rfl⟩
  ·rw[cL (show¬(2≤k∧k≤6) from fun h=>b h.2)];go_enter Tryz.func88,Tryz.ntmps88;go_wp2_with fail;go_ret;exact⟨rfl,rfl⟩
 ·rw[cL (show¬(2≤k∧k≤6) from fun h=>a h.1)];go_enter Tryz.func88,Tryz.ntmps88;go_wp2_with fail;go_ret;exact⟨rfl,rfl⟩
theorem Kr(v:Bs)(w:aaK):Calls Tryz.prog 124 #[.string ⟨v.toArray⟩] w fun e w'=>e=.returned (.bool (!v.isEmpty))∧w'=w:=by
 have b:(!v.isEmpty)=(v !=[]):=by cases v<;>rfl
 rw[b];obtain⟨r,a⟩:∃r,(v !=[])=r:=⟨_,rfl⟩;have c:(v==[])= !r:=by rw[←a,bne,Bool.not_not]
 rw[a];cases r
 ·go_enter Tryz.func124,Tryz.ntmps124;go_wp2_with fail;go_ret;exact⟨rfl,rfl⟩
 ·go_enter Tryz.func124,Tryz.ntmps124;go_wp2_with fail;go_ret;exact⟨rfl,rfl⟩
theorem MW(v:Bs)(w:aaK):Calls Tryz.prog 126 #[.string ⟨v.toArray⟩] w fun e w'=>e=.returned (.bool true)∧w'=w:=by go_enter Tryz.func126,Tryz.ntmps126;go_wp2_with fail;go_ret;exact⟨rfl,rfl⟩
theorem C5(k:Int):oI k=([2,3,4,5,6,7,10,13,14]:List Int).any (k==·):=by unfold oI;rw[gf];simp
theorem BD(k:Int)(w:aaK):Calls Tryz.prog 128 #[.int .i64 k] w (cN w (.bool (oI k))):=by
 rw[C5];obtain⟨q,hq⟩:∃q,([2,3,4,5,6,7,10,13,14]:List Int).any (k==·)=q:=⟨_,rfl⟩;have d:=ad (show Below w.heap.size w (w.alloc (.cells #[.int .i64 2,.int .i64 3,.int .i64 4,.int .i64 5,.int .i64 6,.int .i64 7,.int .i64 10,.int .i64 13,.int .i64 14] 3)) from(ar _ _).alloc (ag _) _);have c:=ad (C6 [2,3,4,5,6,7,10,13,14] k (by decide) w.heap.size 9 (w.alloc (.cells #[.int .i64 2,.int .i64 3,.int .i64 4,.int .i64 5,.int .i64 6,.int .i64 7,.int .i64 10,.int .i64 13,.int .i64 14] 3)) (fun j a b=>bH w _ _ j _ (by
  match j,b with
  |0,b=>(cases b;rfl)
  |1,b=>(cases b;rfl)
  |2,b=>(cases b;rfl)
  |3,b=>(cases b;rfl)
  |4,b=>(cases b;rfl)
  |5,b=>(cases b;rfl)
  |6,b=>(cases b;rfl)
  |7,b=>(cases b;rfl)
  |8,b=>(cases b;rfl))) (by decide))
 rw[hq] at c⊢;clear hq;go_enter Tryz.func128,Tryz.ntmps128;go_wp2_with fail;refine c.o.m ?_;rintro e h⟨rfl,rfl⟩;go_wp2_with fail;go_ret;exact⟨rfl,d.o⟩
theorem Ks(p k:Int)(i n:Nat)(X:i≤1000000)(Y:n≤1000000)(w:aaK):Calls Tryz.prog 89 #[.int .i64 p,.int .i64 k,.int .i64 i,.int .i64 n] w (cN w (.bool (zT p k i n))):=by
 have G:=ad (BD k w);obtain⟨R,C⟩:∃R,zT p k i n=R:=⟨_,rfl⟩;rw[C];have I:(if p=7 then decide (k=8∧i=0∨k=9∧i=1) else if p=10 then decide (k=11∨k=12∧0<i∧i+1=n) else oI k)=R:=C;have y:=ad I;have A:=ad (show Below w.heap.size w (w.alloc (.cells #[.int .i64 8,.int .i64 9] 3)) from(ar _ _).alloc (ag _) _);have E:=bH w #[.int .i64 8,.int .i64 9] 3 0 _ rfl;have F:=bH w #[.int .i64 8,.int .i64 9] 3 1 _ rfl;clear C I;have Z:(0:Int)≤(i:Int):=by omega
 have i1:(i:Int)≤1000000:=by omega
 have n1:(n:Int)≤1000000:=by omega
 have n0:(0:Int)≤(n:Int):=by omega
 by_cases q:p=7
 ·have c:=ad ((ah q).symm.t y.o);have S:=jY q;clear q y;obtain⟨V,D⟩:∃V:Int,(if i=0 then 8 else 9)=V:=⟨_,rfl⟩;have ym:(w.alloc (.cells #[.int .i64 8,.int .i64 9] 3)).cell? ⟨w.heap.size,(min (i:Int) 1).toNat,none⟩=some (.int .i64 V):=by
   rw[←D];by_cases u:i=0
   ·rw[ah u,show(min (i:Int) 1).toNat=0 by omega];exact E
   ·rw[ae u,show(min (i:Int) 1).toNat=1 by omega];exact F
  have H:=ad D;clear D E F;by_cases j:k=V
  ·have T:=jY j;by_cases x:i<2
   ·have a:=ad (show R=true by
     rw[←c.o,j,←H.o];by_cases u:i=0
     ·simp[u]
     ·simp[u];omega)
    have K:(i:Int)<2:=by omega
    clear x c j;go_enter Tryz.func89,Tryz.ntmps89;go_wp2_with fail;go_ret;exact⟨by rw[a.o];rfl,A.o⟩
   ·have a:=ad (show R=false by rw[←c.o];exact cL (by omega))
    have K:¬(i:Int)<2:=by omega
    clear x c j;go_enter Tryz.func89,Tryz.ntmps89;go_wp2_with fail;go_ret;exact⟨by rw[a.o];rfl,A.o⟩
  ·have T:=eS j;have a:=ad (show R=false by
    rw[←c.o];refine cL fun h=>j ?_;rw[←H.o];rcases h with⟨B,x⟩|⟨B,x⟩
    ·rw[ah x];exact B
    ·rw[ae (by omega)];exact B)
   clear c j;go_enter Tryz.func89,Tryz.ntmps89;go_wp2_with fail;go_ret;exact⟨by rw[a.o];rfl,A.o⟩
 ·have c:=ad ((ae q).symm.t y.o);have S:=eS q;clear q y E F;have s:=ad (ar w.heap.size w);by_cases l:p=10
  ·have b:=ad ((ah l).symm.t c.o);have M:=jY l;clear l c;by_cases e:k=11
   ·have a:=ad (show R=true by rw[←b.o];simp[e]);have N:=jY e;clear e b;go_enter Tryz.func89,Tryz.ntmps89;go_wp2_with fail;go_ret;exact⟨by rw[a.o];rfl,s.o⟩
   ·have N:=eS e;by_cases d:k=12
    ·have O:=jY d;by_cases r:0<i
     ·have L:(0:Int)<(i:Int):=by omega
      by_cases z:i+1=n
      ·have a:=ad (show R=true by rw[←b.o];simp[d,r,z]);have Q:((i:Int)==(n:Int)-1)=true:=jY (by omega);clear e d r z b;go_enter Tryz.func89,Tryz.ntmps89;go_wp2_with fail;go_ret;exact⟨by rw[a.o];rfl,s.o⟩
      ·have a:=ad (show R=false by rw[←b.o];simp[d,r,z]);have Q:((i:Int)==(n:Int)-1)=false:=eS (by omega);clear e d r z b;go_enter Tryz.func89,Tryz.ntmps89;go_wp2_with fail;go_ret;exact⟨by rw[a.o];rfl,s.o⟩
     ·have L:¬(0:Int)<(i:Int):=by omega
      have a:=ad (show R=false by rw[←b.o];simp[d,r]);clear e d r b;go_enter Tryz.func89,Tryz.ntmps89;go_wp2_with fail;go_ret;exact⟨by rw[a.o];rfl,s.o⟩
    ·have O:=eS d;have a:=ad (show R=false by rw[←b.o];simp[e,d]);clear e d b;go_enter Tryz.func89,Tryz.ntmps89;go_wp2_with fail;go_ret;exact⟨by rw[a.o];rfl,s.o⟩
  ·have b:=ad ((ae l).symm.t c.o);have M:=eS l;rw[b.o] at G;clear l c b;go_enter Tryz.func89,Tryz.ntmps89;go_wp2_with fail;refine G.o.m ?_;rintro W w3⟨rfl,J⟩;go_wp2_with fail;go_ret;exact⟨rfl,J⟩
def vM{a:Type}(q:a→Bool)(l:List a):Int:=match l.findIdx? q with|some k=>(k:Int)|none=>-1
theorem zU{b:Type}{q:b→Bool}{l:List b}(h:∀k:Nat,∀a,l[k]? =some a→q a=false):vM q l=-1:=by unfold vM;rw[zL.2];intro a c;obtain⟨k,d⟩:=zP.1 c;exact h k a d
theorem zV{b:Type}{q:b→Bool}{l:List b}{k:Nat}{a:b}(h:∀j:Nat,j<k→∀a,l[j]? =some a→q a=false)(c:l[k]? =some a)(hq:q a=true):vM q l=(k:Int):=by unfold vM;have e:=(cH.1 c).1;rw[zM.2 ⟨e,by rw[(cH.1 c).2];exact hq,fun j d=> ?_⟩];have:=h j d _ (cA (by omega));simpa using this
theorem C7{b:Type}(q:b→Bool)(l:List b):decide (0≤vM q l)=l.any q:=by
 unfold vM;cases h:l.findIdx? q with
 |none=>rw[zL] at h;rw[aaV.2 fun a c=>by rw[h a c];decide];rfl
 |some k=>obtain⟨d,hq,_⟩:=zM.1 h;rw[lF.2 ⟨_,wI d,hq⟩];exact bN (Int.natCast_nonneg k)
theorem cg.Vg{W:aaK}{a:Option Addr}{n c i:Nat}{ls:List Bs}{x:Bs}(h:cg W (.slice a n c) ls)(j:ls[i]? =some x):∃b o,a=some ⟨b,o,none⟩∧W.cell? ⟨b,o+i,none⟩=some (.string ⟨x.toArray⟩):=by
 rcases h with⟨p,k,d,e⟩|⟨b,o,k,d,e,s,m⟩
 ·subst e;cases j
 ·injection d with l q r;exact⟨b,o,l,m i x j⟩
theorem MY(l:List Bs)(v:Bs)(M:l.length≤1000)(G:Option Addr)(c:Nat)(w:aaK)(F:cg w (.slice G l.length c) l):
 Calls Tryz.prog 189 #[.slice G l.length c,.string ⟨v.toArray⟩] w (fun e w'=>e=.returned (.int .i64 (vM (v==·) l))∧w'=w):=by
 have C:=ad F;obtain⟨V,d⟩:∃V,vM (v==·) l=V:=⟨_,rfl⟩;rw[d];have H:=ad (fun h=>d.symm.t (zU (q:=(v==·)) (l:=l) h));have J:=ad (fun k a h m hq=>d.symm.t (zV (q:=(v==·)) (l:=l) (k:=k) (a:=a) h m hq));obtain⟨n,z⟩:∃n,l.length=n:=⟨_,rfl⟩;have D:=ad z;rw[z] at M C⊢;clear F d z;go_enter Tryz.func189,Tryz.ntmps189;go_upto_region 2 with fail
 go_loopw [8] (fun A wr=>∃i:Nat,i≤n∧A=.int .i64 i∧Hid (∀j:Nat,j<i→∀a,l[j]? =some a→(v==a)=false)∧wr=w) (fun A _=>n-(intOf A).toNat)
 case atStart=>exact⟨0,aH _,rfl,ad (fun j K=>by omega),rfl⟩
 case round=>
  obtain⟨i,R,rfl,s,rfl⟩:=hrel;by_cases N:i<n
  ·have T:(i:Int)<(n:Int):=by omega
   have S:(0:Int)≤(i:Int):=by omega
   obtain⟨a,x⟩:∃a,l[i]? =some a:=⟨_,cA (by rw[D.o];exact N)⟩;have B:=ad x;obtain⟨b,o,rfl,Q⟩:=C.o.Vg x;obtain⟨r,O⟩:∃r,(v==a)=r:=⟨_,rfl⟩;have E:=ad O;clear x;rcases r with _|_
   ·have I:=ad (fun(j:Nat) (K:j<i+1) (u:Bs) (y:l[j]? =some u)=>show(v==u)=false by
     by_cases L:j<i
     ·exact s.o j L u y
     ·obtain rfl:j=i:=by omega
      rw[B.o] at y;cases y;exact E.o)
    go_wp2_with fail
    go_roundw
    case rel=>exact⟨i+1,by omega,by go_num,I,by trivial⟩
    case measure=>(simp[intOf]<;>omega)
   ·have p:=ad (J.o i a s.o B.o E.o);go_wp2_with fail;go_ret;exact⟨by rw[p.o];rfl,rfl⟩
  ·obtain rfl:i=n:=by omega
   have p:=ad (H.o fun k a m=>s.o k (by rw[←D.o];exact(cH.1 m).1) a m);go_wp2_with fail;go_ret;exact⟨by rw[p.o];rfl,rfl⟩
theorem Zz(l:List Bs)(v:Bs)(i:l.length≤1000)(a:Option Addr)(c:Nat)(w:aaK)(b:cg w (.slice a l.length c) l):
 Calls Tryz.prog 158 #[.slice a l.length c,.string ⟨v.toArray⟩] w (fun e w'=>e=.returned (.bool (l.any (v==·)))∧w'=w):=by
 have h:=ad (MY l v i a c w b);have d:=ad (C7 (v==·) l);generalize vM (v==·) l=V at*;generalize l.any (v==·)=R at*;generalize l.length=n at*;clear b;go_enter Tryz.func158,Tryz.ntmps158;go_wp2_with fail;refine h.o.m ?_;rintro e j⟨rfl,rfl⟩;go_wp2_with fail;go_ret;exact⟨cq d.o,rfl⟩
theorem M5(l:List Bs)(v:Bs)(h:l.length≤1000)(a:Option Addr)(c:Nat)(w:aaK)(b:cg w (.slice a l.length c) l):
 Calls Tryz.prog 125 #[.slice a l.length c,.string ⟨v.toArray⟩] w (fun e w'=>e=.returned (.bool (l.any (v==·)))∧w'=w):=by
 have d:=ad (Zz l v h a c w b);generalize l.any (v==·)=R at*;generalize l.length=n at*;clear b;go_enter Tryz.func125,Tryz.ntmps125;go_wp2_with fail;refine d.o.m ?_;rintro e i⟨rfl,rfl⟩;go_wp2_with fail;go_ret;exact⟨rfl,rfl⟩
theorem wX(f:FuncId)(ca:Array aaL)(q:Bs→Bool)(l:List Bs)(Y:l.length≤1000000)(M:Option Addr)(c:Nat)(w:aaK)(he:∀(vs:Array aaL) (w:aaK),(callFunc f vs).run Tryz.prog w=.ok (.enter f vs) w)
 (L:∀a∈l,∀W,Below w.heap.size w W→Calls Tryz.prog f (#[.string ⟨a.toArray⟩]++ca) W (cN W (.bool (q a))))(d:cg w (.slice M l.length c) l):
 Calls Tryz.prog 190 #[.slice M l.length c,.func (.func f) #[] ca] w (cN w (.int .i64 (vM q l))):=by
 have N:=ad L;have H:=ad d;obtain⟨V,s⟩:∃V,vM q l=V:=⟨_,rfl⟩;rw[s];have O:=ad (fun h=>s.symm.t (zU (q:=q) (l:=l) h));have R:=ad (fun k a h d hq=>s.symm.t (zV (q:=q) (l:=l) (k:=k) (a:=a) h d hq));obtain⟨n,B⟩:∃n,l.length=n:=⟨_,rfl⟩;have I:=ad B;rw[B] at H Y⊢;clear L d s B;go_enter Tryz.func190,Tryz.ntmps190;go_upto_region 2 with fail
 go_loopw [8] (fun D wr=>∃i:Nat,i≤n∧D=.int .i64 i∧Hid (∀j:Nat,j<i→∀a,l[j]? =some a→q a=false)∧Hid (Below w.heap.size w wr)) (fun D _=>n-(intOf D).toNat)
 case atStart=>exact⟨0,aH _,rfl,ad (fun j T=>by omega),ad (ar _ _)⟩
 case round=>
  obtain⟨i,hi,rfl,y,p⟩:=hrel;by_cases Z:i<n
  ·have i1:(i:Int)<(n:Int):=by omega
   have i0:(0:Int)≤(i:Int):=by omega
   obtain⟨a,u⟩:∃a,l[i]? =some a:=⟨_,cA (by rw[I.o];exact Z)⟩;have E:=ad u;obtain⟨b,o,rfl,S⟩:=(H.o.below p.o).Vg u;have G:=ad (N.o a (eQ u) wr p.o);obtain⟨r,C⟩:∃r,q a=r:=⟨_,rfl⟩;rw[C] at G;have J:=ad C;clear u C;go_wp2_with fail;refine G.o.m ?_;rintro e w3⟨rfl,K⟩;have F:=ad (p.o.t (K.m p.o.size));clear K S;rcases r with _|_
   ·have Q:=ad (fun(j:Nat) (T:j<i+1) (z:Bs) (A:l[j]? =some z)=>show q z=false by
     by_cases X:j<i
     ·exact y.o j X z A
     ·obtain rfl:j=i:=by omega
      rw[E.o] at A;cases A;exact J.o)
    go_wp2_with fail
    go_roundw
    case rel=>exact⟨i+1,by omega,by go_num,Q,F⟩
    case measure=>(simp[intOf]<;>omega)
   ·have x:=ad (R.o i a y.o E.o J.o);go_wp2_with fail;go_ret;exact⟨by rw[x.o];rfl,F.o⟩
  ·obtain rfl:i=n:=by omega
   have x:=ad (O.o fun k a d=>y.o k (by rw[←I.o];exact(cH.1 d).1) a d);go_wp2_with fail;go_ret;exact⟨by rw[x.o];rfl,p.o⟩
theorem aaZ(f:FuncId)(ca:Array aaL)(q:Bs→Bool)(l:List Bs)(r:l.length≤1000000)(b:Option Addr)(c:Nat)(w:aaK)(h:∀(vs:Array aaL) (w:aaK),(callFunc f vs).run Tryz.prog w=.ok (.enter f vs) w)
 (d:∀a∈l,∀W,Below w.heap.size w W→Calls Tryz.prog f (#[.string ⟨a.toArray⟩]++ca) W (cN W (.bool (q a))))(i:cg w (.slice b l.length c) l):
 Calls Tryz.prog 159 #[.slice b l.length c,.func (.func f) #[] ca] w (cN w (.bool (l.any q))):=by
 have k:=ad (wX f ca q l r b c w h d i);have j:=ad (C7 q l);generalize vM q l=V at*;generalize l.any q=R at*;generalize l.length=n at*;clear d i h;go_enter Tryz.func159,Tryz.ntmps159;go_wp2_with fail;refine k.o.m ?_;rintro e s⟨rfl,p⟩;go_wp2_with fail;go_ret;exact⟨cq j.o,p⟩
theorem mI(s sub:Bs)(w:aaK)(c:Good w)(d:s.length≤1000000):Calls Tryz.prog 67 #[.string ⟨s.toArray⟩,.string ⟨sub.toArray⟩] w fun e w'=>e=.returned (.bool (Lib.contains s sub))∧w'=w:=by refine(nn ⟨s.toArray⟩ ⟨sub.toArray⟩ w c (by show s.toArray.size<_;simp;omega)).m ?_;rintro e w'⟨a,b⟩;exact⟨a,b.symm⟩
theorem BE(t b:Bs)(i:t.length≤1000000)(l:b.length≤100)(d:Nat)(w:aaK)(h:Good w)(n:w.cell? ⟨d,0,none⟩=some (.string ⟨t.toArray⟩)):
 Calls Tryz.prog 160 #[.string ⟨b.toArray⟩,.pointer (some ⟨d,0,none⟩)] w (cN w (.bool (Lib.contains t (jv++b)))):=by
 have a:=ad (mI t (jv++b) w h i);have k:(⟨#[60,33,45,45,101,115,105]⟩:aaM)++⟨b.toArray⟩=⟨(jv++b).toArray⟩:=Je jv b;have p:¬9223372036854775807<7+b.length:=by omega
 generalize jv++b=e at*;obtain⟨r,c⟩:∃r,Lib.contains t e=r:=⟨_,rfl⟩;rw[c] at a⊢;clear c;go_enter Tryz.func160,Tryz.ntmps160;go_wp2_with fail;refine a.o.m ?_;rintro j q⟨rfl,rfl⟩;go_wp2_with fail;go_ret;exact⟨rfl,ar _ _⟩
def pT:List Bs:=[[32],[9],[10],[13]]
theorem Kt(t:Bs):si t=((Lib.contains t eY||Lib.contains t bD)||pT.any fun b=>Lib.contains t (jv++b)):=rfl
theorem C8(t:Bs)(l:t.length≤1000000)(w:aaK)(D:Good w):Calls Tryz.prog 127 #[.string ⟨t.toArray⟩] w (cN w (.bool (si t))):=by
 have s:Below w.heap.size w (w.alloc (.cells #[.string ⟨t.toArray⟩] 9)):=(ar _ _).alloc (ag _) _;have n:=ad s;have r:=ad (D.next s);have z:=ad (au w (.cells #[.string ⟨t.toArray⟩] 9));have j:=ad (mI t eY _ r.o l);have p:=ad (mI t bD _ r.o l);have I:=ad l;have A:=ad (aO w (.cells #[.string ⟨t.toArray⟩] 9));rw[Kt];obtain⟨a,C⟩:∃a,Lib.contains t eY=a:=⟨_,rfl⟩;obtain⟨b,h⟩:∃b,Lib.contains t bD=b:=⟨_,rfl⟩;obtain⟨c,u⟩:∃c,(pT.any fun b=>Lib.contains t (jv++b))=c:=⟨_,rfl⟩;rw[C] at j⊢;rw[h] at p⊢;have G:=ad u;rw[u];clear s D l C h u;go_enter Tryz.func127,Tryz.ntmps127;go_upto_region 1 with fail;generalize w.alloc (.cells #[.string ⟨t.toArray⟩] 9)=d at*;have L:d.cell? ⟨w.heap.size,0,none⟩=_:=tH _ _ 0 _ _ _ z.o;generalize E:w.heap.size=sb at*;have k:=ad E;clear E;cases a
 ·cases b
  ·have hA2:Below d.heap.size d (d.alloc (.cells #[.string ⟨#[32]⟩,.string ⟨#[9]⟩,.string ⟨#[10]⟩,.string ⟨#[13]⟩] 9)):=(ar _ _).alloc (ag _) _;have y:=ad (n.o.t (hA2.m (by have:=A.o;omega)));have F:cg (d.alloc (.cells #[.string ⟨#[32]⟩,.string ⟨#[9]⟩,.string ⟨#[10]⟩,.string ⟨#[13]⟩] 9)) (.slice (some ⟨d.heap.size,0,none⟩) 4 4) pT:=kN d pT 4 (by decide);have x:=(hA2.block sb (by have:=A.o;omega)).t z.o;have q:=ad (aaZ 160 #[.pointer (some ⟨sb,0,none⟩)] (fun b=>Lib.contains t (jv++b)) pT (by decide) (some ⟨d.heap.size,0,none⟩) 4 _ (fun vs w=>cP Tryz.func160 (by kernel_rfl) rfl vs w)
    (fun b h J B=>BE t b I.o (by simp only[pT,bL,uK,or_false] at h;rcases h with rfl|rfl|rfl|rfl<;>decide) sb J ((r.o.next hA2).next B) (tH _ _ 0 _ _ _ ((B.block _ (aB.1 x).1).t x))) F)
   rw[G.o] at q;have H:=ad (show Calls Tryz.prog 159 #[.slice (some ⟨d.heap.size,0,none⟩) 4 4,.func (.func 160) #[] #[.pointer (some ⟨sb,0,none⟩)]] _ _ from q.o);have M:∀(fn:Fn) (first cap:Array aaL) (w:aaK),(Instr.makeFunc fn first cap).run Tryz.prog w=.ok (.func fn first cap) w:=fun _ _ _ _=>rfl;clear hA2 F x q;go_wp2_with fail;refine j.o.m ?_;rintro e i⟨rfl,rfl⟩;go_wp2_with fail;refine p.o.m ?_;rintro e i⟨rfl,rfl⟩;go_wp2_with fail;refine H.o.m ?_;rintro e i⟨rfl,K⟩;go_wp2_with fail;go_ret;exact⟨rfl,by rw[k.o];exact y.o.t (K.m (by have:=y.o.size;have:=k.o;omega))⟩
  ·go_wp2_with fail;refine j.o.m ?_;rintro e i⟨rfl,rfl⟩;go_wp2_with fail;refine p.o.m ?_;rintro e i⟨rfl,rfl⟩;go_wp2_with fail;go_ret;exact⟨rfl,by rw[k.o];exact n.o⟩
 ·go_wp2_with fail;refine j.o.m ?_;rintro e i⟨rfl,rfl⟩;go_wp2_with fail;go_ret;exact⟨rfl,by rw[k.o];exact n.o⟩
theorem zW{t:Bs}(h:t≠[]):t.isEmpty=false:=by
 cases t with
 |nil=>exact absurd rfl h
 |cons _ _=>rfl
theorem F7(k p:Int)(t:Bs){aa ka:Option Addr}{an ac kn kc:Nat}(hid:Bool)(N:t.length≤1000000)(w:aaK)(V:Good w):
 Calls Tryz.prog 87 #[.agg #[.int .i64 k,.int .i64 p,.string ⟨t.toArray⟩,.slice aa an ac,.slice ka kn kc],.bool hid] w (cN w (.bool (sj k t hid))):=by
 have J:Below w.heap.size w (w.alloc (.cells (eH k p t (.slice aa an ac) (.slice ka kn kc)).toArray 37)):=(ar _ _).alloc (ag _) _;have b:=ad J;have z:=ad (au w (.cells (eH k p t (.slice aa an ac) (.slice ka kn kc)).toArray 37));have S:=ad (V.next J);have G:=ad (fun W (h:Below _ _ W)=>C8 t N W (S.o.next h));have j:=ad (fun W (h:Below _ _ W) (sub:Bs)=>mI t sub W (S.o.next h) N);obtain⟨R,K⟩:∃R,sj k t hid=R:=⟨_,rfl⟩;have D:=ad (show(if k=2 then !t.isEmpty&& !si t&& !(hid&&Lib.contains t oJ)
  else if k=4 then !Lib.contains t (bD++cF)
  else if k=5 then !Lib.contains t (bD++bS)&& !Lib.contains t eY
  else t.isEmpty)=R from K)
 rw[K];clear J V N K;have q0:∀q:aaK,Below w.heap.size w q→True:=fun _ _=>trivial;clear q0;by_cases s:k=2
 ·have i:=ad ((ah s).symm.t D.o);have q2:=jY s;clear s D;by_cases B:t=[]
  ·have a:=ad (show R=false by rw[←i.o,B];rfl);subst B;clear i;go_enter Tryz.func87,Tryz.ntmps87;go_wp2_with fail;go_ret;exact⟨by rw[a.o];rfl,b.o⟩
  ·have X:t.isEmpty=false:=zW B;have q3:(t==[])=false:=aL.2 B;have Y:(t !=[])=true:=by rw[bne,q3];rfl
   obtain⟨F,O⟩:∃F,si t=F:=⟨_,rfl⟩;obtain⟨C,M⟩:∃C,Lib.contains t oJ=C:=⟨_,rfl⟩;have e:=ad (show(!F&& !(hid&&C))=R by rw[←i.o,X,O,M];rfl);rw[O] at G;have l:=ad (fun W (h:Below _ _ W)=>j.o W h oJ);rw[M] at l;clear i B X O M j;go_enter Tryz.func87,Tryz.ntmps87;go_upto_region 1 with fail;generalize w.alloc (.cells (eH k p t (.slice aa an ac) (.slice ka kn kc)).toArray 37)=q at*;obtain⟨H,I⟩:=qX2 (aj z.o) 0 2;go_wp2_with fail;refine(G.o q (ar _ _)).m ?_;rintro E Z⟨rfl,L⟩;have y:=ad L;have n2:=(L.block _ (aB.1 z.o).1).t z.o;have d2:=aj n2 2;clear L n2 H I;cases F
   ·cases hid
    ·have a:=ad (show R=true by rw[←e.o];rfl);go_wp2_with fail;go_ret;exact⟨by rw[a.o];rfl,b.o.t (y.o.m b.o.size)⟩
    ·have a:=ad (show R= !C by rw[←e.o];rfl);go_wp2_with fail;refine(l.o _ y.o).m ?_;rintro E w3⟨rfl,rfl⟩;cases C
     ·go_wp2_with fail;go_ret;exact⟨by rw[a.o];rfl,b.o.t (y.o.m b.o.size)⟩
     ·go_wp2_with fail;go_ret;exact⟨by rw[a.o];rfl,b.o.t (y.o.m b.o.size)⟩
   ·have a:=ad (show R=false by rw[←e.o];rfl);go_wp2_with fail;go_ret;exact⟨by rw[a.o];rfl,b.o.t (y.o.m b.o.size)⟩
 ·have i:=ad ((ae s).symm.t D.o);have q2:=eS s;clear s D G;by_cases u:k=4
  ·have e:=ad ((ah u).symm.t i.o);have Y:=jY u;have l:=ad (fun W (h:Below _ _ W)=>j.o W h (bD++cF));obtain⟨c,A⟩:∃c,Lib.contains t (bD++cF)=c:=⟨_,rfl⟩;rw[A] at l e;clear u i j A;go_enter Tryz.func87,Tryz.ntmps87;go_upto_region 1 with fail;generalize w.alloc (.cells (eH k p t (.slice aa an ac) (.slice ka kn kc)).toArray 37)=q at*;obtain⟨H,I⟩:=qX2 (aj z.o) 0 2;go_wp2_with fail;refine(l.o q (ar _ _)).m ?_;rintro E Z⟨rfl,rfl⟩;cases c
   ·go_wp2_with fail;go_ret;exact⟨by rw[←e.o];rfl,b.o⟩
   ·go_wp2_with fail;go_ret;exact⟨by rw[←e.o];rfl,b.o⟩
  ·have e:=ad ((ae u).symm.t i.o);have Y:=eS u;clear u i;by_cases x:k=5
   ·have n:=ad ((ah x).symm.t e.o);have q5:=jY x;have l:=ad (fun W (h:Below _ _ W)=>j.o W h (bD++bS));have Q:=ad (fun W (h:Below _ _ W)=>j.o W h eY);obtain⟨c,A⟩:∃c,Lib.contains t (bD++bS)=c:=⟨_,rfl⟩;obtain⟨d,T⟩:∃d,Lib.contains t eY=d:=⟨_,rfl⟩;rw[A] at l n;rw[T] at Q n;clear x e j A T;go_enter Tryz.func87,Tryz.ntmps87;go_upto_region 1 with fail;generalize w.alloc (.cells (eH k p t (.slice aa an ac) (.slice ka kn kc)).toArray 37)=q at*;obtain⟨H,I⟩:=qX2 (aj z.o) 0 2;go_wp2_with fail;refine(l.o q (ar _ _)).m ?_;rintro E Z⟨rfl,rfl⟩;cases c
    ·go_wp2_with fail;refine(Q.o _ (ar _ _)).m ?_;rintro E w3⟨rfl,rfl⟩;have a:=ad (show R= !d by rw[←n.o];rfl);cases d
     ·go_wp2_with fail;go_ret;exact⟨by rw[a.o];rfl,b.o⟩
     ·go_wp2_with fail;go_ret;exact⟨by rw[a.o];rfl,b.o⟩
    ·have a:=ad (show R=false by rw[←n.o];rfl);go_wp2_with fail;go_ret;exact⟨by rw[a.o];rfl,b.o⟩
   ·have n:=ad ((ae x).symm.t e.o);have q5:=eS x;have a:=ad (show R=(t==[]) by rw[←n.o];cases t<;>rfl);obtain⟨r,hr⟩:∃r,(t==[])=r:=⟨_,rfl⟩;rw[hr] at a;clear x e n j;cases r
    ·go_enter Tryz.func87,Tryz.ntmps87;go_wp2_with fail;go_ret;exact⟨by rw[a.o];rfl,b.o⟩
    ·go_enter Tryz.func87,Tryz.ntmps87;go_wp2_with fail;go_ret;exact⟨by rw[a.o];rfl,b.o⟩
theorem C9{c:Type}(q:c→Bool):∀l:List c,match l.findIdx? q with|none=>l.find? q=none|some k=>∃a,l[k]? =some a∧l.find? q=some a
 |[]=>rfl
 |x::r=>by
  have b:=C9 q r;rw[List.findIdx?_cons,uH];cases hq:q x with
  |true=>exact⟨x,rfl,rfl⟩
  |false=>
   revert b;cases h:r.findIdx? q with
   |none=>exact fun b=>b
   |some k=>exact fun⟨a,d,e⟩=>⟨a,by simpa using d,e⟩
theorem Ku(q:bQ→Bool)(l:List bQ):(∃(k:Nat) (a:bQ),tM q l=(k:Int)∧l[k]? =some a∧l.find? q=some a)∨(tM q l=-1∧l.find? q=none):=by
 have h:=C9 q l;unfold tM;cases b:l.findIdx? q with
 |none=>rw[b] at h;exact .inr ⟨rfl,h⟩
 |some k=>rw[b] at h;obtain⟨a,c,d⟩:=h;exact .inl ⟨k,a,rfl,c,d⟩
theorem F8(nm:Bs)(b:bQ)(a:Nat)(W:aaK)(d:W.cell? ⟨a,0,none⟩=some (.string ⟨nm.toArray⟩)):
 Calls Tryz.prog 93 #[Tk b,.pointer (some ⟨a,0,none⟩)] W (cN W (.bool (b.name==nm))):=by
 have c:Below W.heap.size W (W.alloc (.cells (BF b).toArray 159)):=(ar _ _).alloc (ag _) _;have e:=ad c;have h:(W.alloc (.cells (BF b).toArray 159)).cell? ⟨a,0,none⟩=some (.string ⟨nm.toArray⟩):=(c.cell (p:=⟨a,0,none⟩) (aV d)).t d;have i:=bH W (BF b).toArray 159 0 _ rfl;clear c d;go_enter Tryz.func93,Tryz.ntmps93;go_wp2_with fail;go_ret;exact⟨rfl,e.o⟩
theorem pU(k p:Int)(t nm:Bs){l:List bQ}{aa ka:Option Addr}{ac kn kc:Nat}{A:Nat→Prop}(w:aaK)(G:aP A w l (.slice aa l.length ac))(I:l.length≤1000000):
 Calls Tryz.prog 47 #[.agg #[.int .i64 k,.int .i64 p,.string ⟨t.toArray⟩,.slice aa l.length ac,.slice ka kn kc],.string ⟨nm.toArray⟩] w (cN w (.tuple #[.string ⟨((bG l nm).getD []).toArray⟩,.bool (bG l nm).isSome])):=by
 have y:Below w.heap.size w ((w.alloc (.cells (eH k p t (.slice aa l.length ac) (.slice ka kn kc)).toArray 37)).alloc (.cells #[.string ⟨nm.toArray⟩] 9)):=((ar _ _).alloc (ag _) _).alloc (by rw[aO];omega) _;have n:=ad y;have h:=ad (jX w (.cells (eH k p t (.slice aa l.length ac) (.slice ka kn kc)).toArray 37) (.cells #[.string ⟨nm.toArray⟩] 9));have x:=ad (iT w (.cells (eH k p t (.slice aa l.length ac) (.slice ka kn kc)).toArray 37) (.cells #[.string ⟨nm.toArray⟩] 9));have q:=ad (G.next y);have s:=ad (oK 93 #[.pointer (some ⟨w.heap.size+1,0,none⟩)] (fun a=>a.name==nm) l I aa ac _ (fun vs w=>cP Tryz.func93 (by kernel_rfl) rfl vs w)
  (fun a _ L O=>F8 nm a (w.heap.size+1) L (tH _ _ 0 _ _ _ ((O.block _ (aB.1 x.o).1).t x.o))) _ q.o)
 have e:=ad (Ku (fun a=>a.name==nm) l);have r:=ad (show bG l nm=(l.find? fun a=>a.name==nm).map (·.val) from rfl);obtain⟨N,z⟩:∃N,l.length=N:=⟨_,rfl⟩;have K:=ad z;rw[z] at n h x q s⊢;obtain⟨V,F⟩:∃V,tM (fun a=>a.name==nm) l=V:=⟨_,rfl⟩;rw[F] at e s;obtain⟨d,E⟩:∃d,bG l nm=d:=⟨_,rfl⟩;rw[E] at r⊢;have af:∀(fn:Fn) (first cap:Array aaL) (w:aaK),(Instr.makeFunc fn first cap).run Tryz.prog w=.ok (.func fn first cap) w:=fun _ _ _ _=>rfl;have ab:N≤1000000:=by omega
 clear y G I z F E;go_enter Tryz.func47,Tryz.ntmps47;go_upto_region 1 with fail;generalize(w.alloc (.cells (eH k p t (.slice aa N ac) (.slice ka kn kc)).toArray 37)).alloc (.cells #[.string ⟨nm.toArray⟩] 9)=X at*;have M:=aj h.o 3;go_wp2_with fail;refine s.o.m ?_;rintro Z R⟨rfl,j⟩;have D:=ad (n.o.t (j.m n.o.size));have J:=ad (q.o.next j);have n1:=(j.block _ (aB.1 h.o).1).t h.o;have Y:=aj n1 3;clear j n1 M;rcases e.o with⟨i,a,C,B,c⟩|⟨C,c⟩
 ·have u:=ad (show d=some a.val by rw[r.o,c];rfl);have Q:i<N:=by rw[←K.o];exact(cH.1 B).1
  obtain⟨b,o,rfl,-,-,-,H⟩:=J.o.get B;obtain⟨S,T,W⟩:=H ⟨R,ar _ _⟩;dsimp only at S T W;have i1:(i:Int)<(N:Int):=by omega
  have i0:(0:Int)≤(i:Int):=by omega
  subst C;clear B c H Q e;go_wp2_with fail;go_ret2;exact⟨by rw[u.o];rfl,D.o⟩
 ·have u:=ad (show d=none by rw[r.o,c];rfl);subst C;clear c e;go_wp2_with fail;go_ret2;exact⟨by rw[u.o];rfl,D.o⟩
end Go.Proofs.YtlemddnecmmfgaaGreatDoor
namespace Go.Proofs.YtlemddnecmmfgaaGreatDoor
open Go.Lib
structure ep where
 name:Bs
 XH:Bool
 may:Bs→Bool
def sn(v:Bs):Bool:= !v.isEmpty
def dM(k:Int):List ep:=
 if k=3 then[⟨lC,true,sn⟩,⟨lD,false,sn⟩,⟨dj,false,fun v=>[iJ].any (v==·)⟩]
 else if k=4 then[⟨kO,true,sn⟩,⟨eN,false,fun v=>[Da,Tm].any (v==·)⟩]
 else if k=6 then[⟨qH,true,fun _=>true⟩]
 else if k=11 then[⟨gT,true,sn⟩]
 else[]
def oL(r:ep)(a:bQ):Bool:=a.name==r.name&&(!r.may a.val||Dd a.val)
def jZ(l:List bQ):List ep→Nat→Option Nat
 |[],f=>some f
 |r::rs,f=>if l.any (oL r) then none else if 1<cr l r.name∨(cr l r.name=0∧r.XH=true) then none else jZ l rs (f+cr l r.name)
def so(rs:List ep)(l:List bQ):Bool:=match jZ l rs 0 with|none=>false|some n=>n==l.length
def kP(l:List bQ)(r:ep):Bool:= !l.any (oL r)&&decide (cr l r.name≤1)&&(!r.XH||decide (0<cr l r.name))
def ns(l:List bQ)(rs:List ep):Nat:=(rs.map fun r=>cr l r.name).sum
theorem zY(l:List bQ):∀(rs:List ep) (f:Nat),jZ l rs f=if rs.all (kP l) then some (f+ns l rs) else none
 |[],f=>by simp[jZ,ns]
 |r::rs,f=>by
  rw[jZ,zY l rs];have d:kP l r=(!l.any (oL r)&&decide (cr l r.name≤1)&&(!r.XH||decide (0<cr l r.name))):=rfl;rw[kf];by_cases c:l.any (oL r)=true
  ·rw[ah c];have:kP l r=false:=by rw[d,c];rfl
   rw[this];rfl
  ·rw[ae c];have e:l.any (oL r)=false:=by simpa using c
   by_cases a:1<cr l r.name∨(cr l r.name=0∧r.XH=true)
   ·rw[ah a];have:kP l r=false:=by
     rw[d,e];rcases a with a|⟨a,b⟩
     ·rw[cL (by omega)];rfl
     ·rw[a,b];rfl
    rw[this];rfl
   ·rw[ae a];have:kP l r=true:=by
     rw[d,e,bN (show cr l r.name≤1 by omega)];cases j:r.XH
     ·rfl
     ·have i:0<cr l r.name:=Nat.pos_of_ne_zero fun h=>a (.inr ⟨h,j⟩);rw[bN i];rfl
    rw[this,aaP];by_cases b:rs.all (kP l)=true
    ·rw[ah b,ah b];simp[ns,oh]
    ·rw[ae b,ae b]
theorem Nc(rs:List ep)(l:List bQ):so rs l=(rs.all (kP l)&&decide (ns l rs=l.length)):=by
 unfold so;rw[zY];by_cases h:rs.all (kP l)=true
 ·rw[ah h,h];simp only[dH,aaP];exact gf.2 (by simp)
 ·rw[ae h];have:rs.all (kP l)=false:=by simpa using h
  rw[this];rfl
theorem Di(a:bQ)(l:List bQ)(nm:Bs):cr (a::l) nm=cr l nm+if a.name==nm then 1 else 0:=by unfold cr;rw[List.filter_cons];split<;>simp
theorem tO(a:bQ)(l:List bQ):∀(rs:List ep),(rs.map (·.name)).Nodup→ns (a::l) rs=ns l rs+if rs.any (fun r=>a.name==r.name) then 1 else 0
 |[],_=>by simp[ns]
 |r::rs,h=>by
  have b:=lI.1 (show(r.name::rs.map (·.name)).Nodup from h);have o:=tO a l rs b.2;have c:ns (a::l) (r::rs)=cr (a::l) r.name+ns (a::l) rs:=by simp[ns]
  have d:ns l (r::rs)=cr l r.name+ns l rs:=by simp[ns]
  rw[c,d,o,Di,rZ];by_cases hq:a.name==r.name
  ·have j:rs.any (fun r=>a.name==r.name)=false:=by
    rw[aaV];intro x m n;have e:a.name=r.name:=by simpa using hq
    have i:a.name=x.name:=by simpa using n
    exact b.1 (qE.2 ⟨x,m,by rw[←e,i]⟩)
   rw[hq,j];simp;omega
  ·have k:(a.name==r.name)=false:=by simpa using hq
   rw[k];simp;omega
theorem xf:∀rs:List ep,ns [] rs=0
 |[]=>rfl
 |r::rs=>by
  have a:ns [] (r::rs)=cr [] r.name+ns [] rs:=by simp[ns]
  rw[a,xf rs];rfl
theorem Jh{rs:List ep}(h:(rs.map (·.name)).Nodup):∀l:List bQ,ns l rs≤l.length
 |[]=>by rw[xf];exact aH _
 |a::l=>by have:=Jh h l;rw[tO a l rs h,bF];split<;>omega
theorem Dj{rs:List ep}(h:(rs.map (·.name)).Nodup):∀l:List bQ,decide (ns l rs=l.length)=l.all fun a=>rs.any fun r=>a.name==r.name
 |[]=>by rw[xf];rfl
 |a::l=>by
  have c:=Dj h l;rw[tO a l rs h,kf,←c,bF];have:=Jh h l;by_cases hq:rs.any (fun r=>a.name==r.name)=true
  ·rw[ah hq,hq,aaP];exact gf.2 (by simp)
  ·have b:rs.any (fun r=>a.name==r.name)=false:=by simpa using hq
   rw[ae hq,b,Bool.false_and];exact cL (by omega)
theorem uO(k:Int):(dM k).map (·.name)=(aE k).1:=by
 unfold dM aE
 repeat' split
 all_goals rfl
theorem Dk(k:Int):((dM k).map (·.name)).Nodup:=by
 rw[uO];unfold aE
 repeat' split
 all_goals decide
theorem zZ(k:Int):∀r∈dM k,∀v,lJ r.name v=r.may v:=by
 unfold dM;split
 ·intro r a v;simp only[bL,uK,or_false] at a;rcases a with rfl|rfl|rfl
  ·rfl
  ·rfl
  ·show _=([iJ].any (v==·));rw[rZ,List.any_nil,Bool.or_false];rfl
 ·split
  ·intro r a v;simp only[bL,uK,or_false] at a;rcases a with rfl|rfl
   ·rfl
   ·show _=([Da,Tm].any (v==·));rw[rZ,rZ,List.any_nil,Bool.or_false];rfl
  ·split
   ·intro r a v;rw[fj.1 a];rfl
   ·split
    ·intro r a v;rw[fj.1 a];rfl
    ·intro r a;cases a
theorem Gd(k:Int):(aE k).1.take (aE k).2=((dM k).filter (·.XH)).map (·.name):=by
 unfold dM aE
 repeat' split
 all_goals rfl
theorem xg(l:List bQ)(nm:Bs):decide (0<cr l nm)=l.any fun a=>a.name==nm:=by
 unfold cr;rw[gf,eM,lF];constructor
 ·intro h;obtain⟨a,b⟩:=List.exists_mem_of_length_pos h;exact⟨a,(List.mem_filter.1 b).1,(List.mem_filter.1 b).2⟩
 ·rintro⟨a,c,d⟩;exact List.length_pos_of_mem (List.mem_filter.2 ⟨c,d⟩)
theorem Gb(k:Int)(l:List bQ):sq k l=so (dM k) l:=by
 rw[Nc,Dj (Dk k)];unfold sq;rw[Gd,gf];simp only[cW,eV];have s:∀a:bQ,(aE k).1.contains a.name=true↔∃r∈dM k,a.name=r.name:=fun a=>by rw[←uO,r8,qE];exact⟨fun⟨r,c,h⟩=>⟨r,c,h.symm⟩,fun⟨r,c,h⟩=>⟨r,c,h.symm⟩⟩
 have o:∀r,kP l r=true↔(∀a∈l,a.name=r.name→r.may a.val=true∧Dd a.val=false)∧cr l r.name≤1∧(r.XH=true→l.any (fun a=>a.name==r.name)=true):=fun r=>by
  rw[kP,←xg];simp only[cW,aaU,aaV,eM,wH,oL,bZ];constructor
  ·rintro⟨⟨c,h⟩,i⟩;refine⟨fun a d b=> ?_,h,fun j=> ?_⟩
   ·have:=c a d;simp only[b] at this;revert this;cases r.may a.val<;>cases Dd a.val<;>simp
   ·rcases i with i|i
    ·rw[j] at i;cases i
    ·exact i
  ·rintro⟨c,h,i⟩;refine⟨⟨fun a d=> ?_,h⟩, ?_⟩
   ·by_cases b:a.name=r.name
    ·obtain⟨u,w⟩:=c a d b;simp[u,w]
    ·simp[b]
   ·cases j:r.XH
    ·exact .inl rfl
    ·exact .inr (i j)
 constructor
 ·rintro⟨c,h⟩;refine⟨fun r e=>(o r).2 ⟨fun a d b=> ?_, ?_,fun j=> ?_⟩,fun a d=> ?_⟩
  ·obtain⟨⟨⟨n,m⟩,p⟩,q⟩:=c a d;rw[b,zZ k r e] at m;exact⟨m,by simpa using p⟩
  ·by_cases y:cr l r.name=0
   ·omega
   ·have:=(xg l r.name).symm.t (bN (Nat.pos_of_ne_zero y));obtain⟨a,d,b⟩:=lF.1 this;have b:a.name=r.name:=by simpa using b
    have:=(c a d).2;rw[b] at this;simpa using this
  ·exact h r.name (qE.2 ⟨r,List.mem_filter.2 ⟨e,j⟩,rfl⟩)
  ·obtain⟨⟨⟨n,m⟩,p⟩,q⟩:=c a d;obtain⟨r,e,b⟩:=(s a).1 n;exact lF.2 ⟨r,e,by simpa using b⟩
 ·rintro⟨c,h⟩;refine⟨fun a d=> ?_,fun nm x=> ?_⟩
  ·obtain⟨r,e,b⟩:=lF.1 (h a d);have b:a.name=r.name:=by simpa using b
   obtain⟨n,m,p⟩:=(o r).1 (c r e);obtain⟨q,z⟩:=n a d b;refine⟨⟨⟨(s a).2 ⟨r,e,b⟩,by rw[b,zZ k r e];exact q⟩,by simpa using z⟩,by rw[b];exact bN m⟩
  ·obtain⟨r,e,rfl⟩:=qE.1 x;obtain⟨e,j⟩:=List.mem_filter.1 e;exact((o r).1 (c r e)).2.2 j
end Go.Proofs.YtlemddnecmmfgaaGreatDoor
namespace Go.Proofs.YtlemddnecmmfgaaGreatDoor
open Go.RowKit
def ZA(W:aaK)(a:aaL)(q:Bs→Bool):Prop:=∃(f:FuncId) (first:Array aaL),a=.func (.func f) first #[]∧(∀(vs:Array aaL) (w:aaK),(callFunc f vs).run Tryz.prog w=.ok (.enter f vs) w)∧
 ∀W',Below W.heap.size W W'→∀v:Bs,Calls Tryz.prog f (first.push (.string ⟨v.toArray⟩)) W' fun e w'=>e=.returned (.bool (q v))∧w'=W'
structure Tl (W:aaK) (b o:Nat) (r:ep):Prop where
 c0:W.cell? ⟨b,o,none⟩=some (.string ⟨r.name.toArray⟩)
 c1:W.cell? ⟨b,o+1,none⟩=some (.bool r.XH)
 c2:∃fv,W.cell? ⟨b,o+2,none⟩=some fv∧ZA W fv r.may
def gw(W:aaK)(v:aaL)(rs:List ep):Prop:=(rs=[]∧v=.slice none 0 0)∨∃b,v=.slice (some ⟨b,0,none⟩) rs.length rs.length∧b<W.heap.size∧∀(i:Nat) (r:ep),rs[i]? =some r→Tl W b (i*3) r
theorem gw.next{W W':aaK}{v:aaL}{rs:List ep}(h:gw W v rs)(a:Below W.heap.size W W'):gw W' v rs:=by
 rcases h with h|⟨b,n,c,o⟩
 ·exact .inl h
 ·refine .inr ⟨b,n,ej c a.size,fun i r x=> ?_⟩;obtain⟨e,j,l,k,f,first,q,s,u⟩:=o i r x;exact⟨(a.cell (p:=⟨b,i*3,none⟩) c).t e,(a.cell (p:=⟨b,i*3+1,none⟩) c).t j,l,(a.cell (p:=⟨b,i*3+2,none⟩) c).t k,f,first,q,s,fun d w=>u d (a.t (w.m a.size))⟩
def Na(w:aaK)(k:Int):Ending→aaK→Prop:=fun e w'=>Below w.heap.size w w'∧∃v,e=.returned v∧gw w' v (dM k)
theorem sk(W:aaK):ZA W (.func (.func 124) #[] #[]) sn:=⟨_,#[],rfl,fun vs w=>cP Tryz.func124 (by kernel_rfl) rfl vs w,fun W' _ v=>Kr v W'⟩
theorem Nb(W:aaK):ZA W (.func (.func 126) #[] #[]) (fun _=>true):=⟨_,#[],rfl,fun vs w=>cP Tryz.func126 (by kernel_rfl) rfl vs w,fun W' _ v=>MW v W'⟩
theorem Jf(W:aaK){ls:List Bs}{a:Option Addr}{c:Nat}(h:cg W (.slice a ls.length c) ls)(d:ls.length≤1000):ZA W (.func (.func 125) #[.slice a ls.length c] #[]) (fun v=>ls.any (v==·)):=
 ⟨_,#[.slice a ls.length c],rfl,fun vs w=>cP Tryz.func125 (by kernel_rfl) rfl vs w,fun W' b v=>M5 ls v d a c W' (h.below b)⟩
def qX:List (ep×aaL)→List aaL
 |[]=>[]
 |p::r=>[.string ⟨p.1.name.toArray⟩,.bool p.1.XH,p.2]++qX r
theorem wY:∀{l:List (ep×aaL)} {i:Nat} {p:ep×aaL},l[i]? =some p→(qX l)[i*3]? =some (.string ⟨p.1.name.toArray⟩)∧(qX l)[i*3+1]? =some (.bool p.1.XH)∧(qX l)[i*3+2]? =some p.2
 |[],_,_,h=>by simp at h
 |q::r,0,p,h=>by simp at h;subst h;exact⟨rfl,rfl,rfl⟩
 |q::r,i+1,p,h=>by
  obtain⟨a,b,c⟩:=wY (l:=r) (i:=i) (p:=p) (by simpa using h);rw[qX];refine⟨?_, ?_, ?_⟩
  ·rw[jL (by show 3≤_;omega)];rw[←a];congr 1;show(i+1)*3-3=_;omega
  ·rw[jL (by show 3≤_;omega)];rw[←b];congr 1;show(i+1)*3+1-3=_;omega
  ·rw[jL (by show 3≤_;omega)];rw[←c];congr 1;show(i+1)*3+2-3=_;omega
theorem pV(W:aaK)(T:TypeId)(l:List (ep×aaL)){rs:List ep}(j:l.map (·.1)=rs)(h:∀p∈l,ZA (W.alloc (.cells (qX l).toArray T)) p.2 p.1.may):gw (W.alloc (.cells (qX l).toArray T)) (.slice (some ⟨W.heap.size,0,none⟩) rs.length rs.length) rs:=by refine .inr ⟨W.heap.size,rfl,by rw[aO];omega,fun i r b=> ?_⟩;rw[←j,uI] at b;obtain⟨p,a,rfl⟩:=qG.1 b;obtain⟨c,d,e⟩:=wY a;exact⟨bH W _ _ _ _ (by simpa using c),bH W _ _ _ _ (by simpa using d),p.2,bH W _ _ _ _ (by simpa using e),h p (eQ a)⟩
theorem az(W:aaK)(O:Obj):Below W.heap.size W (W.alloc O):=(ar _ _).alloc (ag _) _
theorem F9(k:Int)(w:aaK):Calls Tryz.prog 86 #[.int .i64 k] w (Na w k):=by
 have r:∀(fn:Fn) (first cap:Array aaL) (w:aaK),(Instr.makeFunc fn first cap).run Tryz.prog w=.ok (.func fn first cap) w:=fun _ _ _ _=>rfl;by_cases b:k=3
 ·subst b;go_enter Tryz.func86,Tryz.ntmps86;go_wp2_with fail;go_ret;have i:=kN w [iJ] 1 (by decide);have h:=pV (w.alloc (.cells #[.string ⟨#[99,111,110,116,105,110,117,101]⟩] 9)) 191 [(⟨lC,true,sn⟩,.func (.func 124) #[] #[]),(⟨lD,false,sn⟩,.func (.func 124) #[] #[]),(⟨dj,false,fun v=>[iJ].any (v==·)⟩,.func (.func 125) #[.slice (some ⟨w.heap.size,0,none⟩) 1 1] #[])] (rs:=dM 3) rfl (fun p a=>by
   simp only[bL,uK,or_false] at a;rcases a with rfl|rfl|rfl
   ·exact sk _
   ·exact sk _
   ·exact Jf _ (ls:=[iJ]) (i.below (az _ _)) (by decide))
  rw[aO] at h;exact⟨(az _ _).t ((az _ _).m (by rw[aO];omega)),_,rfl,h⟩
 ·have j:=eS b;by_cases c:k=4
  ·subst c;clear b j;go_enter Tryz.func86,Tryz.ntmps86;go_wp2_with fail;go_ret;have i:=kN w [Da,Tm] 2 (by decide);have h:=pV (w.alloc (.cells #[.string ⟨#[121,101,115]⟩,.string ⟨#[110,111]⟩] 9)) 191 [(⟨kO,true,sn⟩,.func (.func 124) #[] #[]),(⟨eN,false,fun v=>[Da,Tm].any (v==·)⟩,.func (.func 125) #[.slice (some ⟨w.heap.size,0,none⟩) 2 2] #[])] (rs:=dM 4) rfl (fun p a=>by
    simp only[bL,uK,or_false] at a;rcases a with rfl|rfl
    ·exact sk _
    ·exact Jf _ (ls:=[Da,Tm]) (i.below (az _ _)) (by decide))
   rw[aO] at h;exact⟨(az _ _).t ((az _ _).m (by rw[aO];omega)),_,rfl,h⟩
  ·have l:=eS c;by_cases d:k=6
   ·subst d;clear b c j l;go_enter Tryz.func86,Tryz.ntmps86;go_wp2_with fail;go_ret;have h:=pV w 191 [(⟨qH,true,fun _=>true⟩,.func (.func 126) #[] #[])] (rs:=dM 6) rfl (fun p a=>by rw[fj.1 a];exact Nb _);exact⟨az _ _,_,rfl,h⟩
   ·have q:=eS d;by_cases e:k=11
    ·subst e;clear b c d j l q;go_enter Tryz.func86,Tryz.ntmps86;go_wp2_with fail;go_ret;have h:=pV w 191 [(⟨gT,true,sn⟩,.func (.func 124) #[] #[])] (rs:=dM 11) rfl (fun p a=>by rw[fj.1 a];exact sk _);exact⟨az _ _,_,rfl,h⟩
    ·have s:=eS e;have n:=ad (show dM k=[] by unfold dM;rw[ae b,ae c,ae d,ae e]);clear b c d e;go_enter Tryz.func86,Tryz.ntmps86;go_wp2_with fail;go_ret;exact⟨ar _ _,_,rfl,.inl ⟨n.o,rfl⟩⟩
