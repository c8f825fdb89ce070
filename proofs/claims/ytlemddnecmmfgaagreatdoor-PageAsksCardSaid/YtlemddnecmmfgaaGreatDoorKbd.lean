/- The maker of a page in memory. -/
import Derived.Test.YtlemddnecmmfgaaGreatDoorKbc
set_option linter.unusedVariables false
namespace Go.Proofs.YtlemddnecmmfgaaGreatDoor
open Go.Lib
variable{i:Bs}{x I:Cm}{z:Deep}{b d j:Nat}{e:PS}{B:U→Nd→PS→Nat→PS×Oc}{N:fx}
theorem Az(s:Bs):∀k i,(mQ s k i).length≤k
 |0,_=>ag _
 |k+1,i=>by
  unfold mQ;split
  ·exact aH _
  ·have:=Az s k;rw[bF];exact Nat.succ_le_succ (this _)
theorem nD(s:Bs):(dd s).length≤s.length+1:=by unfold dd;rw[jo];exact Az s _ _
theorem uU(l:List Bs):∀a:List (Bs×Bs×Bool),(gh l a).length≤l.length+a.length:=by
 intro a;induction a generalizing l with
 |nil=>exact ag _
 |cons u r b=>
  have:=b (lQ l (eT u.1 u.2.1 u.2.2));have c:(lQ l (eT u.1 u.2.1 u.2.2)).length≤l.length+1:=by unfold lQ;split<;>simp
  show(gh (lQ l (eT u.1 u.2.1 u.2.2)) r).length≤_;rw[bF];omega
def bV(a:List bQ):Nat:=(a.map fun x=>2*x.val.length+1).sum
mutual
def wN:Nd→Nat
 |.mk _ _ t a l=>t.length+3+bV a+wL l
def wL:List Nd→Nat
 |[]=>0
 |x::r=>wN x+wL r
end
def ie:Nat:=1000000
mutual
def sy:Nd→Prop
 |.mk k _ t a l=>t.length≤65536∧a.length≤1000000∧(∀x∈a,x.val.length≤65536)∧l.length≤1000000∧(k=7→2≤l.length)∧DN l
def DN:List Nd→Prop
 |[]=>True
 |x::r=>sy x∧DN r
end
theorem DN.get:∀{l:List Nd} {x:Nd},DN l→x∈l→sy x
 |y::r,x,h,a=>by
  rw[DN] at h;rcases bL.1 a with rfl|a
  ·exact h.1
  ·exact DN.get h.2 a
theorem JA:∀{l:List Nd},(∀x,x∈l→sy x)→DN l
 |[],_=>by rw[DN];trivial
 |y::r,h=>by rw[DN];exact⟨h y (by simp),JA fun x a=>h x (by simp[a])⟩
structure bq (inc:Nat) (S:PS) (w:Nat):Prop where
 reads:S.reads.length+w+(inc-S.aU)*ie≤90000000
 work:S.work+w+(inc-S.aU)*ie≤90000000
 inl:∀x∈S.inl,x.2.length≤65536
 asked:S.asked.length≤S.aU
 aU:S.aU≤inc
theorem bq.less{w w':Nat}(h:bq b e w)(a:w'≤w):bq b e w':=
 ⟨by have:=h.reads;omega,by have:=h.work;omega,h.inl,h.asked,h.aU⟩
theorem bq.step{a:Nat}{S:PS}{w:Nat}(h:bq a S (w+1)):bq a S.step w:=
 ⟨by have:=h.reads;show S.reads.length+w+_≤_;show S.reads.length+w+(a-S.aU)*ie≤_;omega,by have:=h.work;show S.work+1+w+(a-S.aU)*ie≤_;omega,h.inl,h.asked,h.aU⟩
theorem bq.read{a:Nat}{S:PS}{w:Nat}{b:List (Bs×Bs×Bool)}(h:bq a S (b.length+w)):bq a (S.read b) w:=
 ⟨by have:=h.reads;have:=uU S.reads b;show(gh S.reads b).length+w+(a-S.aU)*ie≤_;omega,by have:=h.work;show S.work+w+(a-S.aU)*ie≤_;omega,h.inl,h.asked,h.aU⟩
theorem bq.more(h:bq b e d)(k:e.aU<b):bq b {e with aU:=e.aU+1} (ie+d):=by
 obtain⟨a,j⟩:∃a,b=e.aU+1+a:=⟨b-(e.aU+1),by omega⟩;have c:b-e.aU=a+1:=by omega
 have i:b-(e.aU+1)=a:=by omega
 refine⟨?_, ?_,h.inl,by have:=h.asked;show e.asked.length≤e.aU+1;omega,by show e.aU+1≤b;omega⟩
 ·have:=h.reads;rw[c,Nat.add_mul,Nat.one_mul] at this;show e.reads.length+(ie+d)+(b-(e.aU+1))*ie≤_;rw[i];omega
 ·have:=h.work;rw[c,Nat.add_mul,Nat.one_mul] at this;show e.work+(ie+d)+(b-(e.aU+1))*ie≤_;rw[i];omega
def kV(b w:Nat)(c:Cm):Prop:=∀S a r,bq b S (w+r)→bq b (c S a).1 r
theorem kV.m(h:kV b d x)(i:d≤j):kV b j x:=fun S a r e=>h S a r (e.less (by omega))
theorem kV.seq(i:kV b d x)(k:kV b j I):kV b (d+j) (K9 x I):=fun S a r l=>by
 have e:=i S a (j+r) (by rw[←oh];exact l);unfold K9;revert e;obtain⟨h,o⟩:=x S a;cases o with
 |yes t=>intro e;have m:=k h (a+t.length) r e;revert m;dsimp only;obtain⟨n,o2⟩:=I h (a+t.length);cases o2<;>exact id
 |no=>exact fun e=>e.less (by omega)
 |wait=>exact fun e=>e.less (by omega)
theorem kV.Tu(i:kV b d x)(k:kV b j I):kV b (d+j) (RE x I):=fun S a r l=>by
 have e:=i S a (j+r) (by rw[←oh];exact l);unfold RE Au;revert e;obtain⟨h,o⟩:=x S a;cases o with
 |yes t=>exact fun e=>e.less (by omega)
 |no=>exact fun e=>k h a r e
 |wait=>exact fun e=>e.less (by omega)
theorem kV.step{b w:Nat}{c:Cm}(h:kV b w c):kV b (w+1) (fun S a=>c S.step a):=fun S a r d=>h S.step a r (bq.step (by rw[show w+r+1=w+1+r by omega];exact d))
theorem kV.same{c w:Nat}(o:PS→Nat→Oc):kV c w (fun S a=>(S,o S a)):=fun S a r b=>b.less (by omega)
theorem RF(P:fx)(vs:Bool)(t:Bs):kV P.inc (t.length+1) (fun S a=>lS P vs t S a):=fun S a r b=>by
 show bq P.inc (lS P vs t S a).1 r;unfold lS;have d:=nD t;have c:bq P.inc (S.read (dd t)) r:=bq.read (b.less (by omega));split
 ·exact b.less (by omega)
 ·split
  ·exact c
  ·exact c
theorem Uk{base:U}{a:List bQ}(d:i.length≤65536):kV b 0 (fun S _=>(lV base a i S,.yes [])):=fun S n r c=>by
 show bq b (lV base a i S) r;rw[dH] at c;unfold lV;split
 ·refine⟨c.reads,c.work,fun x e=> ?_,c.asked,c.aU⟩;rcases gZ.1 e with h|h
  ·exact c.inl x h
  ·rw[fj.1 h];exact d
 ·exact c
def Rv(P:fx)(deep:Deep):Prop:=∀f,deep=some f→∀u b,(gW b).2.2=0→kV P.inc ie (fun S a=>f u (gW b).1 S a)
theorem Ok(d:∀u b,(gW b).2.2=0→kV N.inc ie (fun S a=>B u (gW b).1 S a))(u:U)(g:j5):kV N.inc ie (fun S a=>zx B u S a g):=fun S a r c=>by
 show bq N.inc (zx B u S a g).1 r;unfold zx;split
 ·exact c.less (by omega)
 split
 ·exact c.less (by omega)
 split
 ·exact c.less (by omega)
 ·rename_i h;exact d u g.body (Decidable.of_not_not h) S a r c
theorem DR(i:Rv N z)(base:U)(s:Bs):kV N.inc (s.length+1) (fun S a=>gB N z base S a s):=fun S a r k=>by
 show bq N.inc (gB N z base S a s).1 r;have l:=nD s;have c:bq N.inc (S.read (dd s)) r:=bq.read (k.less (by omega));unfold gB;dsimp only;generalize S.read (dd s)=b at c⊢;split
 ·exact c
 split
 ·exact c
 rename_i h;have j:b.aU<N.inc:=by
  have:=c.aU;by_cases q:N.inc≤b.aU
  ·exact absurd (.inr q) h
  ·omega
 split
 ·exact c
 rename_i f;have d:=c.more j;unfold zw;split
 ·exact Ok (i f rfl) _ _ _ a r d
 ·have e:∀u,bq N.inc {{b with aU:=b.aU+1} with asked:=b.asked++[u]} (ie+r):=fun u=>⟨d.reads,d.work,d.inl,by show(b.asked++[u]).length≤b.aU+1;rw[bB];have:=c.asked;simp;omega,d.aU⟩
  split
  ·exact(e _).less (by omega)
  ·exact Ok (i f rfl) _ _ _ a r (e _)
def BS:Option Bs→Nat
 |none=>0
 |some s=>s.length+1
theorem Ol(b:Rv N z)(base:U)(o:Option Bs):kV N.inc (BS o) (fun S a=>DQ N z base S a o):=by
 cases o with
 |none=>exact kV.same (fun _ _=>.no)
 |some s=>exact DR b base s
theorem nF(a:bQ)(l:List bQ)(nm:Bs):bG (a::l) nm=if a.name==nm then some a.val else bG l nm:=by
 unfold bG;rw[uH];split
 ·rename_i h;rw[ah h];rfl
 ·rename_i h;rw[ae (by rw[h];exact Bool.false_ne_true)]
theorem kW(a:bQ)(l:List bQ):bV (a::l)=2*a.val.length+1+bV l:=by simp[bV]
theorem Om(nm:Bs):∀l:List bQ,BS (bG l nm)≤bV l
 |[]=>aH _
 |a::r=>by
  have:=Om nm r;rw[nF,kW];split
  ·show a.val.length+1≤_;omega
  ·omega
theorem N2{n1 n2:Bs}(d:n1≠n2):∀l:List bQ,BS (bG l n1)+BS (bG l n2)≤bV l
 |[]=>aH _
 |a::r=>by
  have:=N2 d r;have e:=Om n1 r;have h:=Om n2 r;rw[nF,nF,kW];by_cases c:(a.name==n1)=true
  ·by_cases b:(a.name==n2)=true
   ·exact absurd ((bZ.1 c).symm.t (bZ.1 b)) d
   ·rw[ah c,ae b];show a.val.length+1+_≤_;omega
  ·rw[ae c];by_cases b:(a.name==n2)=true
   ·rw[ah b];show _+(a.val.length+1)≤_;omega
   ·rw[ae b];omega
theorem RG(b:Rv N z)(base:U)(l:List bQ):kV N.inc (bV l) (fun S a=>oQ N z base l S a):=by rw[B6];exact((Ol b base _).Tu ((Ol b base _).Tu (kV.same (w:=0) fun _ _=>if(bG l dj).isSome then .yes [] else .no))).m (by have:=N2 (n1:=lC) (n2:=lD) (by decide) l;omega)
theorem Jw(x:Ex):cC x≤cu x:=by
 refine Ex.ind (P:=fun x=>cC x≤cu x) (fun k t u l a=> ?_) x;rw[cC,cu];have:j6 l≤jc l:=by
  clear k t u;induction l with
  |nil=>rw[j6];exact aH _
  |cons y r c=>rw[j6,jc];have d:=a y (by simp);have e:=c fun z b=>a z (by simp[b]);omega
 omega
theorem As(P:fx)(l:List bQ)(h:(gd l).2.2=0):(cT (bt (gr P.h P.t P.fs) (gd l).1).2).length≤bV l:=by
 have b:=nG (gr P.h P.t P.fs) (gd l).1;have c:=Jw (gd l).1;have d:cu (gd l).1≤2*((bG l gT).getD []).length:=(At h).2;have e:2*((bG l gT).getD []).length≤bV l:=by
  clear h b c d;induction l with
  |nil=>exact aH _
  |cons a r i=>
   rw[nF,kW];split
   ·show 2*a.val.length≤_;omega
   ·omega
 unfold cT;rw[jo];omega
theorem RH{l:List bQ}(k:kV N.inc b x)(e:kV N.inc d I):kV N.inc (bV l+1+b+d) (AA N l x I):=fun S a r m=>by
 unfold AA;have i:bq N.inc S.step (bV l+b+d+r):=bq.step (m.less (by omega));by_cases h:(gd l).2.2≠0
 ·rw[ah h];exact e _ _ _ (i.less (by omega))
 ·rw[ae h];have n:=As N l (Decidable.of_not_not h);have j:bq N.inc (S.step.read (cT (bt (gr N.h N.t N.fs) (gd l).1).2)) (b+d+r):=bq.read (i.less (by omega));split
  ·exact k _ _ _ (j.less (by omega))
  ·exact e _ _ _ (j.less (by omega))
theorem Jy(x:Nd):bV x.attrs+3+wL x.kids≤wN x:=by obtain⟨k,p,t,a,l⟩:=x;rw[wN];show bV a+3+wL l≤_;omega
theorem JB(I:Rv N z)(base:U)(n:Nd):sy n→(∀vs,kV N.inc (wN n) (fun S a=>bT N z base n vs S a))∧∀vs,kV N.inc (wL n.kids) (fun S a=>oT N z base n vs S a):=by
 refine Nd.ind (P:=fun n=>sy n→(∀vs,kV N.inc (wN n) (fun S a=>bT N z base n vs S a))∧∀vs,kV N.inc (wL n.kids) (fun S a=>oT N z base n vs S a)) (fun k p t a l G D=> ?_) n;rw[sy] at D;obtain⟨J,u1,u2,u3,u4,E⟩:=D;clear u1 u2 u3 u4;have b:∀x,x∈l→(∀vs,kV N.inc (wN x) (fun S a=>bT N z base x vs S a))∧∀vs,kV N.inc (wL x.kids) (fun S a=>oT N z base x vs S a):=fun x F=>G x F (E.get F);clear G E;have e:∀vs,kV N.inc (wL l) (fun S a=>dJ N z base l vs S a):=fun vs=>by
  induction l with
  |nil=>simp only[AB];exact kV.same (fun _ _=>.yes [])
  |cons x r i=>rw[rm,wL];exact((b x (by simp)).1 vs).seq (i fun y d=>b y (by simp[d]))
 have B:∀(l:List Nd) vs,(∀x,x∈l→∀vs,kV N.inc (wN x) (fun S a=>bT N z base x vs S a))→kV N.inc (wL l) (fun S a=>qJ N z base l vs S a):=fun l vs h=>by
  cases l with
  |nil=>simp only[AD];exact kV.same (fun _ _=>.no)
  |cons x r=>simp only[xC];rw[wL];exact(h x (by simp) vs).m (by omega)
 have C:∀vs,kV N.inc (wL l) (fun S a=>ot N z base l vs S a):=fun vs=>by
  cases l with
  |nil=>simp only[AE];exact kV.same (fun _ _=>.no)
  |cons x r=>rw[rp,wL];exact((b x (by simp)).1 vs).Tu (B r vs fun y d=>(b y (by simp[d])).1)
 have H:∀vs,kV N.inc (wL l) (fun S a=>eK N z base l vs S a):=fun vs=>by
  clear e C B;induction l with
  |nil=>simp only[AF];exact kV.same (fun _ _=>.yes [])
  |cons x r i=>
   rw[wL];by_cases h:x.kind=12
   ·simp only[vf _ _ _ x r vs h];exact((b x (by simp)).1 vs).m (by omega)
   ·rw[rq _ _ _ x r vs h];exact(RH ((b x (by simp)).2 vs) (i fun y d=>b y (by simp[d]))).m (by have:=Jy x;omega)
 refine⟨fun vs=> ?_,fun vs=>by simp only[xx];exact e vs⟩;have key:∀{w:Nat} {c:Cm},kV N.inc w c→w+1≤t.length+3+bV a+wL l→kV N.inc (wN (.mk k p t a l)) (fun S n=>c S.step n):=fun h K=>by rw[wN];exact h.step.m K
 simp only[xy];by_cases o:k=2
 ·simp only[ah o];exact key (RF N vs t) (by omega)
 simp only[ae o];by_cases s:k=4
 ·simp only[ah s];exact key (Uk (base:=base) (a:=a) J) (by omega)
 simp only[ae s];by_cases u:k=5∨k=6
 ·simp only[ah u];exact key (w:=0) (kV.same (fun _ _=>.yes [])) (by omega)
 simp only[ae u];by_cases q:k=3
 ·simp only[ah q];exact key (RG I base a) (by omega)
 simp only[ae q];by_cases A:k=7
 ·simp only[ah A];exact key (C vs) (by omega)
 simp only[ae A];by_cases j:k=10
 ·simp only[ah j];exact key (H vs) (by omega)
 simp only[ae j];exact key (e _) (by omega)
def RJ(c:Cm):Prop:=∀S a b t,a≤262144→c S a=(b,.yes t)→a+t.length≤262144
theorem tY{d:PS}{c:Bs}(h:(e,jq i b)=(d,Oc.yes c)):b+c.length≤262144:=by
 unfold jq at h;split at h
 ·cases h
 ·rename_i q;injection h with _ h;injection h with h;subst h;exact Nat.le_of_not_lt q
def Ul(deep:Deep):Prop:=∀f,deep=some f→∀u n,RJ (fun S a=>f u n S a)
theorem JC(d:∀u n,RJ (fun S a=>B u n S a))(u:U)(g:j5):RJ (fun S a=>zx B u S a g):=fun S a b t c h=>by
 have h:zx B u S a g=(b,.yes t):=h;unfold zx at h;split at h
 ·cases h
 split at h
 ·exact tY h
 split at h
 ·cases h
 ·exact d _ _ S a b t c h
theorem AG(P:fx)(base:U)(i:Ul z):JD P P z z base (fun c _=>RJ c) where
 nil:=fun S a e t b h=>by injection h with _ h;injection h with h;rw[←h];exact b
 no:=fun S a e t b h=>by cases h
 step:=fun k S a e t b h=>k S.step a e t b h
 text:=fun vs t S a e j b h=>by
  have h:lS P vs t S a=(e,.yes j):=h;unfold lS at h;split at h
  ·exact tY h
  ·split at h
   ·cases h
   ·exact tY h
 inl:=fun a t S n e j b h=>by injection h with _ h;injection h with h;rw[←h];exact b
 Tv:=fun s S a e t b h=>by
  replace h:gB P z base S a s=(e,.yes t):=h;unfold gB at h;dsimp only at h;split at h
  ·cases h
  split at h
  ·cases h
  split at h
  ·cases h
  rename_i f;unfold zw at h;split at h
  ·exact JC (i f rfl) _ _ _ a e t b h
  split at h
  ·cases h
  ·exact JC (i f rfl) _ _ _ a e t b h
 seq:=fun{c _ d _} k i S a e t b h=>by
  unfold K9 at h;have p:=k S a;revert h;cases hq:c S a with
  |mk m o=>
   cases o with
   |yes j=>
    have q:=p m j b hq;dsimp only;have u:=i m (a+j.length);cases w:d m (a+j.length) with
    |mk r o2=>
     cases o2 with
     |yes x=>have y:=u r x q w;intro h;injection h with _ h;injection h with h;rw[←h,bB];omega
     |no=>intro h;cases h
     |wait=>intro h;cases h
   |no=>intro h;cases h
   |wait=>intro h;cases h
 Tu:=fun{c _ d _} k i S a e t b h=>by
  unfold RE Au at h;have p:=k S a;revert h;cases hq:c S a with
  |mk m o=>
   cases o with
   |yes j=>have q:=p m j b hq;intro h;injection h with _ h;injection h with h;rw[←h];exact q
   |no=>exact fun h=>i m a e t b h
   |wait=>intro h;cases h
 test:=fun l {c _ d _} k i S a e t b h=>by
  unfold AA at h;split at h
  ·exact i _ a e t b h
  split at h
  ·exact k _ a e t b h
  ·exact i _ a e t b h
structure DM (P:fx) (deep:Deep) (base:U):Prop where
 room:∀x,sy x→∀vs S a w,bq P.inc S (wN x+w)→bq P.inc (bT P deep base x vs S a).1 w
 fit:∀x vs S a S1 t,a≤262144→bT P deep base x vs S a=(S1,.yes t)→a+t.length≤262144
theorem On(c:Rv N z)(d:Ul z)(base:U):DM N z base:=
 ⟨fun x i vs S a w h=>(JB c base x i).1 vs S a w h,fun x vs S a b t e h=>(vg (AG N base d) x).1 vs S a b t e h⟩
variable{b a:Bs}{J:Ex}{p:Int}{E:List Tok}{w:List bQ}{d n e:Nat}{i:Nd}{H:Option (Nat×Int)}{D:Option (Nat→cG)}{O:Tok}{j q:rf}
def GQ(t:Tok):Nat:=t.text.length+4+bV t.attrs
def jd(l:List Tok):Nat:=(l.map GQ).sum
theorem iM:jd []=0:=rfl
theorem gE(t:Tok)(l:List Tok):jd (t::l)=GQ t+jd l:=by simp[jd]
theorem tZ(a b:List Tok):jd (a++b)=jd a+jd b:=by simp[jd]
theorem La(a b:List bQ):bV (a++b)=bV a+bV b:=by simp[bV]
def nH(n:Nat)(l:List bQ):Prop:=∀a∈l,a.val.length≤n
structure ru (n:Nat) (t:Tok):Prop where
 Lb:nH n t.attrs
 sr:t.text.length≤n
theorem Oo{a:bQ}(h:fU b d n w=.aq a e):n+a.val.length+3≤e:=by
 unfold fU at h;dsimp only at h
 repeat' split at h
 all_goals first
  |(cases h;done)
  |(cases h;dsimp only;omega)
theorem AH{s:Bs}{tag:Nat}(n:tag≤s.length):∀(f i:Nat) (l:List bQ) {d:List bQ} {j:Nat},i≤s.length→nH s.length l→cE s tag f i l=.aq d j→bV d+2*i≤bV l+2*j∧nH s.length d
 |0,i,l,d,j,_,_,h=>by unfold cE at h;cases h
 |f+1,i,l,d,j,p,m,h=>by
  have y:=jP s p;have q:=cY s i;unfold cE at h;dsimp only at h;split at h
  ·cases h
  ·split at h
   ·cases h;exact⟨by omega,m⟩
   ·split at h
    ·cases h
    ·split at h
     ·cases h
     ·rename_i a t k;have x:=Oo k;have e:=tL (s:=s) (tag:=tag) (i:=pa s i) (l:=l) n q;rw[k] at e;have o:=e.2;obtain⟨r,u⟩:=AH n f t (l++[a]) o (fun b c=>by
       rcases gZ.1 c with c|c
       ·exact m b c
       ·rw[fj.1 c];omega) h
      rw[La,kW] at r;have w:bV ([]:List bQ)=0:=rfl;exact⟨by omega,u⟩
theorem D5(s:Bs)(i j:Nat):(GO s i j).length≤j-i:=by unfold GO;rw[gu];omega
theorem qe(s:Bs)(k:Int)(nm:Bs)(l:List bQ)(i j:Nat):GQ (cS s k nm l i j)≤j-i+4+bV l:=by have:=D5 s i j;show(GO s i j).length+4+bV l≤_;omega
theorem qf{i j:Nat}(d:j≤b.length)(c:nH b.length w):ru b.length (cS b p a w i j):=
 ⟨c,by have:=D5 b i j;show(GO b i j).length≤_;omega⟩
theorem kB(n:Nat):nH n []:=fun a h=>by cases h
theorem D6{j:Nat}(i:nH b.length w)(h:gv b d a w p j=.aq O n):GQ O≤n-d+4+bV w∧ru b.length O∧n=j+1:=by
 unfold gv at h;split at h
 ·cases h
 ·rename_i c r e;split at h
  ·cases h;exact⟨qe _ _ _ _ _ _,qf (by have:=ku e;omega) i,rfl⟩
  ·cases h
theorem Um(x:d≤n)(p:n≤b.length)(h:qw b d a n=.aq O e):GQ O+3*d≤3*e+4∧ru b.length O:=by
 unfold qw at h;split at h
 ·cases h
 ·rename_i l j o;obtain⟨w,k⟩:=AH (by omega) _ _ _ p (kB _) o;have u:bV ([]:List bQ)=0:=rfl;split at h
  ·obtain⟨q,c,r⟩:=D6 k h;exact⟨by omega,c⟩
  ·obtain⟨q,c,r⟩:=D6 k h;exact⟨by omega,c⟩
theorem RL(k:d≤b.length)(j:n≤b.length)(h:iU b a d n=.aq O e):GQ O+n≤e+4∧ru b.length O∧n≤e:=by
 have c:=wU (nm:=a) k j;rw[h] at c;unfold iU at h;dsimp only at h;split at h
 ·cases h
 ·split at h
  ·cases h
  ·cases h;have o:=qe b 7 [] [] n (n+(index (b.drop n) (bD++a)).toNat);have l:bV ([]:List bQ)=0:=rfl;exact⟨by omega,qf c.2 (kB _),c.1⟩
theorem sD(h:ru d O):∀u∈[O],ru d u:=fun u a=>by rw[fj.1 a];exact h
theorem Oq(y:d+5≤b.length)(h:dB b d=.aq E n):jd E+8*d≤8*n∧∀t∈E,ru b.length t:=by
 unfold dB at h;dsimp only at h;split at h
 ·split at h
  ·cases h
  ·rename_i t j o;have p:=iI b y;obtain⟨z,l⟩:=Um (by omega) p o;have a:oH b.length _ (qw b d _ _):=wT (s:=b) (tag:=d) (nm:=(b.drop (d+5)).take (db b (d+5))) (i:=d+5+db b (d+5)) (by omega) p;rw[o] at a;have A:=a.1;have q:=a.2;split at h
   ·split at h
    ·cases h
    ·rename_i r k x;obtain⟨B,w,C⟩:=RL (by omega) q x;cases h;refine⟨by rw[gE,gE,iM];omega,fun u c=> ?_⟩;rcases bL.1 c with e|c
     ·rw[e];exact l
     ·rw[fj.1 c];exact w
   ·cases h;exact⟨by rw[gE,iM];omega,sD l⟩
 ·cases h
theorem Lc(e:d+6≤b.length)(h:de b d=.aq E n):jd E+8*d≤8*n∧∀t∈E,ru b.length t:=by
 have a:=wV e;rw[h] at a;unfold de at h;dsimp only at h;split at h
 ·split at h
  ·cases h
  ·rename_i c r l;split at h
   ·cases h;have j:=qe b 4 ((b.drop (d+6)).take (db b (d+6))) [] d (pa b (d+6+db b (d+6))+1);have i:bV ([]:List bQ)=0:=rfl;have k:=a.1;exact⟨by rw[gE,iM];omega,sD (qf a.2 (kB _))⟩
   ·cases h
 ·cases h
theorem Ot{hid:Option Nat}{x:List Tok×Option Nat}(k:d<b.length)(u:dw (b.drop d) hid.isSome≠0)(h:fq b (dw (b.drop d) hid.isSome) d hid=.aq x n):jd x.1+8*d≤8*n∧∀t∈x.1,ru b.length t:=by
 obtain⟨o,p,q,r,B⟩:=pS (hid:=hid.isSome) k;have w:bV ([]:List bQ)=0:=rfl;unfold fq at h;split at h
 ·rename_i a;split at h
  ·cases h
  ·rename_i l j c;cases h;exact Oq (o a) c
 ·split at h
  ·rename_i a;split at h
   ·cases h
   ·rename_i l j c;cases h;exact Lc (p a) c
  ·split at h
   ·rename_i a;split at h
    ·cases h
    ·cases h;have e:=qe b 5 [] [] d (d+8);exact⟨by show jd [cS b 5 [] [] d (d+8)]+_≤_;rw[gE,iM];omega,sD (qf (q a) (kB _))⟩
   ·rename_i y z A;cases h;have e:=qe b 6 [] [] d (d+3);exact⟨by show jd [cS b 6 [] [] d (d+3)]+_≤_;rw[gE,iM];omega,sD (qf (r (by omega)) (kB _))⟩
theorem Ou{s:Bs}(e:d≤n)(a:n≤s.length):jd (dc s d n)+8*d≤8*n∧∀t∈dc s d n,ru s.length t:=by
 unfold dc;split
 ·have c:=qe s 1 [] [] d n;have h:bV ([]:List bQ)=0:=rfl;exact⟨by rw[gE,iM];omega,sD (qf a (kB _))⟩
 ·exact⟨by rw[iM];omega,fun u b=>by simp at b⟩
theorem B7(s:Bs):∀(f src i:Nat) (hid:Option Nat) (l:List Tok) {b:List Tok} {m:Nat},src≤i→i≤s.length→(∀t∈l,ru s.length t)→gS s f src i hid l=.aq b m→jd b+8*src≤jd l+8*s.length∧∀t∈b,ru s.length t
 |0,src,i,hid,l,b,m,_,_,_,h=>by unfold gS at h;cases h
 |f+1,src,i,hid,l,b,m,r,q,c,h=>by
  unfold gS at h;dsimp only at h;obtain⟨z,n⟩:=Ou (s:=s) r q;split at h
  ·rename_i d;split at h
   ·exact B7 s f src (i+1) hid l (by omega) d c h
   ·rename_i e;split at h
    ·cases h
    ·rename_i x j o;obtain⟨y,p⟩:=Ot d e o;have k:=mH d e;rw[o] at k;obtain⟨u,w⟩:=B7 s f j j x.2 (l++dc s src i++x.1) (ag _) k.2 (fun t a=>by
      rcases gZ.1 a with a|a
      ·rcases gZ.1 a with a|a
       ·exact c t a
       ·exact n t a
      ·exact p t a) h
     rw[tZ,tZ] at u;exact⟨by omega,w⟩
  ·split at h
   ·cases h
   ·cases h;rw[tZ];refine⟨by omega,fun t a=> ?_⟩;rcases gZ.1 a with a|a
    ·exact c t a
    ·exact n t a
theorem VA(h:lexB b=.aq E d):jd E≤8*b.length∧∀t∈E,ru b.length t:=by have:=B7 b _ _ _ _ _ (ag _) (aH _) (fun t h=>by cases h) h;rw[iM] at this;exact⟨by omega,this.2⟩
mutual
def QN:Nd→Prop
 |.mk k _ t a l=>t.length≤65536∧nH 65536 a∧(k=7→2≤l.length)∧QL l
def QL:List Nd→Prop
 |[]=>True
 |x::r=>QN x∧QL r
end
structure QO (n:Nd):Prop where
 sr:n.text.length≤65536
 Lb:nH 65536 n.attrs
 two:n.kind=7→Xs n=9→2≤n.kids.length
 kids:QL n.kids
def oU:Nd→List Nd→Prop
 |n,[]=>n.kind=1
 |n,y::r=>oy y n.kind=true∧QO y∧oU y r
structure Ov (x:rf):Prop where
 top:QO x.top
 chain:oU x.top x.below
def RM(x:rf):Nat:=wN x.top+wL x.below
theorem Ow:∀a b:List Nd,wL (a++b)=wL a+wL b
 |[],b=>by rw[kK,wL,dH]
 |x::r,b=>by rw[di,wL,wL,Ow r b,oh]
theorem Ox:∀{a:List Nd} {n:Nd},QL a→QN n→QL (a++[n])
 |[],n,_,b=>by rw[kK,QL,QL];exact⟨b,trivial⟩
 |x::r,n,h,b=>by rw[QL] at h;rw[di,QL];exact⟨h.1,Ox h.2 b⟩
theorem D7(n:Nd):wN n=n.text.length+3+bV n.attrs+wL n.kids:=by cases n;rw[wN];rfl
theorem GR(n k:Nd):wN (fV n k)=wN n+wN k:=by rw[D7 (fV n k),D7 n];show n.text.length+3+bV n.attrs+wL (n.kids++[k])=_;rw[Ow,wL,wL];omega
theorem Un(n:Nd)(t:Bs):wN (vN n t)≤wN n+t.length:=by rw[D7 (vN n t),D7 n];show t.length+3+bV n.attrs+wL n.kids≤_;omega
theorem Ld(h:i.kids=[]):Xs i=0:=by unfold Xs;rw[h];rfl
theorem Le(n k:Nd):Xs (fV n k)=k.kind:=by unfold Xs;show(match(n.kids++[k]).getLast? with|none=>0|some x=>x.kind)=_;rw[List.getLast?_append];rfl
theorem YP{n:Nd}(e:QO i)(m:QN n)(l:i.kind=7→oy i n.kind=true):QO (fV i n):=by
 refine⟨e.sr,e.Lb,fun c j=> ?_,Ox e.kids m⟩;have c:i.kind=7:=c;rw[Le] at j;have d:=l c;unfold oy at d;rw[ah c,j] at d;have b:=dv d;have h:Xs i=8:=by
  rcases b with b|b
  ·exact absurd b.1 (by decide)
  ·exact b.2
 show 2≤(i.kids++[n]).length;rw[bB,mF];cases k:i.kids with
 |nil=>rw[Ld k] at h;exact absurd h (by decide)
 |cons a r=>rw[bF];omega
theorem nI{a b:Nd}(h:a.kind=b.kind):∀{l:List Nd},oU a l→oU b l
 |[],c=>by show b.kind=1;rw[←h];exact c
 |y::r,c=>by obtain⟨d,e⟩:=c;exact⟨by rw[←h];exact d,e⟩
theorem sE(h:px H j=.aq q):H=none∧q=j:=by
 cases H with
 |none=>injection h with h;exact⟨rfl,h.symm⟩
 |some p=>cases h
theorem ue{b:Option (Nat×Int)}(h:mD H b=none):H=none∧b=none:=by
 cases H with
 |none=>exact⟨rfl,h⟩
 |some x=>cases h
theorem Uo(J:d≤65536)(B:ru d O)(c:Ov j)(h:lM j O=.aq q):Ov q∧RM q≤RM j+GQ O:=by
 have R:=B.sr;have C:nH 65536 O.attrs:=fun a G=>bP (B.Lb a G) J;unfold lM at h;split at h
 ·unfold Dv at h;split at h
  ·rename_i I;injection h with h;subst h;refine⟨⟨YP c.top (by rw[QN];exact⟨by omega,kB _,fun h=>absurd h (by decide),by rw[QL];trivial⟩) (fun h=>absurd h I.1),show oU (fV j.top (.mk 2 O.src O.text [] [])) j.below from nI (a:=j.top) (b:=(fV j.top (.mk 2 O.src O.text [] []))) rfl c.chain⟩, ?_⟩;show wN (fV j.top (.mk 2 O.src O.text [] []))+wL j.below≤wN j.top+wL j.below+(O.text.length+4+bV O.attrs);rw[GR,wN,wL];have E:bV ([]:List bQ)=0:=rfl;omega
  ·split at h
   ·injection h with h;subst h;exact⟨c,sd _ _⟩
   ·cases h
 split at h
 ·injection h with h;subst h;refine⟨⟨⟨by show O.text.length≤_;omega,c.top.Lb,c.top.two,c.top.kids⟩,show oU (vN j.top O.text) j.below from nI (a:=j.top) (b:=(vN j.top O.text)) rfl c.chain⟩, ?_⟩;have:=Un j.top O.text;show wN (vN j.top O.text)+wL j.below≤wN j.top+wL j.below+(O.text.length+4+bV O.attrs);omega
 split at h
 ·unfold BL at h;dsimp only at h;obtain⟨e,i⟩:=sE h;obtain⟨e,F⟩:=ue e;obtain⟨e,Q⟩:=ue e;have m:oy j.top (kindOf O.name)=true:=by
   cases hq:oy j.top (kindOf O.name) with
   |true=>rfl
   |false=>rw[hq] at e;simp at e
  have D:wN (.mk (kindOf O.name) O.src [] O.attrs [])=3+bV O.attrs:=by rw[wN,wL];simp
  by_cases z:kindOf O.name=3∨kindOf O.name=6
  ·rw[bN z,ah rfl] at i;subst i;refine⟨⟨YP c.top (by rw[QN];exact⟨aH _,C,fun h=>by omega,by rw[QL];trivial⟩) (fun _=>m),show oU (fV j.top (.mk (kindOf O.name) O.src [] O.attrs [])) j.below from nI (a:=j.top) (b:=(fV j.top (.mk (kindOf O.name) O.src [] O.attrs []))) rfl c.chain⟩, ?_⟩;show wN (fV j.top _)+wL j.below≤wN j.top+wL j.below+(O.text.length+4+bV O.attrs);rw[GR,D];omega
  ·rw[cL z,ae (by decide)] at i;subst i;refine⟨⟨⟨aH _,C,fun _ u=>absurd (show(0:Int)=9 from u) (by decide),by show QL [];rw[QL];trivial⟩,⟨m,c.top,c.chain⟩⟩, ?_⟩;show wN (.mk (kindOf O.name) O.src [] O.attrs [])+wL (j.top::j.below)≤wN j.top+wL j.below+(O.text.length+4+bV O.attrs);rw[D,wL];omega
 split at h
 ·unfold Jo at h;dsimp only at h;obtain⟨e,i⟩:=sE h;obtain⟨e,F⟩:=ue e;have m:oy j.top 14=true:=by
   cases hq:oy j.top 14 with
   |true=>rfl
   |false=>rw[hq] at e;simp at e
  subst i;refine⟨⟨⟨aH _,kB _,fun h=>absurd h (by show¬(14:Int)=7;decide),by show QL [];rw[QL];trivial⟩,⟨m,c.top,c.chain⟩⟩, ?_⟩;show wN (.mk 14 O.src [] [] [])+wL (j.top::j.below)≤wN j.top+wL j.below+(O.text.length+4+bV O.attrs);rw[wN,wL,wL];have E:bV ([]:List bQ)=0:=rfl;have e:([]:Bs).length=0:=rfl;omega
 ·unfold Q9 at h;generalize(if O.kind=4 then kindOf O.name else 14)=M at h;dsimp only at h;split at h
  ·cases h
  ·rename_i H;obtain⟨o,below⟩:=j;cases below with
   |nil=>cases h
   |cons s r=>
    injection h with h;subst h;obtain⟨m,L,K⟩:=c.chain;have hq:QN o:=by
     have:=c.top;obtain⟨k,p,N,a,l⟩:=o;rw[QN];refine⟨this.sr,this.Lb,fun w=>this.two w ?_,this.kids⟩;subst w;by_cases u:Xs (.mk 7 p N a l)=9
     ·exact u
     ·refine absurd ?_ H;by_cases A:(7:Int)=M
      ·exact .inr (.inl ⟨A.symm,u⟩)
      ·exact .inl A
    refine⟨⟨YP L hq (fun _=>m),show oU (fV s o) r from nI (a:=s) (b:=(fV s o)) rfl K⟩, ?_⟩;show wN (fV s o)+wL r≤wN o+wL (s::r)+(O.text.length+4+bV O.attrs);rw[GR,wL];omega
theorem JE{n:Nat}(c:n≤65536):∀{l:List Tok} {x y:rf},(∀t∈l,ru n t)→Ov x→fX x l=.aq y→Ov y∧RM y≤RM x+jd l
 |[],x,y,_,a,h=>by unfold fX at h;injection h with h;subst h;exact⟨a,sd _ _⟩
 |t::r,x,y,b,a,h=>by
  unfold fX at h;split at h
  ·cases h
  ·rename_i z j;obtain⟨d,k⟩:=Uo c (b t (by simp)) a j;obtain⟨e,m⟩:=JE c (fun u i=>b u (by simp[i])) d h;rw[gE];exact⟨e,by omega⟩
theorem AI:∀a:List bQ,a.length≤bV a
 |[]=>aH _
 |x::r=>by have:=AI r;rw[kW,bF];omega
theorem Oy:∀l:List Nd,l.length≤wL l
 |[]=>aH _
 |x::r=>by have:=Oy r;have:=D7 x;rw[wL,bF];omega
theorem Oz:∀{l:List Nd} {x:Nd},x∈l→wN x≤wL l
 |y::r,x,h=>by
  rw[wL];rcases bL.1 h with rfl|h
  ·omega
  ·have:=Oz h;omega
theorem OA:∀{l:List Nd} {x:Nd},QL l→x∈l→QN x
 |y::r,x,h,a=>by
  rw[QL] at h;rcases bL.1 a with rfl|a
  ·exact h.1
  ·exact OA h.2 a
theorem VB(n:Nd):QN n→wN n≤1000000→sy n:=by refine Nd.ind (P:=fun n=>QN n→wN n≤1000000→sy n) (fun k p t a l j hq i=> ?_) n;rw[QN] at hq;rw[wN] at i;obtain⟨c,d,e,h⟩:=hq;have:=AI a;have:=Oy l;rw[sy];exact⟨c,by omega,d,by omega,e,JA fun x b=>j x b (OA h b) (by have:=Oz b;omega)⟩
theorem sA(h:(gW b).2.2=0):sy (gW b).1∧wN (gW b).1≤600000:=by
 unfold gW at h⊢;split at h
 ·exact absurd h (by decide)
 rename_i z;rw[ae z];cases d:lexB b with
 |bad p e=>rw[d] at h;have:=C4 b;rw[d] at this;have h:e=0:=h;have:=this.2;omega
 |aq l m=>
  rw[d] at h;dsimp only at h⊢;obtain⟨q,u⟩:=VA d;cases i:fX ⟨lN,[]⟩ l with
  |bad p e=>rw[i] at h;exact⟨by
   dsimp only;unfold ny;rw[sy];exact⟨aH _,aH _,fun x d=>by(cases d),aH _,fun h=>absurd h (by decide),by rw[DN];trivial⟩,by
   dsimp only;unfold ny;rw[wN,wL];decide⟩
  |aq x=>
   rw[i] at h;dsimp only at h⊢;have w:Ov ⟨lN,[]⟩:=⟨⟨aH _,kB _,fun h=>absurd h (by decide),by show QL [];rw[QL];trivial⟩,rfl⟩;obtain⟨n,B⟩:=JE (by omega) u w i;obtain⟨c,below⟩:=x;cases below with
   |cons y r=>exact absurd (show(14:Int)=0 from h) (by decide)
   |nil=>
    show sy c∧wN c≤600000;have j:c.kind=1:=n.chain;have A:wN c≤600000:=by have o:wN c+wL []≤wN lN+wL []+jd l:=B;unfold lN at o;rw[wN,wL] at o;have C:bV ([]:List bQ)=0:=rfl;have q:([]:Bs).length=0:=rfl;omega
    refine⟨VB c ?_ (by omega),A⟩;have:=n.top;obtain⟨k,p,t,a,l⟩:=c;rw[QN];exact⟨this.sr,this.Lb,fun D=>by have j:k=1:=j;omega,this.kids⟩
theorem wg{k:Int}{t:Bs}{u:bc}(a:t.length≤100000)(b:u.name.length≤100000)(c:u.key.length≤100000)(d:u.cK.length≤100000):tE (.mk k t u []):=by unfold tE;exact⟨a,b,c,d,by unfold QR;trivial⟩
theorem ok_one{k:Int}(h:tE J):tE (ry k J):=by unfold ry tE;exact⟨aH _,aH _,aH _,aH _,by unfold QR;exact⟨h,by unfold QR;trivial⟩⟩
theorem ok_two{k:Int}{y:Ex}(h:tE J)(a:tE y):tE (oA k J y):=by unfold oA tE;exact⟨aH _,aH _,aH _,aH _,by unfold QR;exact⟨h,by unfold QR;exact⟨a,by unfold QR;trivial⟩⟩⟩
def D8:cG→Prop
 |.aq x _=>tE x
 |.ay _ _=>True
def xD(f:Nat→cG):Prop:=∀i,D8 (f i)
def OB(f:Option (Nat→cG)):Prop:=∀g,f=some g→xD g
theorem VC(s:Bs)(i:Nat):(rs s i).length≤s.length:=by unfold rs;have:=cB mE (s.drop i);rw[bK] at this;omega
theorem OC(y:b.length≤100000)(m:OB D):xD (qL D b):=by
 intro i;have n:=VC b i;unfold qL;cases q:rs b i with
 |nil=>trivial
 |cons c r=>
  rw[q,bF] at n;show D8 (bif c==40 then _ else _);cases c==40
  ·rw[cI];cases c==39
   ·rw[cI];cases kH c
    ·rw[cI];unfold zz;cases o:df (c::r) with
     |none=>trivial
     |some p=>obtain⟨_,_,_,j⟩:=gF o;have l:=(xE j).len;rw[bK,bF] at l;exact wg (k:=12) (t:=[]) (aH _) (by show p.name.length≤_;omega) (by show p.key.length≤_;omega) (by show p.cK.length≤_;omega)
    ·rw[aS];unfold D9;cases h:decide (((c::r).takeWhile kH).length≤18)
     ·trivial
     ·exact wg (k:=11) (u:=aC) (by have:=dv h;omega) (aH _) (aH _) (aH _)
   ·rw[aS];unfold Tw;cases hq:r.contains 39
    ·trivial
    ·exact wg (k:=10) (u:=aC) (by have:=vV hq;omega) (aH _) (aH _) (aH _)
  ·rw[aS];unfold Tx;cases D with
   |none=>trivial
   |some f=>
    have a:=m f rfl (pa b i+1);show D8 (match f (pa b i+1) with|.ay p e=>.ay p e|.aq x t=>bif hasPrefix (rs b t) [41] then .aq x (pa b t+1) else .ay (pa b t) 15);cases w:f (pa b i+1) with
    |ay p e=>trivial
    |aq x t=>
     rw[w] at a;show D8 (bif hasPrefix (rs b t) [41] then .aq x (pa b t+1) else .ay (pa b t) 15);cases hasPrefix (rs b t) [41]
     ·trivial
     ·exact a
theorem RN(j:b.length≤100000)(h:OB D):xD (zA D b):=by
 intro i;have a:=OC j h i;unfold zA;cases m:qL D b i with
 |ay p e=>trivial
 |aq x t=>
  rw[m] at a;show D8 (ou D b x t);unfold ou;cases oV (rs b t) with
  |none=>exact a
  |some kn=>
   obtain⟨k,n⟩:=kn;have c:=OC j h (pa b t+n);show D8 (match qL D b (pa b t+n) with|.ay p e=>.ay p e|.aq y l=>.aq (oA (4+k) x y) l);cases o:qL D b (pa b t+n) with
   |ay p e=>trivial
   |aq y l=>rw[o] at c;exact ok_two (k:=4+k) a c
theorem JF(h:b.length≤100000){d1 d2:Option (Nat→cG)}(c:OB d1)(d:OB d2):xD (uf d1 d2 b):=by
 intro i;unfold uf;cases hasPrefix (rs b i) [33]
 ·exact RN h c i
 ·rw[aS];cases d2 with
  |none=>trivial
  |some f=>
   have a:=d f rfl (pa b i+1);show D8 (match f (pa b i+1) with|.ay p e=>.ay p e|.aq x t=>.aq (ry 3 x) t);cases j:f (pa b i+1) with
   |ay p e=>trivial
   |aq x t=>rw[j] at a;exact ok_one (k:=3) a
theorem AJ{s:Bs}{one:Nat→cG}(h:xD one)(kind:Int)(b:UInt8):∀(n:Nat) (x:Ex) (t:Nat),tE x→D8 (kp one kind b s n x t)
 |0,_,_,a=>a
 |n+1,x,t,a=>by
  unfold kp;cases hasPrefix (rs s t) [b]
  ·exact a
  ·have c:=h (pa s t+1);rw[aS];cases d:one (pa s t+1) with
   |ay p e=>trivial
   |aq y i=>rw[d] at c;exact AJ h kind b n _ i (ok_two a c)
theorem wh{one:Nat→cG}(h:xD one)(kind:Int)(c:UInt8):xD (rz one kind c b):=by
 intro i;have a:=h i;unfold rz;cases d:one i with
 |ay p e=>trivial
 |aq x t=>rw[d] at a;exact AJ h kind c _ x t a
theorem JG(s:Bs)(b:s.length≤100000):∀k,xD (vh s k)∧xD (je s k)
 |0=>by
  have c:OB none:=fun g h=>by cases h
  have a:xD (je s 0):=JF b c c;exact⟨wh (wh a 2 38) 1 124,a⟩
 |k+1=>by obtain⟨d,i⟩:=JG s b k;have a:xD (je s (k+1)):=JF b (d1:=some (vh s k)) (d2:=some (je s k)) (fun g e=>by cases e;exact d) (fun g e=>by cases e;exact i);exact⟨wh (wh a 2 38) 1 124,a⟩
theorem K1(s:Bs)(d:s.length≤100000):tE (ew s).1:=by
 have h:=(JG s d 16).1 0;have b:tE sF:=wg (aH _) (aH _) (aH _) (aH _);rcases Ea s with⟨q,e,c,a⟩|⟨x,t,c,a|a⟩
 ·rw[a];exact b
 ·rw[c] at h;rw[a];exact h
 ·rw[a];exact b
theorem we(P:fx):∀d,Rv P (rl P d)∧Ul (rl P d)
 |0=>⟨fun f h=>(by cases h),fun f h=>(by cases h)⟩
 |d+1=>by
  obtain⟨a,c⟩:=we P d;refine⟨fun f h u b e=> ?_,fun f h u n=> ?_⟩
  ·injection h with h;subst h;obtain⟨i,j⟩:=sA e;exact((JB a u _ i).1 false).m (by unfold ie;omega)
  ·injection h with h;subst h;exact(vg (AG P u c) n).1 false
theorem Uh(P:fx)(d:Nat)(base:U):DM P (rl P d) base:=On (we P d).1 (we P d).2 base
end Go.Proofs.YtlemddnecmmfgaaGreatDoor
namespace Go.Proofs.YtlemddnecmmfgaaGreatDoor
open Go.RowKit
variable{d:Nat}
structure ME where
 w0:aaK
 mb:Nat
 im:Nat
 h:Bs
 t:Bs
 fs:List dQ
 fa:Option Addr
 fn:Nat
 fc:Nat
 inc:Nat
 dep:Nat
 ga:Option Addr
 gc:Nat
 fZ:List j5
def ME.env(E:ME):fx:=⟨E.h,E.t,E.fs,E.inc,E.fZ⟩
def qz(u:U):List aaL:=[.string ⟨u.scheme.toArray⟩,.string ⟨u.host.toArray⟩,.int .i64 u.port,.string ⟨u.path.toArray⟩,.string ⟨u.query.toArray⟩,.bool u.hq]
def nB:List U→List aaL
 |[]=>[]
 |u::r=>qz u++nB r
abbrev Gw(E:ME)(S:PS)(av rv ov:aaL):List aaL:=[.string ⟨#[]⟩,.bool false,.bool false,av,.int .i64 S.aU,.int .i64 S.work,rv,ov,.string ⟨E.h.toArray⟩,.string ⟨E.t.toArray⟩,.slice E.fa E.fn E.fc,.int .i64 E.inc,.int .i64 E.dep,.slice E.ga E.fZ.length E.gc,.map (some E.im)]
def MB(E:ME)(av rv ov:aaL):List Nat:=E.mb::E.im::bM [av,rv,ov]
structure MK (E:ME) (W:aaK) (S:PS) (out:Bs) (av rv ov:aaL):Prop where
 up:Below E.w0.heap.size E.w0 W
 box:W.heap[E.mb]? =some (.cells (Gw E S av rv ov).toArray 85)
 asked:W.ownsRow E.w0.heap.size 23 6 av S.asked.length (nB S.asked)
 reads:W.ownsRow E.w0.heap.size 9 1 rv S.reads.length (cM S.reads)
 lE:W.ownsRow E.w0.heap.size 5 1 ov out.length (da out)
 inl:∃l,gg W E.im l∧∀k,assoc l k=(Xr S.inl k).map fun t=>.agg #[.string ⟨t.toArray⟩]
 vW:(MB E av rv ov).Nodup
 far:E.w0.heap.size≤E.mb∧E.w0.heap.size≤E.im
structure bC (M:List Nat) (W:aaK) (M':List Nat) (W':aaK):Prop where
 size:W.heap.size≤W'.heap.size
 cO:∀b,b<W.heap.size→b∉M→b∉M'∧W'.heap[b]? =W.heap[b]?
theorem bC.refl(M:List Nat)(W:aaK):bC M W M W:=⟨ag _,fun b _ h=>⟨h,rfl⟩⟩
theorem bC.t{M c d:List Nat}{W e h:aaK}(a:bC M W c e)(i:bC c e d h):bC M W d h:=
 ⟨bP a.size i.size,fun b j k=>by obtain⟨l,m⟩:=a.cO b j k;obtain⟨n,o⟩:=i.cO b (ej j a.size) l;exact⟨n,o.t m⟩⟩
theorem bC.ai{M:List Nat}{W W':aaK}(h:Below W.heap.size W W'):bC M W M W':=⟨h.size,fun b a c=>⟨c,h.block b a⟩⟩
def MX(E:ME)(W:aaK)(M:List Nat)(S:PS)(out:Bs):Prop:=∃av rv ov,MK E W S out av rv ov∧M=MB E av rv ov
theorem bw{W W':aaK}{T:TypeId}{size n:Nat}{v:aaL}{xs:List aaL}(h:W.ownsRow d T size v n xs)(j:∀g,v.ownBlock=some g→W'.heap[g]? =W.heap[g]?):W'.ownsRow d T size v n xs:=by
 refine⟨h.1, ?_⟩;rcases h.2 with a|⟨g,cap,c,b,a,e,i⟩
 ·exact .inl a
 ·exact .inr ⟨g,cap,c,b,a,(j g (by rw[b];rfl)).t e,i⟩
theorem ri{W W':aaK}{l:List (Bs×aaL)}(h:gg W d l)(i:W'.heap[d]? =W.heap[d]?):gg W' d l:=by obtain⟨es,c,a,e⟩:=h;exact⟨es,c,i.t a,e⟩
section
variable{E:ME}{W W':aaK}{S:PS}{out:Bs}{av rv ov:aaL}
theorem MK.lt(H:MK E W S out av rv ov):E.mb<W.heap.size:=(aB.1 H.box).1
theorem MK.WB(H:MK E W S out av rv ov):E.im<W.heap.size:=by obtain⟨l,h,_⟩:=H.inl;exact h.lt
theorem vP{a b c:aaL}:d∈bM [a,b,c]↔a.ownBlock=some d∨b.ownBlock=some d∨c.ownBlock=some d:=by rw[cQ];simp
theorem MK.mlt(H:MK E W S out av rv ov):∀b∈MB E av rv ov,E.w0.heap.size≤b∧b<W.heap.size:=fun b a=>by
 rcases bL.1 a with rfl|a
 ·exact⟨H.far.1,H.lt⟩
 rcases bL.1 a with rfl|a
 ·exact⟨H.far.2,H.WB⟩
 rcases vP.1 a with h|h|h
 ·exact H.asked.lt b h
 ·exact H.reads.lt b h
 ·exact H.lE.lt b h
theorem MK.apart(H:MK E W S out av rv ov):E.mb≠E.im∧(∀g,g∈bM [av,rv,ov]→g≠E.mb∧g≠E.im)∧(bM [av,rv,ov]).Nodup:=by have a:=lI.1 H.vW;have b:=lI.1 a.2;exact⟨fun e=>a.1 (by rw[e];exact eF),fun g c=>⟨fun e=>a.1 (by rw[←e];exact bY _ c),fun e=>b.1 (by rw[←e];exact c)⟩,b.2⟩
theorem MK.next(H:MK E W S out av rv ov)(a:Below W.heap.size W W'):MK E W' S out av rv ov:=by refine⟨H.up.t (a.m H.up.size),(a.block _ H.lt).t H.box,cp H.asked a,cp H.reads a,cp H.lE a, ?_,H.vW,H.far⟩;obtain⟨l,b,c⟩:=H.inl;exact⟨l,b.next a,c⟩
theorem MK.aN(H:MK E W S out av rv ov)(k:ak E.mb W W'){d:PS}(o:W'.heap[E.mb]? =some (.cells (Gw E d av rv ov).toArray 85))(n:d.asked=S.asked)(q:d.reads=S.reads)(p:d.inl=S.inl):
 MK E W' d out av rv ov∧bC (MB E av rv ov) W (MB E av rv ov) W':=by
 obtain⟨n1,n2,r⟩:=H.apart;have j:∀b,b<W.heap.size→b≠E.mb→W'.heap[b]? =W.heap[b]? :=fun b c a=>k.block b c (by intro e;injection e with e;exact a e);have i:∀v g,v.ownBlock=some g→v∈[av,rv,ov]→W'.heap[g]? =W.heap[g]? :=fun v g c a=>by have m:g∈bM [av,rv,ov]:=cQ.2 ⟨v,a,c⟩;exact j g (H.mlt g (bY _ (bY _ m))).2 (n2 g m).1
 refine⟨⟨H.up.t (k.below H.far.1 H.up.size),o, ?_, ?_,bw H.lE fun g h=>i ov g h (by simp), ?_,H.vW,H.far⟩,⟨k.size,fun b c a=>⟨a,j b c fun e=>a (by rw[e];exact eF)⟩⟩⟩
 ·rw[n];exact bw H.asked fun g h=>i av g h (by simp)
 ·rw[q];exact bw H.reads fun g h=>i rv g h (by simp)
 ·obtain⟨l,c,a⟩:=H.inl;exact⟨l,ri c (j _ H.WB (eo n1)),by rw[p];exact a⟩
theorem MK.step(H:MK E W S out av rv ov):MK E (W.setCell ⟨E.mb,5,none⟩ (.int .i64 ((S.work+1:Nat):Int))) S.step out av rv ov∧bC (MB E av rv ov) W (MB E av rv ov) (W.setCell ⟨E.mb,5,none⟩ (.int .i64 ((S.work+1:Nat):Int))):=
 H.aN ((ak.refl _ _).set) (aw (j:=5) H.box) rfl rfl rfl
theorem MK.more(H:MK E W S out av rv ov):MK E (W.setCell ⟨E.mb,4,none⟩ (.int .i64 ((S.aU+1:Nat):Int))) {S with aU:=S.aU+1} out av rv ov∧bC (MB E av rv ov) W (MB E av rv ov) (W.setCell ⟨E.mb,4,none⟩ (.int .i64 ((S.aU+1:Nat):Int))):=
 H.aN ((ak.refl _ _).set) (aw (j:=4) H.box) rfl rfl rfl
end
theorem fF{E:ME}{a b c:aaL}:(MB E a b c).Nodup↔E.mb≠E.im∧(∀g,(g=E.mb∨g=E.im)→a.ownBlock≠some g∧b.ownBlock≠some g∧c.ownBlock≠some g)∧(∀g,a.ownBlock=some g→b.ownBlock≠some g∧c.ownBlock≠some g)∧(∀g,b.ownBlock=some g→c.ownBlock≠some g):=by
 have p:(bM [a,b,c]).Nodup↔(∀g,a.ownBlock=some g→b.ownBlock≠some g∧c.ownBlock≠some g)∧(∀g,b.ownBlock=some g→c.ownBlock≠some g):=by unfold bM;cases q:a.ownBlock<;>cases r:b.ownBlock<;>cases s:c.ownBlock<;>simp[q,r,s]<;>omega
 unfold MB;rw[lI,lI,p];constructor
 ·rintro⟨h,o,i⟩;have j:E.mb≠E.im:=fun e=>h (by rw[e];exact eF);refine⟨j,fun g t=> ?_,i⟩;have k:g∉bM [a,b,c]:=by
   rcases t with rfl|rfl
   ·exact fun d=>h (bY _ d)
   ·exact o
  exact⟨fun e=>k (vP.2 (.inl e)),fun e=>k (vP.2 (.inr (.inl e))),fun e=>k (vP.2 (.inr (.inr e)))⟩
 ·rintro⟨j,h,i⟩;refine⟨fun d=> ?_,fun d=> ?_,i⟩
  ·rcases bL.1 d with e|d
   ·exact j e
   ·obtain⟨l,m,n⟩:=h E.mb (.inl rfl);rcases vP.1 d with e|e|e
    ·exact l e
    ·exact m e
    ·exact n e
  ·obtain⟨l,m,n⟩:=h E.im (.inr rfl);rcases vP.1 d with e|e|e
   ·exact l e
   ·exact m e
   ·exact n e
section
variable{E:ME}{W W':aaK}{S:PS}{out:Bs}{av rv ov:aaL}
theorem MK.swap(H:MK E W S out av rv ov){n:aaK}{v v' s y u:aaL}{m:PS}{F:Bs}(R:Below E.w0.heap.size E.w0 n)(O:W.heap.size≤n.heap.size)
 (o:∀b,b<W.heap.size→b≠E.mb→some b≠v.ownBlock→n.heap[b]? =W.heap[b]?)(K:n.heap[E.mb]? =some (.cells (Gw E m s y u).toArray 85))(hi:m.inl=S.inl)
 (M:v'.ownBlock=v.ownBlock∨∃g,v'.ownBlock=some g∧W.heap.size≤g)
 (hc:(v=av∧s=v'∧y=rv∧u=ov∧m.reads=S.reads∧F=out∧n.ownsRow E.w0.heap.size 23 6 v' m.asked.length (nB m.asked))∨
  (v=rv∧s=av∧y=v'∧u=ov∧m.asked=S.asked∧F=out∧n.ownsRow E.w0.heap.size 9 1 v' m.reads.length (cM m.reads))∨
  (v=ov∧s=av∧y=rv∧u=v'∧m.asked=S.asked∧m.reads=S.reads∧n.ownsRow E.w0.heap.size 5 1 v' F.length (da F))):
 MK E n m F s y u∧bC (MB E av rv ov) W (MB E s y u) n:=by
 obtain⟨n1,n2,r,D⟩:=fF.1 H.vW;have ac:=H.mlt;have G:∀g,av.ownBlock=some g→g<W.heap.size:=fun g h=>(H.asked.lt g h).2;have J:∀g,rv.ownBlock=some g→g<W.heap.size:=fun g h=>(H.reads.lt g h).2;have I:∀g,ov.ownBlock=some g→g<W.heap.size:=fun g h=>(H.lE.lt g h).2;have af:=H.lt;have aa:=H.WB;have L:some E.im≠v.ownBlock→∃l,gg n E.im l∧∀k,assoc l k=(Xr m.inl k).map fun t=>.agg #[.string ⟨t.toArray⟩]:=fun ab=>by obtain⟨l,i,z⟩:=H.inl;exact⟨l,ri i (o _ aa (eo n1) ab),by rw[hi];exact z⟩
 obtain⟨V,X,Y⟩:=n2 E.mb (.inl rfl);obtain⟨i1,i2,i3⟩:=n2 E.im (.inr rfl);have p:∀g,g<W.heap.size→v.ownBlock≠some g→v'.ownBlock≠some g:=fun g a h e=>by
  rcases M with q|⟨g',q,T⟩
  ·exact h (q.symm.t e)
  ·rw[q] at e;injection e with e;omega
 have Q:∀b,b<W.heap.size→b∉MB E av rv ov→b≠E.mb∧b≠E.im∧av.ownBlock≠some b∧rv.ownBlock≠some b∧ov.ownBlock≠some b:=fun b _ h=>
  ⟨fun e=>h (by rw[e];exact eF),fun e=>h (by rw[e];exact bY _ eF),fun e=>h (bY _ (bY _ (vP.2 (.inl e)))),
   fun e=>h (bY _ (bY _ (vP.2 (.inr (.inl e))))),fun e=>h (bY _ (bY _ (vP.2 (.inr (.inr e)))))⟩
 have N:∀b,b≠E.mb→b≠E.im→s.ownBlock≠some b→y.ownBlock≠some b→u.ownBlock≠some b→b∉MB E s y u:=fun b c j d w x B=>by
  rcases bL.1 B with e|B
  ·exact c e
  rcases bL.1 B with e|B
  ·exact j e
  rcases vP.1 B with e|e|e
  ·exact d e
  ·exact w e
  ·exact x e
 rcases hc with⟨rfl,rfl,rfl,rfl,A,rfl,C⟩|⟨rfl,rfl,rfl,rfl,A,rfl,C⟩|⟨rfl,rfl,rfl,rfl,A,Z,C⟩
 ·refine⟨⟨R,K,C, ?_, ?_,L (fun e=>i1 e.symm),fF.2 ⟨n1,fun g a=> ?_,fun g a=> ?_,D⟩,H.far⟩,O,fun b i z=> ?_⟩
  ·rw[A];exact bw H.reads fun g a=>o g (J g a) (fun e=>X (by rw[←e];exact a)) (fun e=>(r g e.symm).1 a)
  ·exact bw H.lE fun g a=>o g (I g a) (fun e=>Y (by rw[←e];exact a)) (fun e=>(r g e.symm).2 a)
  ·obtain⟨c,j,d⟩:=n2 g a;exact⟨p g (by rcases a with rfl|rfl<;>assumption) c,j,d⟩
  ·rcases M with q|⟨g',q,T⟩
   ·exact r g (q.symm.t a)
   ·rw[q] at a;injection a with a;exact⟨fun e=>by have:=J g e;omega,fun e=>by have:=I g e;omega⟩
  ·obtain⟨c,j,d,w,x⟩:=Q b i z;exact⟨N b c j (p b i d) w x,o b i c (fun e=>d e.symm)⟩
 ·refine⟨⟨R,K, ?_,C, ?_,L (fun e=>i2 e.symm),fF.2 ⟨n1,fun g a=> ?_,fun g a=>⟨p g (G g a) (r g a).1,(r g a).2⟩,fun g a=> ?_⟩,H.far⟩,O,fun b i z=> ?_⟩
  ·rw[A];exact bw H.asked fun g a=>o g (G g a) (fun e=>V (by rw[←e];exact a)) (fun e=>(r g a).1 e.symm)
  ·exact bw H.lE fun g a=>o g (I g a) (fun e=>Y (by rw[←e];exact a)) (fun e=>D g e.symm a)
  ·obtain⟨c,j,d⟩:=n2 g a;exact⟨c,p g (by rcases a with rfl|rfl<;>assumption) j,d⟩
  ·rcases M with q|⟨g',q,T⟩
   ·exact D g (q.symm.t a)
   ·rw[q] at a;injection a with a;exact fun e=>by have:=I g e;omega
  ·obtain⟨c,j,d,w,x⟩:=Q b i z;exact⟨N b c j d (p b i w) x,o b i c (fun e=>w e.symm)⟩
 ·refine⟨⟨R,K, ?_, ?_,C,L (fun e=>i3 e.symm),fF.2 ⟨n1,fun g a=> ?_,fun g a=>⟨(r g a).1,p g (G g a) (r g a).2⟩,fun g a=>p g (J g a) (D g a)⟩,H.far⟩,O,fun b i z=> ?_⟩
  ·rw[A];exact bw H.asked fun g a=>o g (G g a) (fun e=>V (by rw[←e];exact a)) (fun e=>(r g a).2 e.symm)
  ·rw[Z];exact bw H.reads fun g a=>o g (J g a) (fun e=>X (by rw[←e];exact a)) (fun e=>D g a e.symm)
  ·obtain⟨c,j,d⟩:=n2 g a;exact⟨c,j,p g (by rcases a with rfl|rfl<;>assumption) d⟩
  ·obtain⟨c,j,d,w,x⟩:=Q b i z;exact⟨N b c j d w (p b i x),o b i c (fun e=>x e.symm)⟩
end
