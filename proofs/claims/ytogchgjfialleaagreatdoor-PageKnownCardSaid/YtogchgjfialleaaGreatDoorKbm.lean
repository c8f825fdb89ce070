/- What a tree weighs, and what an evaluation of it takes: plain. -/
import Derived.Test.YtogchgjfialleaaGreatDoorKbg
set_option linter.unusedVariables false
namespace Go.Proofs.YtogchgjfialleaaGreatDoor
open Go.Lib
theorem Az(s:Bs):∀k i,(mQ s k i).length≤k
 |0,_=>ag _
 |k+1,i=>by
  unfold mQ;split
  ·exact aH _
  ·have:=Az s k;rw[bF];exact Nat.succ_le_succ (this _)
theorem nD(s:Bs):(dd s).length≤s.length+1:=by unfold dd;rw[jo];exact Az s _ _
theorem uU(l:List Bs):∀a:List (Bs×Bs×Bool),(gh l a).length≤l.length+a.length:=by
 intro a;induction a generalizing l with
 |nil=>exact ag _
 |cons u r b=>
  have:=b (lQ l (eT u.1 u.2.1 u.2.2));have c:(lQ l (eT u.1 u.2.1 u.2.2)).length≤l.length+1:=by unfold lQ;split<;>simp
  show(gh (lQ l (eT u.1 u.2.1 u.2.2)) r).length≤_;rw[bF];omega
def bV(a:List bQ):Nat:=(a.map fun x=>2*x.val.length+1).sum
mutual
def wN:Nd→Nat
 |.mk _ _ t a l=>t.length+3+bV a+wL l
def wL:List Nd→Nat
 |[]=>0
 |x::r=>wN x+wL r
end
def ie:Nat:=1000000
mutual
def sy:Nd→Prop
 |.mk k _ t a l=>t.length≤65536∧a.length≤1000000∧(∀x∈a,x.val.length≤65536)∧l.length≤1000000∧(k=7→2≤l.length)∧DN l
def DN:List Nd→Prop
 |[]=>True
 |x::r=>sy x∧DN r
end
theorem DN.get:∀{l:List Nd} {x:Nd},DN l→x∈l→sy x
 |y::r,x,h,a=>by
  rw[DN] at h;rcases bL.1 a with rfl|a
  ·exact h.1
  ·exact DN.get h.2 a
theorem JA:∀{l:List Nd},(∀x,x∈l→sy x)→DN l
 |[],_=>by rw[DN];trivial
 |y::r,h=>by rw[DN];exact⟨h y (by simp),JA fun x a=>h x (by simp[a])⟩
structure bq (inc:Nat) (S:PS) (w:Nat):Prop where
 reads:S.reads.length+w+(inc-S.aU)*ie≤90000000
 work:S.work+w+(inc-S.aU)*ie≤90000000
 inl:∀x∈S.inl,x.2.length≤65536
 asked:S.asked.length≤S.aU
 aU:S.aU≤inc
theorem bq.less{a:Nat}{S:PS}{w w':Nat}(h:bq a S w)(b:w'≤w):bq a S w':=
 ⟨by have:=h.reads;omega,by have:=h.work;omega,h.inl,h.asked,h.aU⟩
theorem bq.step{a:Nat}{S:PS}{w:Nat}(h:bq a S (w+1)):bq a S.step w:=
 ⟨by have:=h.reads;show S.reads.length+w+_≤_;show S.reads.length+w+(a-S.aU)*ie≤_;omega,by have:=h.work;show S.work+1+w+(a-S.aU)*ie≤_;omega,h.inl,h.asked,h.aU⟩
theorem bq.read{a:Nat}{S:PS}{w:Nat}{b:List (Bs×Bs×Bool)}(h:bq a S (b.length+w)):bq a (S.read b) w:=
 ⟨by have:=h.reads;have:=uU S.reads b;show(gh S.reads b).length+w+(a-S.aU)*ie≤_;omega,by have:=h.work;show S.work+w+(a-S.aU)*ie≤_;omega,h.inl,h.asked,h.aU⟩
theorem bq.more{a:Nat}{S:PS}{w:Nat}(h:bq a S w)(i:S.aU<a):bq a {S with aU:=S.aU+1} (ie+w):=by
 obtain⟨d,e⟩:∃d,a=S.aU+1+d:=⟨a-(S.aU+1),by omega⟩;have b:a-S.aU=d+1:=by omega
 have c:a-(S.aU+1)=d:=by omega
 refine⟨?_, ?_,h.inl,by have:=h.asked;show S.asked.length≤S.aU+1;omega,by show S.aU+1≤a;omega⟩
 ·have:=h.reads;rw[b,Nat.add_mul,Nat.one_mul] at this;show S.reads.length+(ie+w)+(a-(S.aU+1))*ie≤_;rw[c];omega
 ·have:=h.work;rw[b,Nat.add_mul,Nat.one_mul] at this;show S.work+(ie+w)+(a-(S.aU+1))*ie≤_;rw[c];omega
def kV(b w:Nat)(c:Cm):Prop:=∀S a r,bq b S (w+r)→bq b (c S a).1 r
theorem kV.mono{b w w':Nat}{c:Cm}(h:kV b w c)(e:w≤w'):kV b w' c:=fun S a r d=>h S a r (d.less (by omega))
theorem kV.seq{e j h:Nat}{c d:Cm}(k:kV e j c)(l:kV e h d):kV e (j+h) (K9 c d):=fun S a r m=>by
 have b:=k S a (h+r) (by rw[←oh];exact m);unfold K9;revert b;obtain⟨i,o⟩:=c S a;cases o with
 |yes t=>intro b;have n:=l i (a+t.length) r b;revert n;dsimp only;obtain⟨p,o2⟩:=d i (a+t.length);cases o2<;>exact id
 |no=>exact fun b=>b.less (by omega)
 |wait=>exact fun b=>b.less (by omega)
theorem kV.Tu{e i h:Nat}{c d:Cm}(k:kV e i c)(l:kV e h d):kV e (i+h) (RE c d):=fun S a r m=>by
 have b:=k S a (h+r) (by rw[←oh];exact m);unfold RE Au;revert b;obtain⟨j,o⟩:=c S a;cases o with
 |yes t=>exact fun b=>b.less (by omega)
 |no=>exact fun b=>l j a r b
 |wait=>exact fun b=>b.less (by omega)
theorem kV.step{b w:Nat}{c:Cm}(h:kV b w c):kV b (w+1) (fun S a=>c S.step a):=fun S a r d=>h S.step a r (bq.step (by rw[show w+r+1=w+1+r by omega];exact d))
theorem kV.same{c w:Nat}(o:PS→Nat→Oc):kV c w (fun S a=>(S,o S a)):=fun S a r b=>b.less (by omega)
theorem RF(P:fx)(vs:Bool)(t:Bs):kV P.inc (t.length+1) (fun S a=>lS P vs t S a):=fun S a r b=>by
 show bq P.inc (lS P vs t S a).1 r;unfold lS;have d:=nD t;have c:bq P.inc (S.read (dd t)) r:=bq.read (b.less (by omega));split
 ·exact b.less (by omega)
 ·split
  ·exact c
  ·exact c
theorem Uk{c:Nat}{base:U}{a:List bQ}{t:Bs}(d:t.length≤65536):kV c 0 (fun S _=>(lV base a t S,.yes [])):=fun S n r b=>by
 show bq c (lV base a t S) r;rw[dH] at b;unfold lV;split
 ·refine⟨b.reads,b.work,fun x e=> ?_,b.asked,b.aU⟩;rcases gZ.1 e with h|h
  ·exact b.inl x h
  ·rw[fj.1 h];exact d
 ·exact b
def Rv(P:fx)(deep:Deep):Prop:=∀f,deep=some f→∀u b,(gW b).2.2=0→kV P.inc ie (fun S a=>f u (gW b).1 S a)
theorem Ok{P:fx}{f:U→Nd→PS→Nat→PS×Oc}(d:∀u b,(gW b).2.2=0→kV P.inc ie (fun S a=>f u (gW b).1 S a))(u:U)(g:j5):kV P.inc ie (fun S a=>zx f u S a g):=fun S a r c=>by
 show bq P.inc (zx f u S a g).1 r;unfold zx;split
 ·exact c.less (by omega)
 split
 ·exact c.less (by omega)
 split
 ·exact c.less (by omega)
 ·rename_i h;exact d u g.body (Decidable.of_not_not h) S a r c
theorem DR{P:fx}{deep:Deep}(i:Rv P deep)(base:U)(s:Bs):kV P.inc (s.length+1) (fun S a=>gB P deep base S a s):=fun S a r k=>by
 show bq P.inc (gB P deep base S a s).1 r;have l:=nD s;have c:bq P.inc (S.read (dd s)) r:=bq.read (k.less (by omega));unfold gB;dsimp only;generalize S.read (dd s)=b at c⊢;split
 ·exact c
 split
 ·exact c
 rename_i h;have j:b.aU<P.inc:=by
  have:=c.aU;by_cases q:P.inc≤b.aU
  ·exact absurd (.inr q) h
  ·omega
 split
 ·exact c
 rename_i f;have d:=c.more j;unfold zw;split
 ·exact Ok (i f rfl) _ _ _ a r d
 ·have e:∀u,bq P.inc {{b with aU:=b.aU+1} with asked:=b.asked++[u]} (ie+r):=fun u=>⟨d.reads,d.work,d.inl,by show(b.asked++[u]).length≤b.aU+1;rw[bB];have:=c.asked;simp;omega,d.aU⟩
  split
  ·exact(e _).less (by omega)
  ·exact Ok (i f rfl) _ _ _ a r (e _)
def BS:Option Bs→Nat
 |none=>0
 |some s=>s.length+1
theorem Ol{P:fx}{deep:Deep}(b:Rv P deep)(base:U)(o:Option Bs):kV P.inc (BS o) (fun S a=>DQ P deep base S a o):=by
 cases o with
 |none=>exact kV.same (fun _ _=>.no)
 |some s=>exact DR b base s
theorem nF(a:bQ)(l:List bQ)(nm:Bs):bG (a::l) nm=if a.name==nm then some a.val else bG l nm:=by
 unfold bG;rw[uH];split
 ·rename_i h;rw[ah h];rfl
 ·rename_i h;rw[ae (by rw[h];exact Bool.false_ne_true)]
theorem kW(a:bQ)(l:List bQ):bV (a::l)=2*a.val.length+1+bV l:=by simp[bV]
theorem Om(nm:Bs):∀l:List bQ,BS (bG l nm)≤bV l
 |[]=>aH _
 |a::r=>by
  have:=Om nm r;rw[nF,kW];split
  ·show a.val.length+1≤_;omega
  ·omega
theorem N2{n1 n2:Bs}(d:n1≠n2):∀l:List bQ,BS (bG l n1)+BS (bG l n2)≤bV l
 |[]=>aH _
 |a::r=>by
  have:=N2 d r;have e:=Om n1 r;have h:=Om n2 r;rw[nF,nF,kW];by_cases c:(a.name==n1)=true
  ·by_cases b:(a.name==n2)=true
   ·exact absurd ((bZ.1 c).symm.trans (bZ.1 b)) d
   ·rw[ah c,ae b];show a.val.length+1+_≤_;omega
  ·rw[ae c];by_cases b:(a.name==n2)=true
   ·rw[ah b];show _+(a.val.length+1)≤_;omega
   ·rw[ae b];omega
theorem RG{P:fx}{deep:Deep}(b:Rv P deep)(base:U)(l:List bQ):kV P.inc (bV l) (fun S a=>oQ P deep base l S a):=by rw[B6];exact((Ol b base _).Tu ((Ol b base _).Tu (kV.same (w:=0) fun _ _=>if(bG l dj).isSome then .yes [] else .no))).mono (by have:=N2 (n1:=lC) (n2:=lD) (by decide) l;omega)
theorem Jw(x:Ex):cC x≤cu x:=by
 refine Ex.ind (P:=fun x=>cC x≤cu x) (fun k t u l a=> ?_) x;rw[cC,cu];have:j6 l≤jc l:=by
  clear k t u;induction l with
  |nil=>rw[j6];exact aH _
  |cons y r c=>rw[j6,jc];have d:=a y (by simp);have e:=c fun z b=>a z (by simp[b]);omega
 omega
theorem As(P:fx)(l:List bQ)(h:(gd l).2.2=0):(cT (bt (gr P.h P.t P.fs) (gd l).1).2).length≤bV l:=by
 have b:=nG (gr P.h P.t P.fs) (gd l).1;have c:=Jw (gd l).1;have d:cu (gd l).1≤2*((bG l gT).getD []).length:=(At h).2;have e:2*((bG l gT).getD []).length≤bV l:=by
  clear h b c d;induction l with
  |nil=>exact aH _
  |cons a r i=>
   rw[nF,kW];split
   ·show 2*a.val.length≤_;omega
   ·omega
 unfold cT;rw[jo];omega
theorem RH{P:fx}{l:List bQ}{b e:Nat}{c d:Cm}(m:kV P.inc b c)(i:kV P.inc e d):kV P.inc (bV l+1+b+e) (AA P l c d):=fun S a r n=>by
 unfold AA;have j:bq P.inc S.step (bV l+b+e+r):=bq.step (n.less (by omega));by_cases h:(gd l).2.2≠0
 ·rw[ah h];exact i _ _ _ (j.less (by omega))
 ·rw[ae h];have o:=As P l (Decidable.of_not_not h);have k:bq P.inc (S.step.read (cT (bt (gr P.h P.t P.fs) (gd l).1).2)) (b+e+r):=bq.read (j.less (by omega));split
  ·exact m _ _ _ (k.less (by omega))
  ·exact i _ _ _ (k.less (by omega))
theorem Jy(x:Nd):bV x.attrs+3+wL x.kids≤wN x:=by obtain⟨k,p,t,a,l⟩:=x;rw[wN];show bV a+3+wL l≤_;omega
theorem JB{P:fx}{deep:Deep}(G:Rv P deep)(base:U)(n:Nd):sy n→(∀vs,kV P.inc (wN n) (fun S a=>bT P deep base n vs S a))∧∀vs,kV P.inc (wL n.kids) (fun S a=>oT P deep base n vs S a):=by
 refine Nd.ind (P:=fun n=>sy n→(∀vs,kV P.inc (wN n) (fun S a=>bT P deep base n vs S a))∧∀vs,kV P.inc (wL n.kids) (fun S a=>oT P deep base n vs S a)) (fun k p t a l E B=> ?_) n;rw[sy] at B;obtain⟨H,u1,u2,u3,u4,C⟩:=B;clear u1 u2 u3 u4;have b:∀x,x∈l→(∀vs,kV P.inc (wN x) (fun S a=>bT P deep base x vs S a))∧∀vs,kV P.inc (wL x.kids) (fun S a=>oT P deep base x vs S a):=fun x D=>E x D (C.get D);clear E C;have e:∀vs,kV P.inc (wL l) (fun S a=>dJ P deep base l vs S a):=fun vs=>by
  induction l with
  |nil=>simp only[AB];exact kV.same (fun _ _=>.yes [])
  |cons x r i=>rw[rm,wL];exact((b x (by simp)).1 vs).seq (i fun y d=>b y (by simp[d]))
 have z:∀(l:List Nd) vs,(∀x,x∈l→∀vs,kV P.inc (wN x) (fun S a=>bT P deep base x vs S a))→kV P.inc (wL l) (fun S a=>qJ P deep base l vs S a):=fun l vs h=>by
  cases l with
  |nil=>simp only[AD];exact kV.same (fun _ _=>.no)
  |cons x r=>simp only[xC];rw[wL];exact(h x (by simp) vs).mono (by omega)
 have A:∀vs,kV P.inc (wL l) (fun S a=>ot P deep base l vs S a):=fun vs=>by
  cases l with
  |nil=>simp only[AE];exact kV.same (fun _ _=>.no)
  |cons x r=>rw[rp,wL];exact((b x (by simp)).1 vs).Tu (z r vs fun y d=>(b y (by simp[d])).1)
 have F:∀vs,kV P.inc (wL l) (fun S a=>eK P deep base l vs S a):=fun vs=>by
  clear e A z;induction l with
  |nil=>simp only[AF];exact kV.same (fun _ _=>.yes [])
  |cons x r i=>
   rw[wL];by_cases h:x.kind=12
   ·simp only[vf _ _ _ x r vs h];exact((b x (by simp)).1 vs).mono (by omega)
   ·rw[rq _ _ _ x r vs h];exact(RH ((b x (by simp)).2 vs) (i fun y d=>b y (by simp[d]))).mono (by have:=Jy x;omega)
 refine⟨fun vs=> ?_,fun vs=>by simp only[xx];exact e vs⟩;have key:∀{w:Nat} {c:Cm},kV P.inc w c→w+1≤t.length+3+bV a+wL l→kV P.inc (wN (.mk k p t a l)) (fun S n=>c S.step n):=fun h I=>by rw[wN];exact h.step.mono I
 simp only[xy];by_cases m:k=2
 ·simp only[ah m];exact key (RF P vs t) (by omega)
 simp only[ae m];by_cases q:k=4
 ·simp only[ah q];exact key (Uk (base:=base) (a:=a) H) (by omega)
 simp only[ae q];by_cases s:k=5∨k=6
 ·simp only[ah s];exact key (w:=0) (kV.same (fun _ _=>.yes [])) (by omega)
 simp only[ae s];by_cases o:k=3
 ·simp only[ah o];exact key (RG G base a) (by omega)
 simp only[ae o];by_cases u:k=7
 ·simp only[ah u];exact key (A vs) (by omega)
 simp only[ae u];by_cases j:k=10
 ·simp only[ah j];exact key (F vs) (by omega)
 simp only[ae j];exact key (e _) (by omega)
def RJ(c:Cm):Prop:=∀S a b t,a≤262144→c S a=(b,.yes t)→a+t.length≤262144
theorem tY{t:Bs}{a:Nat}{S c:PS}{b:Bs}(h:(S,jq t a)=(c,Oc.yes b)):a+b.length≤262144:=by
 unfold jq at h;split at h
 ·cases h
 ·rename_i q;injection h with _ h;injection h with h;subst h;exact Nat.le_of_not_lt q
def Ul(deep:Deep):Prop:=∀f,deep=some f→∀u n,RJ (fun S a=>f u n S a)
theorem JC{f:U→Nd→PS→Nat→PS×Oc}(d:∀u n,RJ (fun S a=>f u n S a))(u:U)(g:j5):RJ (fun S a=>zx f u S a g):=fun S a b t c h=>by
 have h:zx f u S a g=(b,.yes t):=h;unfold zx at h;split at h
 ·cases h
 split at h
 ·exact tY h
 split at h
 ·cases h
 ·exact d _ _ S a b t c h
theorem AG(P:fx){deep:Deep}(base:U)(i:Ul deep):JD P P deep deep base (fun c _=>RJ c) where
 nil:=fun S a e t b h=>by injection h with _ h;injection h with h;rw[←h];exact b
 no:=fun S a e t b h=>by cases h
 step:=fun k S a e t b h=>k S.step a e t b h
 text:=fun vs t S a e j b h=>by
  have h:lS P vs t S a=(e,.yes j):=h;unfold lS at h;split at h
  ·exact tY h
  ·split at h
   ·cases h
   ·exact tY h
 inl:=fun a t S n e j b h=>by injection h with _ h;injection h with h;rw[←h];exact b
 Tv:=fun s S a e t b h=>by
  replace h:gB P deep base S a s=(e,.yes t):=h;unfold gB at h;dsimp only at h;split at h
  ·cases h
  split at h
  ·cases h
  split at h
  ·cases h
  rename_i f;unfold zw at h;split at h
  ·exact JC (i f rfl) _ _ _ a e t b h
  split at h
  ·cases h
  ·exact JC (i f rfl) _ _ _ a e t b h
 seq:=fun{c _ d _} k i S a e t b h=>by
  unfold K9 at h;have p:=k S a;revert h;cases hq:c S a with
  |mk m o=>
   cases o with
   |yes j=>
    have q:=p m j b hq;dsimp only;have u:=i m (a+j.length);cases w:d m (a+j.length) with
    |mk r o2=>
     cases o2 with
     |yes x=>have y:=u r x q w;intro h;injection h with _ h;injection h with h;rw[←h,bB];omega
     |no=>intro h;cases h
     |wait=>intro h;cases h
   |no=>intro h;cases h
   |wait=>intro h;cases h
 Tu:=fun{c _ d _} k i S a e t b h=>by
  unfold RE Au at h;have p:=k S a;revert h;cases hq:c S a with
  |mk m o=>
   cases o with
   |yes j=>have q:=p m j b hq;intro h;injection h with _ h;injection h with h;rw[←h];exact q
   |no=>exact fun h=>i m a e t b h
   |wait=>intro h;cases h
 test:=fun l {c _ d _} k i S a e t b h=>by
  unfold AA at h;split at h
  ·exact i _ a e t b h
  split at h
  ·exact k _ a e t b h
  ·exact i _ a e t b h
structure DM (P:fx) (deep:Deep) (base:U):Prop where
 room:∀x,sy x→∀vs S a w,bq P.inc S (wN x+w)→bq P.inc (bT P deep base x vs S a).1 w
 fit:∀x vs S a S1 t,a≤262144→bT P deep base x vs S a=(S1,.yes t)→a+t.length≤262144
theorem On{P:fx}{deep:Deep}(c:Rv P deep)(d:Ul deep)(base:U):DM P deep base:=
 ⟨fun x i vs S a w h=>(JB c base x i).1 vs S a w h,fun x vs S a b t e h=>(vg (AG P base d) x).1 vs S a b t e h⟩
