/- The row of PageBounds. -/
import Derived.Test.YtlemddnecmmfgaaGreatDoorJbf
set_option linter.unusedVariables false
set_option maxRecDepth 100000
set_option maxHeartbeats 8000000
namespace Go.Proofs.YtlemddnecmmfgaaGreatDoor
open Go.Lib
variable{b k:Bs}{i:List Tok}{a n:Nat}{d:Nd}{B:Tok}{j H:rf}
theorem abg(s:Bs):∀(f src i:Nat) (hid:Option Nat) (a l:List Tok) (j:Nat),gS s f src i hid a=.aq l j→∃q,l=a++q
 |0,_,_,_,_,_,_,h=>by unfold gS at h;cases h
 |f+1,src,i,hid,a,l,j,h=>by
  unfold gS at h;by_cases b:i<s.length
  ·rw[ah b] at h;dsimp only at h;by_cases c:dw (s.drop i) hid.isSome=0
   ·rw[ah c] at h;exact abg s f _ _ _ _ _ _ h
   ·rw[ae c] at h;cases d:fq s (dw (s.drop i) hid.isSome) i hid with
    |bad p e=>rw[d] at h;cases h
    |aq x m=>rw[d] at h;obtain⟨q,rfl⟩:=abg s f _ _ _ _ _ _ h;exact⟨dc s src i++x.1++q,by simp⟩
  ·rw[ae b] at h;cases hid with
   |some x=>cases h
   |none=>cases h;exact⟨_,rfl⟩
theorem acd(h:dB b a=.aq i n):∃t r,i=t::r∧(t.kind=2∨t.kind=3):=by
 unfold dB at h;dsimp only at h;split at h
 ·cases c:qw b a ((b.drop (a+5)).take (db b (a+5))) (a+5+db b (a+5)) with
  |bad p e=>rw[c] at h;cases h
  |aq t j=>
   rw[c] at h;have d:t.kind=2∨t.kind=3:=by
    have q:∀{k i j o t},gv b a ((b.drop (a+5)).take (db b (a+5))) i k j=.aq t o→t.kind=k:=by
     intro k i j o t h;unfold gv at h;split at h
     ·cases h
     ·split at h
      ·cases h;rfl
      ·cases h
    unfold qw at c;split at c
    ·cases c
    ·split at c
     ·exact .inr (q c)
     ·exact .inl (q c)
   dsimp only at h;split at h
   ·split at h
    ·cases h
    ·cases h;exact⟨_,_,rfl,d⟩
   ·cases h;exact⟨_,_,rfl,d⟩
 ·cases h
theorem abU(h:de b a=.aq i n):∃t r,i=t::r∧t.kind=4:=by
 unfold de at h;dsimp only at h;split at h
 ·split at h
  ·cases h
  ·split at h
   ·cases h;exact⟨_,_,rfl,rfl⟩
   ·cases h
 ·cases h
theorem acK(r:Bs):dw r false≤3:=by
 unfold dw;split
 ·omega
 split
 ·omega
 split
 ·omega
 rw[CU];simp
theorem ace{m:Nat}{x:List Tok×Option Nat}(q:a≤3)(u:a≠0)(h:fq b a n none=.aq x m):∃t r,x.1=t::r∧(t.kind=2∨t.kind=3∨t.kind=4∨t.kind=5):=by
 unfold fq at h;by_cases d:a=1
 ·rw[ah d] at h;cases c:dB b n with
  |bad p e=>rw[c] at h;cases h
  |aq l j=>rw[c] at h;cases h;obtain⟨t,r,e,q⟩:=acd c;exact⟨t,r,e,by omega⟩
 rw[ae d] at h;by_cases o:a=2
 ·rw[ah o] at h;cases c:de b n with
  |bad p e=>rw[c] at h;cases h
  |aq l j=>rw[c] at h;cases h;obtain⟨t,r,e,q⟩:=abU c;exact⟨t,r,e,by omega⟩
 rw[ae o,ah (by omega)] at h;cases h;exact⟨_,_,rfl,.inr (.inr (.inr rfl))⟩
theorem abD(s:Bs):∀(f src i:Nat) (b l:List Tok) (j:Nat),gS s f src i none b=.aq l j→
 ((∀m,i≤m→m<s.length→dw (s.drop m) false=0)∧l=b++dc s src (max i s.length))∨
 ∃p t r,l=b++dc s src p++t::r∧(t.kind=2∨t.kind=3∨t.kind=4∨t.kind=5)
 |0,_,_,_,_,_,h=>by unfold gS at h;cases h
 |f+1,src,i,b,l,j,h=>by
  unfold gS at h;by_cases k:i<s.length
  ·rw[ah k] at h;dsimp only at h;by_cases a:dw (s.drop i) (none:Option Nat).isSome=0
   ·rw[ah a] at h;rcases abD s f _ _ _ _ _ h with⟨o,c⟩|c
    ·refine .inl ⟨fun m y n=> ?_, ?_⟩
     ·rcases aaN i m with w|z
      ·exact o m w n
      ·obtain rfl:m=i:=by omega
       exact a
     ·rw[c,Nat.max_eq_right (show i+1≤s.length by omega),Nat.max_eq_right (by omega)]
    ·exact .inr c
   ·rw[ae a] at h;cases d:fq s (dw (s.drop i) (none:Option Nat).isSome) i none with
    |bad p e=>rw[d] at h;cases h
    |aq x m=>rw[d] at h;obtain⟨q,rfl⟩:=abg s f _ _ _ _ _ _ h;obtain⟨t,r,e,u⟩:=ace (acK _) a d;exact .inr ⟨i,t,r++q,by rw[e];simp,u⟩
  ·rw[ae k] at h;cases h;refine .inl ⟨fun m y n=>by omega, ?_⟩;rw[Nat.max_eq_left (by omega)]
def Met:Nd→List Nd→Prop
 |top,[]=>∃k∈top.kids,k.kind≠2
 |top,[y]=>top.kind≠2∨∃k∈y.kids,k.kind≠2
 |_,y::z::r=>Met y (z::r)
theorem abl{a b:Nd}(c:a.kind=b.kind)(d:∀x∈a.kids,x∈b.kids):∀{l:List Nd},Met a l→Met b l
 |[],h=>by obtain⟨x,e,c⟩:=h;exact⟨x,d x e,c⟩
 |[y],h=>by
  rcases h with h|h
  ·exact .inl (by rw[←c];exact h)
  ·exact .inr h
 |y::z::r,h=>by unfold Met at h⊢;exact h
theorem abV(n:Nd):∀{l:List Nd},Met d l→Met n (d::l)
 |[],h=>.inr h
 |[y],h=>by unfold Met;exact h
 |y::z::r,h=>by unfold Met;exact h
theorem aaO(a n:Nd):(fV a n).kids=a.kids++[n]:=rfl
theorem acL{y:Nd}:∀{r:List Nd},Met d (y::r)→Met (fV y d) r
 |[],h=>by
  rcases h with h|⟨x,c,e⟩
  ·exact⟨d,by rw[aaO];simp,h⟩
  ·exact⟨x,by rw[aaO];simp[c],e⟩
 |z::r,h=>by unfold Met at h;exact abl (a:=y) (b:=fV y d) rfl (fun x c=>by rw[aaO];simp[c]) h
theorem abm{e:Option (Nat×Int)}(h:px e j=.aq H):H=j:=by
 unfold px at h;cases e with
 |none=>cases h;rfl
 |some p=>cases h
theorem acD(h:lM j B=.aq H)(c:Met j.top j.below):Met H.top H.below:=by
 unfold lM at h;split at h
 ·unfold Dv at h;split at h
  ·cases h;exact abl (a:=j.top) (b:=fV j.top (.mk 2 B.src B.text [] [])) rfl (fun k d=>by rw[aaO];simp[d]) c
  ·split at h
   ·cases h;exact c
   ·cases h
 split at h
 ·cases h;exact abl (a:=j.top) (b:=vN j.top B.text) rfl (fun k d=>d) c
 split at h
 ·unfold BL at h;have:=abm h;subst this;split
  ·exact abl (a:=j.top) (b:=fV j.top (.mk (kindOf B.name) B.src [] B.attrs [])) rfl (fun k d=>by rw[aaO];simp[d]) c
  ·exact abV _ c
 split at h
 ·unfold Jo at h;have:=abm h;subst this;exact abV _ c
 ·unfold Q9 at h;generalize(if B.kind=4 then kindOf B.name else 14)=k at h;dsimp only at h;by_cases e:j.top.kind≠k∨(k=7∧Xs j.top≠9)∨(k=10∧Xs j.top=0)
  ·rw[ah e] at h;cases h
  ·rw[ae e] at h;obtain⟨i,below⟩:=j;cases below with
   |nil=>cases h
   |cons l r=>cases h;exact acL c
theorem abE:∀{l:List Tok} {x y:rf},fX x l=.aq y→Met x.top x.below→Met y.top y.below
 |[],x,y,h,a=>by cases h;exact a
 |t::r,x,y,h,a=>by
  unfold fX at h;split at h
  ·cases h
  ·rename_i z b;exact abE h (acD b a)
theorem abe(nm:Bs):3≤kindOf nm:=by unfold kindOf;repeat(first|omega|split)
theorem acu(b:d.kind=1)(c:B.kind=2∨B.kind=3∨B.kind=4∨B.kind=5)(h:lM ⟨d,[]⟩ B=.aq j):Met j.top j.below:=by
 unfold lM at h;rw[ae (by omega),ae (by omega)] at h;split at h
 ·unfold BL at h;have:=abm h;subst this;have a:=abe B.name;split
  ·exact⟨.mk (kindOf B.name) B.src [] B.attrs [],by rw[aaO];simp,by show kindOf B.name≠2;omega⟩
  ·exact .inl (by show kindOf B.name≠2;omega)
 split at h
 ·unfold Jo at h;have:=abm h;subst this;exact .inl (by show(14:Int)≠2;decide)
 ·unfold Q9 at h;dsimp only at h;rw[ah] at h
  ·cases h
  ·left;have a:=abe B.name;rw[b];split<;>omega
theorem aaR(h:∀m,m<b.length→hasPrefix (b.drop m) k=false)(d:k≠[]):contains b k=false:=by
 unfold contains;rcases index_spec b k with⟨e,_⟩|⟨i,e,n,c,_⟩
 ·rw[e];rfl
 ·exfalso;unfold occAt at c;rcases aaN i b.length with l|j
  ·have:=h i l;unfold hasPrefix at this;rw[this] at c;cases c
  ·rw[qA j] at c;cases k with
   |nil=>exact d rfl
   |cons a t=>cases c
theorem abh(h:dw b false=0):hasPrefix b eY=false∧hasPrefix b bD=false∧(hasPrefix b jv&&((b.drop 7).head?.map mE).getD false)=false:=by
 unfold dw at h;split at h
 ·cases h
 rename_i a;split at h
 ·cases h
 rename_i c;split at h
 ·cases h
 rename_i d;exact⟨by simpa using a,by simpa using c,by simpa using d⟩
theorem acv{c:UInt8}(h:hasPrefix b (k++[c])=true):hasPrefix b k=true∧(b.drop k.length).head?=some c:=by unfold hasPrefix at h⊢;rw[CW] at h⊢;obtain⟨t,rfl⟩:=h;exact⟨⟨[c]++t,by simp⟩,by simp⟩
theorem abz(h:∀m,m<b.length→dw (b.drop m) false=0):si b=false:=by
 unfold si;rw[aaR (fun m a=>(abh (h m a)).1) (by decide),aaR (fun m a=>(abh (h m a)).2.1) (by decide)];rw[Bool.false_or,Bool.false_or,aaV];intro c l;rw[Bool.not_eq_true];refine aaR (fun m a=> ?_) (by simp[jv]);rw[Bool.eq_false_iff];intro e;obtain⟨j,d⟩:=acv e;have i:=(abh (h m a)).2.2;have k:mE c=true:=by rw[←An];exact r8.2 l
 have d:((b.drop m).drop 7).head?=some c:=d;rw[j,d] at i;simp[k] at i
theorem acE(t:Tok):∃n,∀m,n≤m→abL m t:=by
 have:∃n,∀m,n≤m→∀a∈t.attrs,a.place.toNat≤m:=by
  induction t.attrs with
  |nil=>exact⟨0,fun m _ a h=>by cases h⟩
  |cons b r i=>
   obtain⟨n,d⟩:=i;refine⟨n+b.place.toNat,fun m e a c=> ?_⟩;rcases bL.1 c with rfl|c
   ·omega
   ·exact d m (by omega) a c
 obtain⟨n,d⟩:=this;exact⟨n+t.src+t.bJ,fun m e=>⟨by omega,by omega,d m (by omega)⟩⟩
theorem abf:∀l:List Tok,∃n,∀t∈l,∀m,n≤m→abL m t
 |[]=>⟨0,fun t h=>by cases h⟩
 |t::r=>by
  obtain⟨n,c⟩:=acE t;obtain⟨k,b⟩:=abf r;refine⟨n+k,fun u a m d=> ?_⟩;rcases bL.1 a with rfl|a
  ·exact c m (by omega)
  ·exact b u a m (by omega)
def acO(r:Px)(f:rf→Px):Px:=match r with|.bad p e=>.bad p e|.aq y=>f y
theorem fo(x:rf)(t:Tok)(r:List Tok):fX x (t::r)=acO (lM x t) fun y=>fX y r:=by rw[fX];rfl
theorem abF:∀(l r:List Tok) (x:rf),fX x (l++r)=acO (fX x l) fun y=>fX y r
 |[],r,x=>rfl
 |t::l,r,x=>by
  rw[di,fo,fo];cases lM x t with
  |bad p e=>rfl
  |aq y=>exact abF l r y
theorem abG(a:d.kind=1)(b:B.kind=1):lM ⟨d,[]⟩ B=.aq ⟨fV d (.mk 2 B.src B.text [] []),[]⟩:=by unfold lM Dv;rw[ah b,ah (by dsimp only;rw[a];exact⟨by decide,by decide⟩)]
theorem abW(h:gW b=(d,a,0))(i:d.kids=[]∨∃x,d.kids=[x]∧x.kind=2):
 (∀m,m<b.length→dw (b.drop m) false=0)∧d=.mk 1 0 [] [] (if b=[] then[] else[.mk 2 0 b [] []]):=by
 unfold gW at h;split at h
 ·cases h
 have F:=C4 b;cases A:lexB b with
 |bad q e=>
  rw[A] at h F;exfalso;have K:e=0:=by injection h with _ h;injection h
  have:=F.2;omega
 |aq l j=>
  rw[A] at h;dsimp only at h;obtain⟨n,N⟩:=abf l;have G:=abo (n:=n) (l:=l) (x:=⟨lN,[]⟩) (fun d O=>N d O n (ag _)) rfl;cases c:fX ⟨lN,[]⟩ l with
  |bad q e=>
   rw[c] at h G;exfalso;have K:e=0:=by injection h with _ h;injection h
   have:=G.2;omega
  |aq x=>
   rw[c] at h;dsimp only at h;split at h
   ·rename_i E;rw[List.isEmpty_iff] at E;injection h with I S;subst I;unfold lexB at A;rcases abD b _ _ _ _ _ _ A with⟨J,o⟩|⟨q,d,r,o,L⟩
    ·refine⟨fun m B=>J m (aH _) B, ?_⟩;rw[Nat.max_eq_right (aH _),kK] at o;subst o;unfold dc at c;by_cases C:b=[]
     ·subst C;cases c;rfl
     ·have H:0<b.length:=abb.2 C;rw[ah H] at c;rw[ae C];rw[fo,abG rfl rfl] at c;cases c;simp[fV,Nd.kind,Nd.place,Nd.text,Nd.attrs,Nd.kids,cS,GO,lN]
    ·exfalso;subst o;rw[kK,abF] at c;have key:∀y:Nd,y.kind=1→fX ⟨y,[]⟩ (d::r)=.aq x→False:=fun y R c=>by
      unfold fX at c;cases D:lM ⟨y,[]⟩ d with
      |bad a e=>rw[D] at c;cases c
      |aq z=>
       rw[D] at c;have B:=abE c (acu R L D);rw[E] at B;obtain⟨k,u,M⟩:=B;rcases i with i|⟨w,i,Q⟩
       ·rw[i] at u;cases u
       ·rw[i,fj] at u;exact M (u▸Q)
     unfold dc at c;split at c
     ·rw[fo,abG rfl rfl] at c;exact key (fV lN (.mk 2 (cS b 1 [] [] 0 q).src (cS b 1 [] [] 0 q).text [] [])) rfl c
     ·exact key _ rfl c
   ·cases h
theorem acf(h:∀m,m<b.length→dw (b.drop m) false=0):xe (.mk 1 0 [] [] (if b=[] then[] else[.mk 2 0 b [] []]))=0:=by
 unfold xe;rw[ah (show(Nd.mk 1 0 [] [] _).kind=1 from rfl)];by_cases a:b=[]
 ·rw[ah a];simp[hX,mq,sq,aE,sj,Df]
 ·rw[ae a];have c:b.isEmpty=false:=by cases b with|nil=>exact(a rfl).elim|cons=>rfl
  simp[hX,mq,sq,aE,sj,Df,zT,oI,Nd.kind,c,abz h]
theorem acm(h:gW b=(d,a,0))(k:d.kids=[]∨∃x,d.kids=[x]∧x.kind=2)(l:b.length≤3000)(E:fx)(c:Nat)(base:U):
 (qK E c base d).ok=true∧(qK E c base d).out=b∧(qK E c base d).work=1+d.kids.length:=by
 obtain⟨i,rfl⟩:=abW h k;unfold qK;rw[ah (acf i),xy,ae (by decide),ae (by decide),ae (by decide),ae (by decide),ae (by decide),ae (by decide)];by_cases e:b=[]
 ·subst e;rw[ah rfl,AB];exact⟨rfl,rfl,rfl⟩
 ·rw[ae e,dJ,xy,ah rfl];unfold lS;have j:jq b 0=.yes b:=by unfold jq;rw[ae];have:oP=262144:=rfl;omega
  simp only[Bool.false_or];rw[ah (by decide),j];simp only[AB,jm];exact⟨rfl,rfl,rfl⟩
variable{w:Bool}{d b:Bs}{i:List Tok}{u n p:Nat}{B:Tok}
structure acN (h:Bool) (t:Bs):Prop where
 ne:t≠[]
 tag:si t=false
 sh:h=true→contains t oJ=false
def abw(l:List bQ):Prop:=(∀a∈l,Dd a.val=false)∧(l.map (·.name)).Nodup
def aci(nm t:Bs):Prop:=contains t (bD++nm)=false∧(nm=bS→contains t eY=false)
inductive Gr:Bool→Bool→List Tok→Prop
 |nil {p:Bool}:Gr false p []
 |text {h:Bool} {t:Tok} {r:List Tok}:t.kind=1→acN h t.text→Gr h true r→Gr h false (t::r)
 |tag {h p:Bool} {t:Tok} {r:List Tok}:(t.kind=2∨t.kind=3)→abw t.attrs→¬(t.kind=2∧(t.name=bS∨t.name=cF))→Gr h false r→Gr h p (t::r)
 |raw {h p:Bool} {t q c:Tok} {r:List Tok}:t.kind=2→(t.name=bS∨t.name=cF)→abw t.attrs→q.kind=7→aci t.name q.text→c.kind=4→Gr h false r→Gr h p (t::q::c::r)
 |close {h p:Bool} {t:Tok} {r:List Tok}:t.kind=4→Gr h false r→Gr h p (t::r)
 |acG {p:Bool} {t:Tok} {r:List Tok}:t.kind=5→Gr true false r→Gr false p (t::r)
 |shown {p:Bool} {t:Tok} {r:List Tok}:t.kind=6→Gr false false r→Gr true p (t::r)
theorem aaQ(h:hasPrefix (d.take u) b=true):hasPrefix d b=true:=by unfold hasPrefix at h⊢;rw[CW] at h⊢;exact h.t (List.take_prefix u d)
theorem abp(e:dw d w=0):hasPrefix d eY=false∧hasPrefix d bD=false∧(hasPrefix d jv&&((d.drop 7).head?.map mE).getD false)=false∧(w=true→hasPrefix d oJ=false):=by
 unfold dw at e;split at e
 ·cases e
 rename_i b;split at e
 ·cases e
 rename_i c;split at e
 ·cases e
 rename_i i;split at e
 ·cases e
 rename_i a;exact⟨by simpa using b,by simpa using c,by simpa using i,fun j=>by rw[j,Bool.and_true] at a;simpa using a⟩
theorem aco(e:dw d w=0)(n:Nat):dw (d.take n) false=0:=by
 obtain⟨i,j,c,-⟩:=abp e;unfold dw;rw[ae (fun q=>by rw[aaQ q] at i;cases i),ae (fun q=>by rw[aaQ q] at j;cases j),ae (fun q=> ?_),ae (by simp)];rw[cW] at q;rw[aaQ q.1,aaP] at c;have b:=q.2;rw[List.drop_take] at b;cases m:d.drop 7 with
 |nil=>rw[m] at b;simp at b
 |cons a r=>
  rw[m] at c b;cases o:n-7 with
  |zero=>rw[o] at b;simp at b
  |succ k=>rw[o] at b;simp at b c;rw[c] at b;cases b
theorem abM(s:Bs)(i j m:Nat):(GO s i j).drop m=(s.drop (i+m)).take (j-i-m):=by unfold GO;rw[List.drop_take,fh]
theorem acH{i j:Nat}(k:i<j)(l:j≤d.length)(e:∀m,i≤m→m<j→dw (d.drop m) w=0):acN w (GO d i j):=by
 have a:(GO d i j).length=j-i:=by unfold GO;rw[gu,bK];omega
 refine⟨fun q=> ?_,abz fun m c=> ?_,fun b=>aaR (fun m c=> ?_) (by decide)⟩
 ·rw[q] at a;simp at a;omega
 ·rw[abM];exact aco (e (i+m) (by omega) (by omega)) _
 ·rw[abM,Bool.eq_false_iff];intro q;have:=(abp (e (i+m) (by omega) (by omega))).2.2.2 b;rw[aaQ q] at this;cases this
theorem acp{l:List bQ}{a:bQ}(h:fU d u n l=.aq a p):Dd a.val=false∧a.name∉l.map (·.name):=by
 unfold fU at h;dsimp only at h;split at h
 ·cases h
 rename_i o;split at h
 ·cases h
 split at h
 ·split at h
  ·cases h
  ·rename_i m q _;split at h
   ·rename_i c;split at h
    ·injection h with h;subst h;refine⟨?_,fun r=> ?_⟩
     ·have j:=Mu m q;show((upto m q).contains 34&&(upto m q).contains 39)=false;rw[wH,bZ,bZ] at c;rcases c with rfl|rfl
      ·rw[j];rfl
      ·rw[j,CU]
     ·obtain⟨b,k,e⟩:=qE.1 r;exact o (lF.2 ⟨b,k,by rw[bZ];exact e.symm⟩)
    ·cases h
   ·cases h
 ·cases h
theorem abq{s:Bs}{tag:Nat}:∀(f i:Nat) (l:List bQ) {d:List bQ} {j:Nat},abw l→cE s tag f i l=.aq d j→abw d
 |0,i,l,d,j,_,h=>by unfold cE at h;cases h
 |f+1,i,l,d,j,k,h=>by
  unfold cE at h;dsimp only at h;split at h
  ·cases h
  split at h
  ·injection h with h;subst h;exact k
  split at h
  ·cases h
  split at h
  ·cases h
  ·rename_i a t p;obtain⟨n,o⟩:=acp p;refine abq f t _ ⟨fun b c=> ?_, ?_⟩ h
   ·rcases gZ.1 c with c|c
    ·exact k.1 b c
    ·rw[fj.1 c];exact n
   ·rw[List.map_append,List.nodup_append];exact⟨k.2,by simp,fun x q y m=>by simp at m;subst m;exact fun e=>o (e▸q)⟩
theorem acI(h:qw d u b n=.aq B p):abw B.attrs∧B.name=b∧(B.kind=2∨B.kind=3):=by
 have key:∀{l:List bQ} {k:Int} {j:Nat},abw l→(k=2∨k=3)→gv d u b l k j=.aq B p→abw B.attrs∧B.name=b∧(B.kind=2∨B.kind=3):=fun e q c=>by
  unfold gv at c;split at c
  ·cases c
  ·split at c
   ·injection c with c;subst c;exact⟨e,rfl,q⟩
   ·cases c
 unfold qw at h;split at h
 ·cases h
 ·rename_i l j o;have e:=abq _ _ [] ⟨fun a h=>(by cases h),List.nodup_nil⟩ o;split at h
  ·exact key e (.inr rfl) h
  ·exact key e (.inl rfl) h
theorem acQ(i:b≠[])(h:NoOcc d b u):contains (d.take u) b=false:=aaR (fun m c=>by
 have e:m<u:=by rw[gu] at c;omega
 rw[Bool.eq_false_iff];intro q;rw[List.drop_take] at q;have:=h m e;unfold occAt at this;have a:=aaQ q;unfold hasPrefix at a;rw[a] at this;cases this) i
theorem acy(h:iU d b u n=.aq B p):B.kind=7∧aci b B.text∧hasPrefix (d.drop p) bD=true:=by
 unfold iU at h;dsimp only at h;split at h
 ·cases h
 rename_i j;split at h
 ·cases h
 rename_i c;injection h with h o;subst h o;rcases index_spec (d.drop n) (bD++b) with⟨e,_⟩|⟨k,e,y,a,w⟩
 ·rw[e] at j;exact absurd (by decide) j
 rw[e] at c⊢;have r:((k:Int)).toNat=k:=rfl;rw[r] at c⊢;have l:GO d n (n+k)=(d.drop n).take k:=by unfold GO;rw[zQ]
 refine⟨rfl,⟨?_,fun x=> ?_⟩, ?_⟩
 ·show contains (GO d n (n+k)) _=false;rw[l];exact acQ (by simp[bD]) w
 ·show contains (GO d n (n+k)) _=false;rw[l];unfold contains;rw[wJ];exact fun q=>c ⟨q,x⟩
 ·unfold occAt at a;rw[fh] at a;unfold hasPrefix;rw[CW] at a⊢;exact(List.prefix_append _ _).t a
theorem aaW(h:Bool)(e:hasPrefix d bD=true):dw d h=2:=by unfold dw;rw[ae ?_,ah e];intro q;unfold hasPrefix at e q;rw[CW] at e q;obtain⟨a,rfl⟩:=e;obtain⟨b,c⟩:=q;simp[eY,bD] at c
theorem acq(h:dB d u=.aq i n):
 (∃t,i=[t]∧(t.kind=2∨t.kind=3)∧abw t.attrs∧¬(t.kind=2∧(t.name=bS∨t.name=cF)))∨
 ∃t q,i=[t,q]∧t.kind=2∧(t.name=bS∨t.name=cF)∧abw t.attrs∧q.kind=7∧aci t.name q.text∧hasPrefix (d.drop n) bD=true:=by
 unfold dB at h;dsimp only at h;split at h
 ·split at h
  ·cases h
  ·rename_i t j o;obtain⟨e,b,l⟩:=acI o;split at h
   ·rename_i a;split at h
    ·cases h
    ·rename_i r k p;injection h with h c;subst h c;obtain⟨w,x,y⟩:=acy p;exact .inr ⟨t,r,rfl,a.1,by rw[b];exact a.2,e,w,by rw[b];exact x,y⟩
   ·rename_i a;injection h with h c;subst h c;exact .inl ⟨t,rfl,l,e,by rw[b];exact a⟩
 ·cases h
theorem abZ(h:de d u=.aq i n):∃t,i=[t]∧t.kind=4:=by
 unfold de at h;dsimp only at h;split at h
 ·split at h
  ·cases h
  ·split at h
   ·injection h with h a;subst h a;exact⟨_,rfl,rfl⟩
   ·cases h
 ·cases h
theorem abA{r:Bs}{h:Bool}:dw r h≤4∧(dw r h=4→h=true):=by
 unfold dw;split
 ·exact⟨by decide,fun e=>by cases e⟩
 split
 ·exact⟨by decide,fun e=>by cases e⟩
 split
 ·exact⟨by decide,fun e=>by cases e⟩
 split
 ·rename_i q;rw[cW] at q;exact⟨by decide,fun _=>q.2⟩
 ·exact⟨by decide,fun e=>by cases e⟩
theorem Gr.any{p:Bool}(g:Gr w false i)(k:∀t r,i=t::r→t.kind≠1):Gr w p i:=by
 cases g with
 |nil=>exact .nil
 |text j _ _=>exact absurd j (k _ _ rfl)
 |tag a b c d=>exact .tag a b c d
 |raw a b c d e f g=>exact .raw a b c d e f g
 |close a b=>exact .close a b
 |acG a b=>exact .acG a b
 |shown a b=>exact .shown a b
theorem acz{h:Bool}{l:List Tok}(g:Gr h true l)(j:u≤n)(b:n≤d.length)(e:∀m,u≤m→m<n→dw (d.drop m) h=0)(a:Gr h false l):Gr h false (dc d u n++l):=by
 unfold dc;split
 ·rename_i c;exact .text rfl (acH c b e) g
 ·exact a
theorem aca(s:Bs):∀(f src i:Nat) (hid:Option Nat) (k:List Tok) {l:List Tok} {j:Nat},src≤i→i≤s.length→(∀m,src≤m→m<i→dw (s.drop m) hid.isSome=0)→gS s f src i hid k=.aq l j→
 ∃q,l=k++q∧Gr hid.isSome false q∧(src=i→hasPrefix (s.drop i) bD=true→∃c r,q=c::r∧c.kind=4∧Gr hid.isSome false r)
 |0,src,i,hid,k,l,j,_,_,_,h=>by unfold gS at h;cases h
 |f+1,src,i,hid,k,l,j,K,I,F,h=>by
  unfold gS at h;dsimp only at h;split at h
  ·rename_i J;split at h
   ·rename_i n;obtain⟨q,E,w,-⟩:=aca s f src (i+1) hid k (by omega) J (fun m M Y=>by
     rcases aaN m i with h|h
     ·exact F m M h
     ·obtain rfl:m=i:=by omega
      exact n) h
    exact⟨q,E,w,fun _ b=>by rw[aaW _ b] at n;cases n⟩
   ·rename_i n;split at h
    ·cases h
    ·rename_i x L a;have w:=mH J n;rw[a] at w;obtain⟨q,E,o,S⟩:=aca s f L L x.2 (k++dc s src i++x.1) (ag _) w.2 (fun m M Y=>by omega) h;have hq:∀{z:List Tok},Gr hid.isSome false z→(∀t r,z=t::r→t.kind≠1)→z=x.1++q→(src=i→hasPrefix (s.drop i) bD=true→∃c r,z=c::r∧c.kind=4∧Gr hid.isSome false r)→
      ∃q,l=k++q∧Gr hid.isSome false q∧(src=i→hasPrefix (s.drop i) bD=true→∃c r,q=c::r∧c.kind=4∧Gr hid.isSome false r):=fun{z} g gk Q R=>
      ⟨dc s src i++z,by rw[E,Q];simp,acz (g.any gk) K I F g,fun e b=>by obtain⟨c,r,B,C,D⟩:=R e b;refine⟨c,r, ?_,C,D⟩;unfold dc;rw[ae (by omega)];exact B⟩
     unfold fq at a;split at a
     ·rename_i H;split at a
      ·cases a
      ·rename_i X V G;injection a with a d;subst a d;have u:hasPrefix (s.drop i) bD=true→False:=fun b=>by rw[aaW _ b] at H;cases H
       rcases acq G with⟨t,rfl,a1,a2,a3⟩|⟨t,r,rfl,a1,a2,a3,a4,N,O⟩
       ·exact hq (z:=t::q) (.tag a1 a2 a3 o) (fun A y e=>by injection e with e _;subst e;omega) rfl (fun _ b=>(u b).elim)
       ·obtain⟨c,Z,B,C,D⟩:=S rfl O;subst B;exact hq (z:=t::r::c::Z) (.raw a1 a2 a3 a4 N C D) (fun A y e=>by injection e with e _;subst e;omega) rfl (fun _ b=>(u b).elim)
     ·rename_i H;split at a
      ·split at a
       ·cases a
       ·rename_i X V G;injection a with a d;subst a d;obtain⟨c,rfl,b⟩:=abZ G;exact hq (z:=c::q) (.close b o) (fun A y e=>by injection e with e _;subst e;omega) rfl (fun _ _=>⟨c,q,rfl,b,o⟩)
      ·rename_i W;have u:hasPrefix (s.drop i) bD=true→False:=fun b=>W (aaW _ b);split at a
       ·split at a
        ·cases a
        ·rename_i T;injection a with a d;subst a d;have p:hid.isSome=false:=by simpa using T
         rw[p];rw[p] at hq;exact hq (z:=cS s 5 [] [] i (i+8)::q) (.acG rfl o) (fun A y e=>by injection e with e _;subst e;show(5:Int)≠1;decide) rfl (fun _ b=>(u b).elim)
       ·rename_i k3;injection a with a d;subst a d;have p:hid.isSome=true:=(abA (r:=s.drop i)).2 (by have:=(abA (r:=s.drop i) (h:=hid.isSome)).1;omega);rw[p];rw[p] at hq;exact hq (z:=cS s 6 [] [] i (i+3)::q) (.shown rfl o) (fun A y e=>by injection e with e _;subst e;show(6:Int)≠1;decide) rfl (fun _ b=>(u b).elim)
  ·split at h
   ·cases h
   ·injection h with h _;subst h;refine⟨dc s src i,rfl, ?_,fun _ b=> ?_⟩
    ·have:=acz (l:=[]) (h:=false) (.nil) K I F .nil;simpa using this
    ·rename_i aa _;rw[qA (by omega)] at b;cases b
theorem acR{j:Nat}(h:lexB d=.aq i j):Gr false false i:=by obtain⟨q,a,b,-⟩:=aca d _ 0 0 none [] (ag _) (aH _) (fun m c e=>by omega) h;rw[a];exact b
variable{s:Bool}{k:Bs}{b:Int}{a:List Nd}{r:Nat}{d z:Nd}{i:Option (Nat×Int)}{B:Tok}{j H:rf}
def abi(l:List Nd):Bool:=l.any fun n=>decide (n.kind=14)
def abN(deep:Nat)(hid:Bool):Int→List Nd→Prop
 |_,[]=>True
 |b,x::r=>hX x deep hid b=0∧abN deep hid x.kind r
def lastOf(b:Int)(l:List Nd):Int:=match l.getLast? with|none=>b|some x=>x.kind
theorem abO(b:Int)(y:Nd)(r:List Nd):lastOf b (y::r)=lastOf y.kind r:=by
 unfold lastOf;cases r with
 |nil=>rfl
 |cons z q=>rw[List.getLast?_cons_cons];cases h:(z::q).getLast? with
  |none=>simp at h
  |some w=>rfl
theorem abP(b:Int)(l:List Nd)(x:Nd):lastOf b (l++[x])=x.kind:=by unfold lastOf;rw[List.getLast?_append];rfl
theorem abr{d:Nat}{h:Bool}{x:Nd}:∀{l:List Nd} {b:Int},abN d h b l→hX x d h (lastOf b l)=0→abN d h b (l++[x])
 |[],b,_,a=>⟨a,trivial⟩
 |y::r,b,c,a=>⟨c.1,abr c.2 (by rw[abO] at a;exact a)⟩
theorem abB{k:Int}{n d:Nat}{h:Bool}:∀(l:List Nd) (i:Nat) (b:Int),(∀(j:Nat) (x:Nd),l[j]? =some x→zT k x.kind (i+j) n=true)→abN d h b l→mq k n d h i b l=0
 |[],_,_,_,_=>by rw[mq]
 |x::r,i,b,c,a=>by have e:zT k x.kind i n=true:=c 0 x rfl;rw[mq,e,ae (by decide),ae (by rw[a.1];decide)];exact abB r (i+1) x.kind (fun j y m=>by have:=c (j+1) y (by simpa using m);rw[←oh,Nat.add_right_comm] at this;exact this) a.2
def abx(k:Int)(l:List Nd):Prop:=
 if k=7 then l.map Nd.kind=[]∨l.map Nd.kind=[8]∨l.map Nd.kind=[8,9]
 else if k=10 then(∃m,l.map Nd.kind=List.replicate m 11)∨∃m,0<m∧l.map Nd.kind=List.replicate m 11++[12]
 else∀x∈l,oI x.kind=true
theorem aba(n:Nd):Xs n=lastOf 0 n.kids:=rfl
theorem aaX(l:List Nd):lastOf 0 l=((l.map Nd.kind).getLast?).getD 0:=by unfold lastOf;rw[List.getLast?_map];cases l.getLast?<;>rfl
theorem abt(k:Int):abx k []:=by
 unfold abx;split
 ·exact .inl rfl
 split
 ·exact .inl ⟨0,rfl⟩
 ·intro x h;cases h
theorem acA(n:z.kind=b)(p:2≤b∧b≤14)(c:abx d.kind d.kids)(a:oy d b=true):abx d.kind (d.kids++[z]):=by
 unfold oy at a;rw[aba,aaX] at a;unfold abx at c⊢;rw[List.map_append,kg,List.map_nil,n];split at a
 ·rename_i l;rw[ah l] at c⊢;have a:=dv a;rcases c with e|e|e<;>rw[e] at a⊢
  ·rcases a with⟨rfl,_⟩|⟨_,h⟩
   ·exact .inr (.inl rfl)
   ·cases h
  ·rcases a with⟨_,h⟩|⟨rfl,_⟩
   ·cases h
   ·exact .inr (.inr rfl)
  ·rcases a with⟨_,h⟩|⟨_,h⟩<;>cases h
 ·rename_i l;rw[ae l] at c⊢;split at a
  ·rename_i j;rw[ah j] at c⊢;have a:=dv a;rcases c with⟨m,e⟩|⟨m,o,e⟩
   ·rw[e] at a⊢;rcases a with⟨rfl,_⟩|⟨rfl,h⟩
    ·exact .inl ⟨m+1,by rw[List.replicate_succ']⟩
    ·refine .inr ⟨m, ?_,rfl⟩;cases m with
     |zero=>cases h
     |succ m=>exact Nat.succ_pos m
   ·rw[e,List.getLast?_append] at a;rcases a with⟨_,h⟩|⟨_,h⟩
    ·exact absurd rfl h
    ·cases h
  ·rename_i j;rw[ae j] at c⊢;intro y i;rcases gZ.1 i with i|i
   ·exact c y i
   ·rw[fj.1 i,n];rw[aaU,wJ] at a;unfold oI;rw[eM];omega
theorem acB(d:abx b a)(t:b=7→lastOf 0 a=9):∀(j:Nat) (x:Nd),a[j]? =some x→zT b x.kind j a.length=true:=by
 intro j x s;have c:(a.map Nd.kind)[j]? =some x.kind:=by rw[uI,s];rfl
 have o:(a.map Nd.kind).length=a.length:=jo _;unfold abx at d;unfold zT;by_cases i:b=7
 ·rw[ah i] at d⊢;have n:=t i;rw[aaX] at n;rcases d with e|e|e<;>rw[e] at c n
  ·simp at c
  ·cases n
  ·match j,c with
   |0,c=>injection c with c;rw[←c];rfl
   |1,c=>injection c with c;rw[←c];rfl
   |j+2,c=>simp at c
 ·rw[ae i] at d⊢;by_cases p:b=10
  ·rw[ah p] at d⊢;rw[eM];rcases d with⟨m,e⟩|⟨m,u,e⟩
   ·rw[e,List.getElem?_replicate] at c;split at c
    ·injection c with c;exact .inl c.symm
    ·cases c
   ·rw[e] at c o;rw[bB,List.length_replicate] at o;rcases aaN j m with h|h
    ·rw[qC (by rw[List.length_replicate];exact h),List.getElem?_replicate,ah h] at c;injection c with c;exact .inl c.symm
    ·rw[jL (by rw[List.length_replicate];exact h),List.length_replicate] at c;cases r:j-m with
     |zero=>rw[r] at c;injection c with c;exact .inr ⟨c.symm,by omega,by simp at o;omega⟩
     |succ q=>rw[r] at c;simp at c
  ·rw[ae p] at d⊢;exact d x (eQ s)
structure aaS (n:Nd) (d:Nat) (h:Bool):Prop where
 kd:n.kind≠2∧n.kind≠3∧n.kind≠6
 dp:d≤16
 hd:¬(n.kind=14∧h=true)
 at_:sq n.kind n.attrs=true
 tx:sj n.kind n.text h=true
 all:abN (d+1) (h||decide (n.kind=14)) 0 n.kids
 ft:abx n.kind n.kids
 em:(n.kind=4∨n.kind=5)→n.kids=[]
theorem abu(o:aaS d r s)(i:d.kind=7→Xs d=9)(m:d.kind=10→Xs d≠0)(b:Int):hX d r s b=0:=by
 obtain⟨z,dp,w,at_,A,all,c,u⟩:=o;obtain⟨k,p,t,a,l⟩:=d;rw[aba] at i m;dsimp only[Nd.kind,Nd.attrs,Nd.text,Nd.kids] at z dp w at_ A all c u i m;have B:=acB c i;have C:Df k l.length=true:=by
  have G:k=7→l.length=2:=fun e=>by
   have:=i e;unfold abx at c;rw[ah e] at c;rw[aaX] at this;have y:(l.map Nd.kind).length=l.length:=jo _;rcases c with q|q|q<;>rw[q] at this y
   ·cases this
   ·cases this
   ·exact y.symm
  have E:k=10→l.length≠0:=fun e q=>m e (by rw[jn q];rfl);have F:(k=4∨k=5)→l.length=0:=fun e=>by rw[u e];rfl
  unfold Df;simp only[cW,aaU,Bool.and_eq_false_iff,wJ];refine⟨⟨?_, ?_⟩, ?_⟩<;>omega
 rw[hX,ae w,ae (by omega),ae (by rw[at_];decide),ae (by rw[A];simp;exact fun e=>(z.1 e).elim),ae (by rw[C];decide)];exact abB l 0 0 (fun j x D=>by rw[dH];exact B j x D) all
def abQ:Nd→List Nd→Prop
 |n,[]=>aaS n 0 false∧n.kind=1
 |n,y::r=>aaS n (r.length+1) (abi (y::r))∧oy y n.kind=true∧(3≤n.kind∧n.kind≤14)∧(y.kind≠4∧y.kind≠5)∧abQ y r
theorem abQ.op(h:abQ d a):aaS d a.length (abi a):=by
 cases a with
 |nil=>exact h.1
 |cons y r=>exact h.1
theorem abQ.replace(h:abQ d a)(b:z.kind=d.kind)(c:aaS z a.length (abi a)):abQ z a:=by
 cases a with
 |nil=>exact⟨c,b.t h.2⟩
 |cons y r=>exact⟨c,by rw[b];exact h.2.1,by rw[b];exact h.2.2.1,h.2.2.2.1,h.2.2.2.2⟩
theorem acr(o:aaS d r s)(c:hX z (r+1) (s||decide (d.kind=14)) (Xs d)=0)(b:abx d.kind (d.kids++[z]))(a:d.kind≠4∧d.kind≠5):aaS (fV d z) r s:=
 ⟨o.kd,o.dp,o.hd,o.at_,o.tx,abr o.all c,b,fun e=>(e.elim a.1 a.2).elim⟩
structure abJ (h p:Bool) (x:rf):Prop where
 st:abQ x.top x.below
 hs:abi (x.top::x.below)=h
 lt:p=false→Xs x.top≠2
 nr:x.top.kind≠4∧x.top.kind≠5
theorem abc(n:Nd)(l:List Nd):abi (n::l)=(decide (n.kind=14)||abi l):=rfl
theorem acJ(e:abi (d::a)=s):(abi a||decide (d.kind=14))=s:=by rw[←e,abc,Bool.or_comm]
theorem abj{h p q:Bool}(I:abJ h p ⟨d,a⟩)(i:2≤z.kind∧z.kind≤14)(c:oy d z.kind=true)(b:hX z (a.length+1) h (Xs d)=0)(hq:q=false→z.kind≠2):abJ h q ⟨fV d z,a⟩:=by
 refine⟨abQ.replace I.st rfl (acr I.st.op ?_ (acA rfl i I.st.op.ft c) I.nr),I.hs,fun e=> ?_,I.nr⟩
 ·rw[acJ I.hs];exact b
 ·rw[aba,aaO,abP];exact hq e
theorem abR{p b:Bool}(I:abJ s p ⟨d,a⟩)(k:aaS z (a.length+1) s)(j:oy d z.kind=true)(l:3≤z.kind∧z.kind≤14)(e:(decide (z.kind=14)||s)=b)(i:z.kids=[])(c:z.kind≠4∧z.kind≠5):abJ b false ⟨z,d::a⟩:=by
 refine⟨⟨by rw[I.hs];exact k,j,l,I.nr,I.st⟩, ?_,fun _=> ?_,c⟩
 ·rw[abc,I.hs];exact e
 ·rw[aba,i];decide
theorem acj{p:Bool}(I:abJ s p ⟨d,z::a⟩)(k:d.kind=7→Xs d=9)(i:d.kind=10→Xs d≠0):abJ (abi (z::a)) false ⟨fV z d,a⟩:=by obtain⟨c,m,b,j,n⟩:=I.st;have l:=abu c k i (Xs z);exact abj (p:=true) ⟨n,rfl,fun e=>(by cases e),j⟩ ⟨by have:=b.1;show 2≤d.kind;have:3≤d.kind:=b.1;omega,b.2⟩ m l (fun _=>c.kd.1)
theorem ack(h:px i j=.aq H):i=none∧H=j:=by
 unfold px at h;split at h
 ·injection h with h;exact⟨rfl,h.symm⟩
 ·cases h
theorem abk{b:Option (Nat×Int)}(h:mD i b=none):i=none∧b=none:=by
 unfold mD at h;split at h
 ·cases h
 ·exact⟨rfl,h⟩
theorem aaT:∀{l:List (Option (Nat×Int))},fW l=none→∀x∈l,x=none
 |none::r,h,x,a=>by
  rw[fW] at h;rcases bL.1 a with rfl|a
  ·rfl
  ·exact aaT h x a
 |some y::r,h,x,a=>by rw[fW] at h;cases h
theorem count_one{l:List bQ}(h:(l.map (·.name)).Nodup)(nm:Bs):cr l nm≤1:=by
 unfold cr;induction l with
 |nil=>exact aH _
 |cons a r i=>
  rw[kg,lI] at h;rw[List.filter_cons];split
  ·rename_i e;have:(r.filter fun b=>b.name==nm)=[]:=by rw[List.filter_eq_nil_iff];intro b d c;rw[bZ] at e c;exact h.1 (qE.2 ⟨b,d,by rw[c,e]⟩)
   rw[this];exact ag _
  ·exact i h.2
theorem abS(h:qZ b B=none)(d:abw B.attrs):sq b B.attrs=true:=by
 unfold qZ at h;obtain⟨i,j⟩:=abk h;unfold sq;rw[cW,eV,eV];refine⟨fun a e=> ?_,fun nm l=> ?_⟩
 ·have c:=aaT j _ (qE.2 ⟨a,e,rfl⟩);split at c
  ·rename_i q;rw[cW] at q;rw[q.1,q.2,d.1 a e,bN (count_one d.2 a.name)];rfl
  ·cases c
 ·have c:=aaT i _ (qE.2 ⟨nm,l,rfl⟩);split at c
  ·rename_i q;exact q
  ·cases c
theorem abC(nm:Bs):kindOf nm≤13:=by
 unfold kindOf
 repeat' split
 all_goals decide
theorem abv:(kindOf k=4→k=cF)∧(kindOf k=5→k=bS):=by
 unfold kindOf;by_cases c:k=eJ
 ·rw[ah c];exact⟨fun e=>(by cases e),fun e=>(by cases e)⟩
 rw[ae c];by_cases a:k=cF
 ·rw[ah a];exact⟨fun _=>a,fun e=>(by cases e)⟩
 rw[ae a];by_cases b:k=bS
 ·rw[ah b];exact⟨fun e=>(by cases e),fun _=>b⟩
 rw[ae b]
 repeat' split
 all_goals exact ⟨fun e=>(by cases e),fun e=>(by cases e)⟩
theorem abT(h:BL j B=.aq H):((kindOf B.name=3∨kindOf B.name=6)↔B.kind=3)∧oy j.top (kindOf B.name)=true∧j.below.length+1≤16∧qZ (kindOf B.name) B=none∧
 H=if kindOf B.name=3∨kindOf B.name=6 then⟨fV j.top (.mk (kindOf B.name) B.src [] B.attrs []),j.below⟩ else⟨.mk (kindOf B.name) B.src [] B.attrs [],j.top::j.below⟩:=by
 unfold BL at h;dsimp only at h;obtain⟨e,i⟩:=ack h;obtain⟨k,l⟩:=abk e;obtain⟨c,d⟩:=abk k;split at c
 ·cases c
 rename_i q;rw[wH,not_or,bne_iff_ne,ne_eq,Decidable.not_not,aaU,Bool.not_eq_false] at q;split at d
 ·cases d
 rename_i m;refine⟨?_,q.2,by omega,l, ?_⟩
 ·have:=q.1;by_cases a:kindOf B.name=3∨kindOf B.name=6
  ·rw[bN a] at this;exact⟨fun _=>dv this.symm,fun _=>a⟩
  ·rw[cL a] at this;exact⟨fun b=>(a b).elim,fun b=>absurd b (tF this.symm)⟩
 ·rw[i];by_cases a:kindOf B.name=3∨kindOf B.name=6
  ·rw[ah a,ah (bN a)]
  ·rw[ae a,ae (by rw[cL a];decide)]
theorem abd(k p:Int)(t:Bs)(a:List bQ)(d:Nat)(h:Bool)(b:Int)(c:¬(k=14∧h=true))(e:¬(k≠2∧16<d))(i:sq k a=true)(j:sj k t h=true)(l:¬(k=2∧b=2))(m:Df k 0=true):hX (.mk k p t a []) d h b=0:=by rw[hX,ae c,ae e,ae (by rw[i];decide),ae (by rw[j];simpa using l),ae (by rw[lH,m];decide),mq]
theorem acb(h:Q9 j B=.aq H):j.top.kind=(if B.kind=4 then kindOf B.name else 14)∧(j.top.kind=7→Xs j.top=9)∧(j.top.kind=10→Xs j.top≠0)∧∃z r,j.below=z::r∧H=⟨fV z j.top,r⟩:=by
 unfold Q9 at h;dsimp only at h;generalize(if B.kind=4 then kindOf B.name else 14)=k at h⊢;split at h
 ·cases h
 rename_i q;rw[not_or,not_or,ne_eq,Decidable.not_not,not_and,not_and,ne_eq,Decidable.not_not] at q;split at h
 ·cases h
 ·rename_i z r a;injection h with h;exact⟨q.1,fun e=>q.2.1 (q.1.symm.t e),fun e=>q.2.2 (q.1.symm.t e),z,r,a,h.symm⟩
theorem acs:∀{h p:Bool} {l:List Tok},Gr h p l→∀{x y:rf},abJ h p x→fX x l=.aq y→∃q,abJ false q y:=by
 intro h p l g;induction g with
 |@nil p=>intro x y I e;rw[fX] at e;injection e with e;exact⟨p,e▸I⟩
 |@text h t r i K g j=>
  intro x y I e;rw[fo] at e;cases d:lM x t with
  |bad a b=>rw[d] at e;cases e
  |aq z=>
   rw[d] at e;refine j (x:=z) ?_ e;unfold lM at d;rw[ah i] at d;unfold Dv at d;split at d
   ·rename_i D;injection d with d;subst d;obtain⟨k,below⟩:=x;refine abj I ⟨by show(2:Int)≤2;decide,by show(2:Int)≤14;decide⟩ ?_ (abd 2 _ _ _ _ _ _ (fun e=>absurd e.1 (by decide)) (fun e=>e.1 rfl) (by decide) ?_ (fun e=>I.lt rfl e.2) (by decide)) (fun e=>by cases e)
    ·show oy k 2=true;unfold oy;rw[ae D.1,ae D.2];decide
    ·unfold sj;rw[ah rfl,K.tag];cases C:h
     ·cases O:t.text with
      |nil=>exact(K.ne O).elim
      |cons a b=>rfl
     ·rw[K.sh C];cases O:t.text with
      |nil=>exact(K.ne O).elim
      |cons a b=>rfl
   ·split at d
    ·injection d with d;subst d;exact⟨I.st,I.hs,fun e=>(by cases e),I.nr⟩
    ·cases d
 |@tag h p t r i N D g j=>
  intro x y I e;rw[fo] at e;cases d:lM x t with
  |bad a b=>rw[d] at e;cases e
  |aq z=>
   rw[d] at e;refine j (x:=z) ?_ e;unfold lM at d;rw[ae (by omega),ae (by omega),ah i] at d;obtain⟨b1,b2,b3,b4,m⟩:=abT d;obtain⟨k,below⟩:=x;have H:=abS b4 N;have aa:=abe t.name;have ac:=abC t.name;by_cases J:kindOf t.name=3∨kindOf t.name=6
   ·rw[ah J] at m;subst m;refine abj I ⟨by show 2≤kindOf t.name;omega,by show kindOf t.name≤14;omega⟩ b2 (abd _ _ _ _ _ _ _ (by omega) (by have:below.length+1≤16:=b3;omega) H ?_ (by omega) ?_) (fun _=>by show kindOf t.name≠2;omega)
    ·unfold sj;rw[ae (by omega),ae (by omega),ae (by omega)];rfl
    ·unfold Df;rcases J with e|e<;>rw[e]<;>decide
   ·rw[ae J] at m;subst m;have S:t.kind=2:=by rcases i with h|h;exact h;exact(J (b1.2 h)).elim
    have M:kindOf t.name≠4∧kindOf t.name≠5:=⟨fun e=>D ⟨S,.inr (abv.1 e)⟩,fun e=>D ⟨S,.inl (abv.2 e)⟩⟩;refine abR I ⟨⟨by show kindOf t.name≠2;omega,by show kindOf t.name≠3;omega,by show kindOf t.name≠6;omega⟩,b3,fun e=>by have:kindOf t.name=14:=e.1;omega,H, ?_,trivial,abt _,fun _=>rfl⟩ b2 ⟨aa,by show kindOf t.name≤14;omega⟩ ?_ rfl M
    ·show sj (kindOf t.name) [] h=true;unfold sj;rw[ae (by omega),ae M.1,ae M.2];rfl
    ·show(decide (kindOf t.name=14)||h)=h;rw[cL (by omega)];rfl
 |@raw h p t q c r i T N hq n hc g j=>
  intro x y I e;rw[fo] at e;cases d:lM x t with
  |bad a b=>rw[d] at e;cases e
  |aq z=>
   rw[d] at e;replace e:fX z (q::c::r)=.aq y:=e;unfold lM at d;rw[ae (by omega),ae (by omega),ah (.inl i)] at d;obtain⟨b1,b2,b3,b4,m⟩:=abT d;obtain⟨k,below⟩:=x;have H:=abS b4 N;have ab:kindOf t.name=5∨kindOf t.name=4:=by
    rcases T with e|e
    ·left;rw[e];decide
    ·right;rw[e];decide
   rw[ae (by omega)] at m;subst m;rw[fo] at e;unfold lM at e;rw[ae (by omega),ah hq] at e;replace e:fX ⟨vN (.mk (kindOf t.name) t.src [] t.attrs []) q.text,k::below⟩ (c::r)=.aq y:=e;rw[fo] at e;cases E:lM ⟨vN (.mk (kindOf t.name) t.src [] t.attrs []) q.text,k::below⟩ c with
   |bad a b=>rw[E] at e;cases e
   |aq z2=>
    rw[E] at e;refine j (x:=z2) ?_ e;unfold lM at E;rw[ae (by omega),ae (by omega),ae (by omega),ae (by omega)] at E;obtain⟨-,-,-,z3,F,s,u⟩:=acb E;injection s with A V;subst A V u;have Z:hX (.mk (kindOf t.name) t.src q.text t.attrs []) (below.length+1) h (Xs k)=0:=by
     have hb:below.length+1≤16:=b3;refine abd _ _ _ _ _ _ _ (by omega) (by omega) H ?_ (by omega) ?_
     ·unfold aci at n;rcases T with B|B
      ·have Y:kindOf t.name=5:=by rw[B];decide
       rw[B] at n;rw[Y];unfold sj;rw[ae (by decide),ae (by decide),ah rfl,n.1,n.2 rfl];rfl
      ·have G:kindOf t.name=4:=by rw[B];decide
       rw[B] at n;rw[G];unfold sj;rw[ae (by decide),ah rfl,n.1];rfl
     ·rcases ab with e|e<;>rw[e]<;>decide
    exact abj I ⟨by show 2≤kindOf t.name;omega,by show kindOf t.name≤14;omega⟩ b2 Z (fun _=>by show kindOf t.name≠2;omega)
 |@close h p t r i g j=>
  intro x y I e;rw[fo] at e;cases d:lM x t with
  |bad a b=>rw[d] at e;cases e
  |aq z=>
   rw[d] at e;refine j (x:=z) ?_ e;unfold lM at d;rw[ae (by omega),ae (by omega),ae (by omega),ae (by omega)] at d;obtain⟨o,L,s,w,F,u,A⟩:=acb d;rw[ah i] at o;have ac:=abC t.name;obtain⟨k,below⟩:=x;subst u A;have C:abi (w::F)=h:=by have:=I.hs;rw[abc] at this;rw[←this,cL (by show¬k.kind=14;have:k.kind=kindOf t.name:=o;omega)];rfl
   rw[←C];exact acj I L s
 |@acG p t r i g j=>
  intro x y I e;rw[fo] at e;cases d:lM x t with
  |bad a b=>rw[d] at e;cases e
  |aq z=>
   rw[d] at e;refine j (x:=z) ?_ e;unfold lM at d;rw[ae (by omega),ae (by omega),ae (by omega),ah i] at d;unfold Jo at d;dsimp only at d;obtain⟨W,X⟩:=ack d;obtain⟨R,G⟩:=abk W;split at R
   ·rename_i hm;split at G
    ·cases G
    rename_i hd;subst X;obtain⟨k,below⟩:=x;exact abR I ⟨⟨by show(14:Int)≠2;decide,by show(14:Int)≠3;decide,by show(14:Int)≠6;decide⟩,by have:¬16<below.length+1:=hd;omega,fun e=>(by cases e.2),by show sq 14 []=true;decide,by show sj 14 [] false=true;decide,trivial,abt _,fun _=>rfl⟩ hm ⟨by show(3:Int)≤14;decide,by show(14:Int)≤14;decide⟩ rfl rfl ⟨by show(14:Int)≠4;decide,by show(14:Int)≠5;decide⟩
   ·cases R
 |@shown p t r i g j=>
  intro x y I e;rw[fo] at e;cases d:lM x t with
  |bad a b=>rw[d] at e;cases e
  |aq z=>
   rw[d] at e;refine j (x:=z) ?_ e;unfold lM at d;rw[ae (by omega),ae (by omega),ae (by omega),ae (by omega)] at d;obtain⟨o,L,s,w,F,u,A⟩:=acb d;rw[ae (by omega)] at o;obtain⟨k,below⟩:=x;subst u A;have C:abi (w::F)=false:=by
    have:=I.st.1.hd;cases q:abi (w::F)
    ·rfl
    ·exact(this ⟨o,q⟩).elim
   have Q:=acj I L s;rw[C] at Q;exact Q
theorem abK(h:gW k=(d,r,0)):xe d=0:=by
 unfold gW at h;split at h
 ·cases h
 have o:=C4 k;cases c:lexB k with
 |bad q e=>
  rw[c] at h o;exfalso;have y:e=0:=by injection h with _ h;injection h
  have:=o.2;omega
 |aq l j=>
  rw[c] at h;dsimp only at h;obtain⟨n,z⟩:=abf l;have u:=abo (n:=n) (l:=l) (x:=⟨lN,[]⟩) (fun d B=>z d B n (ag _)) rfl;cases i:fX ⟨lN,[]⟩ l with
  |bad q e=>
   rw[i] at h u;exfalso;have y:e=0:=by injection h with _ h;injection h
   have:=u.2;omega
  |aq x=>
   rw[i] at h;dsimp only at h;split at h
   ·rename_i a;injection h with h _;subst h;have w:abJ false false ⟨lN,[]⟩:=⟨⟨⟨⟨by decide,by decide,by decide⟩,aH _,by decide,by decide,by decide,trivial,abt _,fun _=>rfl⟩,rfl⟩,rfl,fun _=>by decide,by decide,by decide⟩;obtain⟨q,I⟩:=acs (acR c) w i;obtain⟨m,below⟩:=x;rw[List.isEmpty_iff] at a;replace a:below=[]:=a;subst a;obtain⟨A,b⟩:=I.st;replace b:m.kind=1:=b;unfold xe;rw[ah b];exact abu A (fun e=>by replace e:m.kind=7:=e;omega) (fun e=>by replace e:m.kind=10:=e;omega) 0
   ·injection h with _ h;injection h with _ h;cases h
end Go.Proofs.YtlemddnecmmfgaaGreatDoor
namespace Go.Proofs.YtlemddnecmmfgaaGreatDoor
open Go.RowKit
theorem abH(s:Bs)(u:U)(V:aaM)(t:Bs)(W:Int)(a:Option Addr)(c:Nat)(O:aaM)(host:Bs)(y A:Int)(fs:List dQ)(ga:Option Addr)(gc:Nat)(fZ:List j5)(w:aaK)(H:GL w)(hF:aZ w (.slice a fs.length c) fs)(hS:Small fs)(r:Xz w ga fZ)(d:ZQ fZ)(hU:Z5 u)(ht:t.length≤140737488351232)(hh:host.length≤140737488351232)(hs:s.length≤140737488351232):
 Calls Tryz.prog 4 #[.string ⟨s.toArray⟩,.agg (km u V ⟨t.toArray⟩ W a fs.length c O ⟨host.toArray⟩ y A).toArray,.slice ga fZ.length gc] w (cN w (.bool true)):=by
 have a9:=az w (.cells (km u V ⟨t.toArray⟩ W a fs.length c O ⟨host.toArray⟩ y A).toArray 28);have a8:=ad (au w (.cells (km u V ⟨t.toArray⟩ W a fs.length c O ⟨host.toArray⟩ y A).toArray 28));have af:=ad a9;have X:=ad H;have HF:=ad (aZ.below hF a9);have HA:=ad (r.below a9);have HS:=ad hS;have b0:=ad d;have HU:=ad hU;have c5:(⟨t.toArray⟩:aaM).size≤140737488351232:=by simp[ByteArray.size];omega
 have cx:(⟨host.toArray⟩:aaM).size≤140737488351232:=by simp[ByteArray.size];omega
 clear H hF r hS d hU a9;go_enter Tryz.func4,Tryz.ntmps4;go_upto_region 1 with fail;generalize w.alloc (.cells (km u V ⟨t.toArray⟩ W a fs.length c O ⟨host.toArray⟩ y A).toArray 28)=W0 at*;obtain⟨wb,c6⟩:∃wb,w.heap.size=wb:=⟨_,rfl⟩;rw[c6] at a8⊢;clear c6;by_cases h3:s.length≤3000
 ·have d7:(s.length:Int)≤3000:=by omega
  have cc:=ad (Y1 u V ⟨t.toArray⟩ W a c O ⟨host.toArray⟩ y A fs ga gc fZ W0 HF.o HS.o HA.o b0.o HU.o c5 cx);obtain⟨em,er,fc,fi,fk,fp,fr,ft,fv,f7,eu,ez,fa,fb⟩:=aaJ (aj a8.o) 0 1 2 3 4 5 6 7 8 9 10 11 12 13;go_wp2_with fail;refine cc.o.m ?_;rintro e w1⟨b,rfl,cl,cs⟩;have am:=ad cl;have ca:=ad cs;clear cl cs cc em er fc fi fk fp fr ft fv f7 eu ez fa fb;cases b
  ·have I:=ad (af.o.t (am.o.m af.o.size));go_wp2_with fail;refine(DZ _ (X.o.next I.o)).m ?_;rintro e w2⟨rfl,E⟩;have aq:=ad (I.o.t (E.m I.o.size));clear E;go_wp2_with fail;go_ret;exact⟨rfl,aq.o⟩
  ·have HO:=ad (ca.o rfl);have dp:=ad (ZS HO.o);have ec:fs.length≤1000:=by have:=HO.o.fl;omega
   have f9:fZ.length≤80:=HO.o.al;have ai:=ad (af.o.t (am.o.m af.o.size));have ci:=ad (bz a8.o am.o);have b9:=ad (aZ.below HF.o am.o);have bx:=ad (HA.o.below am.o);have bk:=ad (Am w1 (X.o.next ai.o) s (by omega));have a7:=ad (fun h:(gW s).2.2=0=>And.intro (sA h) (K7 h));obtain⟨Q,hQ⟩:∃Q,gW s=Q:=⟨_,rfl⟩;have bl:=ad hQ;rw[hQ] at bk a7;obtain⟨n,pl,e⟩:=Q;clear hQ af a8 HF HA am ca HS b0 HU c5 cx;go_wp2_with fail;refine bk.o.m ?_;rintro en w2⟨E,v,rfl,ap⟩;obtain⟨na,nc,ka,kc,rfl,-,-⟩:=ap.shape;have hA3:=az w2 (.cells #[.int .i64 n.kind,.int .i64 n.place,.string ⟨n.text.toArray⟩,.slice na n.attrs.length nc,.slice ka n.kids.length kc] 37);have bg:=ad ((ai.o.t (E.m ai.o.size)).t (hA3.m (ai.o.t (E.m ai.o.size)).size));have ck:=ad (bz (bz ci.o E) hA3);have an:=ad (au w2 (.cells #[.int .i64 n.kind,.int .i64 n.place,.string ⟨n.text.toArray⟩,.slice na n.attrs.length nc,.slice ka n.kids.length kc] 37));have bi:=ad (fu.next ap hA3);have cb:=ad (aZ.below (aZ.below b9.o E) hA3);have bJ:=ad ((bx.o.below E).below hA3);clear E ap hA3 bk ai ci b9 bx;by_cases he:e=0
   ·subst he;obtain⟨⟨c3,c7⟩,c4⟩:=a7.o rfl;have dq:=ad c3;have d6:=ad c7;have ds:=ad c4;clear c3 c7 c4 a7;have HT:=ad (abK bl.o);have a0:=ad (YH ⟨host,t,fs,mO y 64,fZ⟩ (mO A 8) u HT.o);have aa:=ad (fun T=>acm bl.o T h3 ⟨host,t,fs,mO y 64,fZ⟩ (mO A 8) u);obtain⟨R,hR⟩:∃R,qK ⟨host,t,fs,mO y 64,fZ⟩ (mO A 8) u n=R:=⟨_,rfl⟩;rw[hR] at a0 aa;have ce:=ad hR.symm;clear hR HT bl;have l:=bg;have ay:=ck;clear bg ck;go_upto_region 6 with fail;generalize w2.alloc (.cells #[.int .i64 n.kind,.int .i64 n.place,.string ⟨n.text.toArray⟩,.slice na n.attrs.length nc,.slice ka n.kids.length kc] 37)=W3 at*;generalize w2.heap.size=nb at*;refine XP 10 [(oB.is (wZ n.kind n.place n.text (.slice na n.attrs.length nc) (.slice ka n.kids.length kc))).g,(oB.is (.pointer (some ⟨wb,0,none⟩))).g,(oB.is (uV u)).g,(oB.is (.agg (km u V ⟨t.toArray⟩ W a fs.length c O ⟨host.toArray⟩ y A).toArray)).g,(Od ⟨host.toArray⟩ ⟨t.toArray⟩ fs).g,(oB.is (.agg (km u V ⟨t.toArray⟩ W a fs.length c O ⟨host.toArray⟩ y A).toArray)).g,(oB.is (.agg #[.string ⟨#[]⟩,.int .i64 0,.int .i64 0,.int .i64 y,.int .i64 A,.string ⟨#[]⟩,.slice none 0 0])).g,(oB.is (.slice ga fZ.length gc)).g,XZ R,Yi] [false,false,false,false,false,false,false,false,false,true] (by kernel_rfl) (by rfl) (by rfl) (by kernel_rfl) (by rfl) (YV (by rfl)) ⟨?o0, ?o1, ?o2, ?o3, ?o4, ?o5, ?o6, ?o7, ?o8, ?o9,trivial⟩ ?_;case o0=>intro D w' G d B H r;refine gC rfl ?_;have s7:=lX B 7 (by rfl) rfl;have k0:=aj (bz an.o d);go_simp;exact⟨_,rfl,ar _ _,rfl⟩
    case o1=>intro D w' G d B H r;refine gC rfl ?_;have s4:=lX B 4 (by rfl) rfl;go_simp;exact⟨_,rfl,ar _ _,rfl⟩
    case o2=>intro D w' G d B H r;refine gC rfl ?_;obtain⟨v1,e1,rfl⟩:=Xq r 1 (by rfl);have e1:D.tmps[34]? =some _:=e1;have k0:=aj (bz ay.o d);go_simp;exact⟨_,rfl,ar _ _,rfl⟩
    case o3=>intro D w' G d B H r;refine gC rfl ?_;have s4:=lX B 4 (by rfl) rfl;have k0:=aj (bz ay.o d);go_simp;exact⟨_,rfl,ar _ _,rfl⟩
    case o4=>intro D w' G d B H r;refine gC rfl ?_;obtain⟨v3,e3,rfl⟩:=Xq r 3 (by rfl);have e3:D.tmps[36]? =some _:=e3;have bn:=ad (xA u V ⟨t.toArray⟩ W a fs.length c O ⟨host.toArray⟩ y A fs w' (cb.o.below d) ec);go_simp;refine bn.o.m ?_;rintro e w6⟨a1,c1,rfl,bd,hb⟩;exact⟨_,rfl,hb,⟨a1,c1,rfl,bd.at⟩⟩
    case o5=>intro D w' G d B H r;refine gC rfl ?_;have s4:=lX B 4 (by rfl) rfl;have k0:=aj (bz ay.o d);go_simp;exact⟨_,rfl,ar _ _,rfl⟩
    case o6=>intro D w' G d B H r;refine gC rfl ?_;obtain⟨v5,e5,rfl⟩:=Xq r 5 (by rfl);have e5:D.tmps[38]? =some _:=e5;have bn:=ad (sB u V ⟨t.toArray⟩ W a fs.length c O ⟨host.toArray⟩ y A w');go_simp;refine bn.o.m ?_;rintro e w6⟨rfl,hb⟩;exact⟨_,rfl,hb,rfl⟩
    case o7=>intro D w' G d B H r;refine gC rfl ?_;have s2:=lX B 2 (by rfl) rfl;go_simp;exact⟨_,rfl,ar _ _,rfl⟩
    case o8=>
     intro D w' G d B H r;refine gC rfl ?_;obtain⟨v0,e0,rfl⟩:=Xq r 0 (by rfl);have e0:D.tmps[33]? =some _:=e0;obtain⟨v2,e2,rfl⟩:=Xq r 2 (by rfl);have e2:D.tmps[35]? =some _:=e2;obtain⟨v4,e4,h4⟩:=Xq r 4 (by rfl);have e4:D.tmps[37]? =some _:=e4;obtain⟨va,vc,rfl,co⟩:∃a c,v4=.agg #[.string ⟨host.toArray⟩,.string ⟨t.toArray⟩,.slice a fs.length c]∧aZ w' (.slice a fs.length c) fs:=h4;obtain⟨v6,e6,rfl⟩:=Xq r 6 (by rfl);have e6:D.tmps[39]? =some _:=e6;obtain⟨v7,e7,rfl⟩:=Xq r 7 (by rfl);have e7:D.tmps[40]? =some _:=e7;have hV:=l.o.t (d.m l.o.size);have dl:Hid (Calls Tryz.prog 9 #[wZ n.kind n.place n.text (.slice na n.attrs.length nc) (.slice ka n.kids.length kc),uV u,.agg #[.string ⟨host.toArray⟩,.string ⟨t.toArray⟩,.slice va fs.length vc],.agg #[.string ⟨#[]⟩,.int .i64 0,.int .i64 0,.int .i64 y,.int .i64 A,.string ⟨#[]⟩,.slice none 0 0],.slice ga fZ.length gc] w' (qb w' R)):=ad (by rw[ce.o];have h:=ZZ HO.o co (X.o.next hV) (bJ.o.below d) fZ.length;rw[List.take_length] at h;exact Av n _ u host t fs va fs.length vc ga gc fZ [] [] none 0 0 0 0 y A w' h dp.o _ (fu.next bi.o d) ds.o dq.o (by have:=d6.o;omega))
     clear co;go_simp;refine dl.o.m ?_;rintro e w6⟨v,rfl,el,d9⟩;exact⟨_,rfl,d9,Zx el fun z hz=>(H z hz).2⟩
    case o9=>intro D w' G d B H r;refine gC rfl ?_;go_simp;exact⟨_,rfl,(ar _ _).alloc (ag _) _,⟨w'.heap.size,rfl,ag _,(by first|exact Nat.lt_succ_self _|(rw[aO];omega)),⟨w'.heap.size,rfl,au _ _⟩⟩⟩
    intro f f8 wr d bb hf ct eb;have q8:=hf 8 (XZ R) rfl;have q9:=hf 9 Yi rfl
    with_reducible refine YW (i:=8) (j:=9) rfl q8 q9 ct bb ?_
    intro qa qc ra rc F e8 e9 cK bv bd cO c2;have a6:=ad (Yu bv bd cO c2 d cK rfl);have N:=ad bv;clear hf ct eb bb q8 q9 bd cO c2 cK bv;simp only[ki,kL,List.drop_succ_cons,List.drop_zero,xB,Act.put];rw[e8,e9];clear e8 e9;simp only[mw]
    with_reducible refine gC rfl ?_
    have r0:=aj N.o;have f0:∀j,wr.frozen? ⟨F,j,none⟩=false:=fun _=>aA N.o;go_simp;clear r0 f0 N;generalize((((((wr.setCell ⟨F,0,none⟩ (.string ⟨R.out.toArray⟩)).setCell ⟨F,1,none⟩ (.bool R.ok)).setCell ⟨F,2,none⟩ (.bool R.done)).setCell ⟨F,3,none⟩ (.slice qa R.asked.length qc)).setCell ⟨F,4,none⟩ (.int .i64 R.aU)).setCell ⟨F,5,none⟩ (.int .i64 R.work)).setCell ⟨F,6,none⟩ (.slice ra R.reads.length rc)=W8 at*;clear d;have ao:=ad a6.o.1;have ch:=ad a6.o.2.1;have av:=ad a6.o.2.2;clear a6;have aN:=ad (l.o.t (av.o.m l.o.size));have c8:=bz ay.o av.o;have bs:=bz an.o av.o;have ap:=bi.o;have cd:Hid (∀x,n.kids=[x]→∃g o,ka=some ⟨g,o,none⟩∧W8.cell? ⟨g,o,none⟩=some (.int .i64 x.kind)):=ad (acw (fu.next ap av.o));clear l ay an bi cb bJ av ce ap;have be:=aj c8;obtain⟨L,B⟩:∃L,n.kids.length=L:=⟨_,rfl⟩;rw[B] at bs aa;have a5:=ad B;have an:=ad bs;clear c8 bs B;obtain⟨out,ok,done,asked,aU,work,reads⟩:=R;dsimp only at ao ch aa a0⊢;obtain⟨b1,b2,b3,b4,b5,b6,b7,b8,-⟩:=a0.o;have c9:=ad b8;have ek:(aU:Int)≤max 0 (min y 64):=by have h:=Zy y 64;have h':((mO y 64:Nat):Int)=max 0 (min y 64):=h;omega
    have bp:A≤0→(aU:Int)≤0:=fun h=>by have h':=b2 (by unfold mO;omega);omega
    have d8:(asked.length:Int)≤(aU:Int):=by omega
    have gl:(out.length:Int)≤262144:=by have h':out.length≤262144:=b4;omega
    have g0:(1:Int)≤(work:Int):=by omega
    have Y:=aj ao.o;clear b1 b2 b3 b4 b7 b8 a0;by_cases ea:A≤0
    ·have hi:=bp ea;obtain rfl:aU=0:=by omega
     obtain rfl:asked=[]:=jn (by omega);clear bp ek hi d8;have hd:(ok=false∧out=[])∨(ok=true∧done=true):=by cases ok;exact Or.inl ⟨rfl,b6 rfl⟩;exact Or.inr ⟨rfl,b5 rfl⟩
     clear b5 b6;rcases hd with⟨rfl,rfl⟩|⟨rfl,rfl⟩;all_goals
      go_wp2_with fail;clear Y be
      go_loopw [12] (fun i wr=>∃k:Nat,k≤0∧i=.int .i64 k∧Hid (Below W8.heap.size W8 wr)) (fun i _=>0-(intOf i).toNat)
      case atStart=>exact⟨0,aH _,rfl,ad (ar _ _)⟩
      case round=>
       obtain⟨k,hk,rfl,l⟩:=hrel;have a3:=aj (bz ao.o l.o) 3;have K:=ad (aN.o.t (l.o.m aN.o.size));obtain rfl:k=0:=Nat.le_zero.1 hk;obtain⟨Y,a1,Z⟩:=qX3 (aj (bz ao.o l.o)) 0 1 5;have t4:=aj (bz an.o l.o) 4;have M:=ad ((DZ wr (X.o.next K.o)).m fun e w' h=>And.intro h.1 (ad (K.o.t (h.2.m K.o.size))));clear K;rcases aaN L 2 with br|br
       ·obtain rfl|rfl:L=0∨L=1:=by omega
        ·have T:=aa.o (Or.inl (jn a5.o));obtain⟨h1,J,ab⟩:=T;cases h1;all_goals
          rw[J] at Y;rw[show((work:Nat):Int)=1 by omega] at Z;clear J ab;go_wp2_with fail;refine M.o.m ?_;rintro e wz⟨rfl,C⟩;go_wp2_with fail;go_ret;exact⟨rfl,C.o⟩
        ·obtain⟨x,hx⟩:=List.length_eq_one_iff.1 a5.o;obtain⟨g,o,rfl,S⟩:=cd.o x hx;have c0:wr.cell? ⟨g,o,none⟩=some (.int .i64 x.kind):=(l.o.cell (p:=⟨g,o,none⟩) (aV S)).t S;by_cases ac:x.kind=2
         ·have T:=aa.o (Or.inr ⟨x,hx,ac⟩);obtain⟨h1,J,ab⟩:=T;cases h1;all_goals
           rw[ac] at c0;rw[J] at Y;rw[show((work:Nat):Int)=2 by omega] at Z;clear J ab S;go_wp2_with fail;refine M.o.m ?_;rintro e wz⟨rfl,C⟩;go_wp2_with fail;go_ret;exact⟨rfl,C.o⟩
         ·have q2:=eS ac;clear S;go_wp2_with fail;refine M.o.m ?_;rintro e wz⟨rfl,C⟩;go_wp2_with fail;go_ret;exact⟨rfl,C.o⟩
       ·have q0:((L:Int)==0)=false:=eS (by omega);have q1:((L:Int)==1)=false:=eS (by omega);go_wp2_with fail;refine M.o.m ?_;rintro e wz⟨rfl,C⟩;go_wp2_with fail;go_ret;exact⟨rfl,C.o⟩
    ·have gb:0<A:=by omega
     clear bp;have hd:(ok=false∧out=[])∨(ok=true∧done=true):=by cases ok;exact Or.inl ⟨rfl,b6 rfl⟩;exact Or.inr ⟨rfl,b5 rfl⟩
     clear b5 b6;rcases hd with⟨rfl,rfl⟩|⟨rfl,rfl⟩;all_goals
      go_wp2_with fail;clear Y be
      go_loopw [12] (fun i wr=>∃k:Nat,k≤asked.length∧i=.int .i64 k∧Hid (Below W8.heap.size W8 wr)) (fun i _=>asked.length-(intOf i).toNat)
      case atStart=>exact⟨0,aH _,rfl,ad (ar _ _)⟩
      case round=>
       obtain⟨k,hk,rfl,l⟩:=hrel;have a3:=aj (bz ao.o l.o) 3;have K:=ad (aN.o.t (l.o.m aN.o.size));by_cases bb:k<asked.length
       ·have i1:(k:Int)<(asked.length:Int):=by omega
        have i0:(0:Int)≤(k:Int):=by omega
        obtain⟨z,hz⟩:∃z,asked[k]? =some z:=⟨asked[k],cA bb⟩;have bo:=c9.o z (eQ hz);obtain⟨g,rfl,-,hc⟩:=Rz (ch.o.next l.o).q hz;have d0:wr.cell? ⟨g,k*6,none⟩=some _:=hc 0 _ rfl;have d1:=hc 1 _ rfl;have d2:=hc 2 _ rfl;have d3:=hc 3 _ rfl;have d4:=hc 4 _ rfl;have d5:=hc 5 _ rfl;have bm:=ad (kJ z wr (X.o.next K.o).gx (pZ ((eC z).1 bo)));rw[bo] at bm;clear hz hc bo;go_wp2_with fail;refine bm.o.m ?_;rintro e wz⟨rfl,cn⟩;have C:=ad (l.o.t (cn.m l.o.size));clear cn a3 d0 d1 d2 d3 d4 d5 bm;go_wp2_with fail
        go_roundw
        case rel=>exact⟨k+1,by omega,by go_num,C⟩
        case measure=>(simp[intOf]<;>omega)
       ·have i1:(asked.length:Int)≤(k:Int):=by omega
        obtain⟨Y,a1,Z⟩:=qX3 (aj (bz ao.o l.o)) 0 1 5;have t4:=aj (bz an.o l.o) 4;have M:=ad ((DZ wr (X.o.next K.o)).m fun e w' h=>And.intro h.1 (ad (K.o.t (h.2.m K.o.size))));clear K;rcases aaN L 2 with br|br
        ·obtain rfl|rfl:L=0∨L=1:=by omega
         ·have T:=aa.o (Or.inl (jn a5.o));obtain⟨h1,J,ab⟩:=T;cases h1;all_goals
           rw[J] at Y;rw[show((work:Nat):Int)=1 by omega] at Z;clear J ab;go_wp2_with fail;refine M.o.m ?_;rintro e wz⟨rfl,C⟩;go_wp2_with fail;go_ret;exact⟨rfl,C.o⟩
         ·obtain⟨x,hx⟩:=List.length_eq_one_iff.1 a5.o;obtain⟨g,o,rfl,S⟩:=cd.o x hx;have c0:wr.cell? ⟨g,o,none⟩=some (.int .i64 x.kind):=(l.o.cell (p:=⟨g,o,none⟩) (aV S)).t S;by_cases ac:x.kind=2
          ·have T:=aa.o (Or.inr ⟨x,hx,ac⟩);obtain⟨h1,J,ab⟩:=T;cases h1;all_goals
            rw[ac] at c0;rw[J] at Y;rw[show((work:Nat):Int)=2 by omega] at Z;clear J ab S;go_wp2_with fail;refine M.o.m ?_;rintro e wz⟨rfl,C⟩;go_wp2_with fail;go_ret;exact⟨rfl,C.o⟩
          ·have q2:=eS ac;clear S;go_wp2_with fail;refine M.o.m ?_;rintro e wz⟨rfl,C⟩;go_wp2_with fail;go_ret;exact⟨rfl,C.o⟩
        ·have q0:((L:Int)==0)=false:=eS (by omega);have q1:((L:Int)==1)=false:=eS (by omega);go_wp2_with fail;refine M.o.m ?_;rintro e wz⟨rfl,C⟩;go_wp2_with fail;go_ret;exact⟨rfl,C.o⟩
   ·have q0:=eS he;clear he a7;have I:=bg;go_wp2_with fail;refine(DZ _ (X.o.next I.o)).m ?_;rintro e w2⟨rfl,E⟩;have aq:=ad (I.o.t (E.m I.o.size));clear E;go_wp2_with fail;go_ret;exact⟨rfl,aq.o⟩
 ·have d7:(3000:Int)<(s.length:Int):=by omega
  have I:=af;go_wp2_with fail;refine(DZ _ (X.o.next I.o)).m ?_;rintro e w2⟨rfl,E⟩;have aq:=ad (I.o.t (E.m I.o.size));clear E;go_wp2_with fail;go_ret;exact⟨rfl,aq.o⟩
end Go.Proofs.YtlemddnecmmfgaaGreatDoor
namespace Go.Proofs.YtlemddnecmmfgaaGreatDoor
open Go.RowKit Go.ChangeShapes Go.WideShapes
theorem Yl:wv (Tryz.prog.underlying 26)=some [(0,9),(1,9),(2,3),(3,24),(4,9)]:=by kernel_rfl
theorem aae:Tryz.prog.cellsOf 26=5:=by kernel_rfl
section
variable{H:Type}{enc:TypeId×Value→H}{W:World}{sp:Nat→Bool}{held:Bool}
end
variable{A:List MemPlace}{d:Nat}{L:Reach}
theorem XN:wv (Tryz.prog.underlying 28)=some [(0,23),(6,26),(11,9),(12,3),(13,3)]:=by kernel_rfl
theorem Z9:Tryz.prog.cellsOf 28=14:=by kernel_rfl
theorem YR:wv (Tryz.prog.underlying 62)=some [(0,9),(1,4),(2,4)]:=by kernel_rfl
theorem aag:Tryz.prog.cellsOf 62=3:=by kernel_rfl
theorem u29:Tryz.prog.underlying 29=some (.slice 62):=by kernel_rfl
theorem Y5:Tryz.prog.bytesOf 62=24:=by kernel_rfl
section
variable{H:Type}{enc:TypeId×Value→H}{W:World}{held:Bool}
theorem Yx{t:TypeId}{l:List (Nat×TypeId)}{c:List Value}{x:DataW H×List MemPlace}(B:wv (Tryz.prog.underlying t)=some l)(h:DataW.trod enc Tryz.prog W 0 (fun _=>true) held d t c=some x)
 (i o m:Nat)(a:TypeId)(p:l[i]? =some (o,a))(r:Tryz.prog.cellsOf a=m):∃y n,d=n+1∧DataW.trod enc Tryz.prog W 0 (fun _=>true) held n a ((c.drop o).take m)=some y∧(Xw t x.1→Xw a y.1):=by
 obtain⟨fs,q,A⟩:=Cd B;obtain⟨xs,n,u,C,_,z,w⟩:=DataW.trod_struct q h;rw[←A,uI] at p;obtain⟨f,s,j⟩:=qG.1 p;simp only[kj] at j;obtain⟨rfl,rfl⟩:=j;have b:fs[i]? =some f:=by simpa using s
 have:=w i f b;rw[r] at this;have k:i<xs.length:=by rw[z];exact(aB.1 b).1
 refine⟨xs[i],n,u,by rw[this];exact cA k,fun e=> ?_⟩;rw[C] at e;exact X5 q e b (by rw[uI,cA k];rfl)
theorem Y4{v:Value}{x:DataW H×List MemPlace}(h:DataW.trod enc Tryz.prog W 0 (fun _=>true) held d 29 [v]=some x)(m:Xw 29 x.1):∃z c fZ,v=.slice z fZ.length c∧fZ.length≤c∧Xz W z fZ∧ZQ fZ:=by
 rcases Go.Deep.open_slice u29 h with⟨e,w⟩|⟨a,len,cap,ac,n,D,Z,e,_,hl,hm,O,w,p⟩
 ·simp only[Xy,and_true] at e;exact⟨none,0,[],e,aH _,fun i g h=>by simp at h,aH _,fun f s=>by cases s⟩
 ·simp only[Xy,and_true] at e;simp only[if_true] at O;rw[aag] at p;have key:∀i,i<len→∃g:j5,W.cell? (a.add (i*3))=some (.string ⟨g.body.toArray⟩)∧W.cell? ((a.add (i*3)).add 1)=some (.bool g.F3)∧W.cell? ((a.add (i*3)).add 2)=some (.bool g.ok)∧g.body.length≤140737488351232:=fun i N=>by
   obtain⟨J,K,u⟩:=p i (by omega);obtain⟨_,L,r⟩:=World.cells?_some K;obtain⟨y0,n0,S,F⟩:=wq YR u 0 0 _ rfl TB;obtain⟨y1,n1,T,X⟩:=wq YR u 1 1 _ rfl YQ;obtain⟨y2,n2,V,Y⟩:=wq YR u 2 2 _ rfl YQ
   match J,L with
   |[e0,k,l],_=>have G:Xw 62 (D i):=Ym u29 (by rw[w] at m;exact m) (qE.2 ⟨i,List.mem_range.2 N,rfl⟩);have I:=F G;obtain⟨R,B,rfl,z0⟩:=DataW.trod_string u9 S;obtain⟨b1,C,_⟩:=DataW.trod_bool u4 T;obtain⟨b2,E,_⟩:=DataW.trod_bool u4 V;simp at B C E;subst B;subst C;subst E;have y:=r 0 (by omega);have a1:=r 1 (by omega);have a2:=r 2 (by omega);rw[Addr.add_zero'] at y;exact⟨⟨R.data.toList,b1,b2⟩,by simpa using y,by simpa using a1,by simpa using a2,Xp I⟩
  obtain⟨fs,M,t⟩:=YB len key;obtain⟨b,o,spot⟩:=a;have aa:len≤140737488351232:=by have:=X6 u29 (by rw[w] at m;exact m);rw[Y5] at this;simp only[jo,List.length_range,reachBytes] at this;omega
  refine⟨_,cap,fs,by rw[M];exact e,by omega,fun j g A=> ?_,by omega,fun f s=> ?_⟩
  ·obtain⟨k,l,q,_⟩:=t j g A;have ab:=(cH.1 A).1;have Q:spot=none:=by simpa[Addr.add] using World.cell?_spot (t 0 _ (cA (show 0<fs.length by omega))).1
   subst Q;rw[F6] at k l q;rw[F6] at l q;exact⟨b,o,rfl,aV k,k,l,q⟩
  ·obtain⟨i,p⟩:=zP.1 s;exact(t i f p).2.2.2
theorem Y6{v:Value}{s:DataW H}(hv:Value.okWide Tryz.prog W L d 28 v)(h:DataW.Trod enc Tryz.prog W 0 (fun _=>true) held 28 v s A)(q:Xw 28 s):
 ∃(u:U) (ab t:ByteArray) (mn:Int) (a:Option Addr) (c:Nat) (bd host:ByteArray) (ci cd:Int) (fs:List dQ),v=.agg (km u ab t mn a fs.length c bd host ci cd).toArray∧aZ W (.slice a fs.length c) fs∧Small fs∧Z5 u∧t.size≤140737488351232∧host.size≤140737488351232:=by
 obtain⟨l,rfl,aa⟩:=Yw XN Z9 hv
 match l,aa with
 |[c0,c1,c2,c3,c4,c5,c6,c7,c8,c9,af,ai,al,am],_=>
  obtain⟨an,k⟩:=h;obtain⟨yu,nu,_,b,i⟩:=Yx XN k 0 0 6 _ rfl aad;obtain⟨yr,nr,_,j,m⟩:=Yx XN k 1 6 5 _ rfl aae;obtain⟨yh,nh,th,o⟩:=wq XN k 2 11 _ rfl TB;obtain⟨yi,ni,ti,LI⟩:=wq XN k 3 12 _ rfl YZ;obtain⟨yd,nd,td,LD⟩:=wq XN k 4 13 _ rfl YZ;have i:=i q;have m:=m q;have o:=o q;simp only[Value.cells,List.drop,List.take] at b j th ti td;obtain⟨y0,n0,M,L0⟩:=wq X0 b 0 0 _ rfl TB;obtain⟨y1,n1,N,L1⟩:=wq X0 b 1 1 _ rfl TB;obtain⟨y2,n2,Q,L2⟩:=wq X0 b 2 2 _ rfl YZ;obtain⟨y3,n3,R,L3⟩:=wq X0 b 3 3 _ rfl TB;obtain⟨y4,n4,S,L4⟩:=wq X0 b 4 4 _ rfl TB;obtain⟨y5,n5,T,L5⟩:=wq X0 b 5 5 _ rfl YQ;obtain⟨y6,n6,V,L6⟩:=wq Yl j 0 0 _ rfl TB;obtain⟨y7,n7,X,L7⟩:=wq Yl j 1 1 _ rfl TB;obtain⟨y8,n8,Y,L8⟩:=wq Yl j 2 2 _ rfl YZ;obtain⟨y9,n9,Z,L9⟩:=wq Yl j 3 3 _ rfl ZI;obtain⟨aN,aq,O,ac⟩:=wq Yl j 4 4 _ rfl TB;simp only[List.drop,List.take] at M N Q R S T V X Y Z O;have M0:=L0 i;have M1:=L1 i;have M3:=L3 i;have M4:=L4 i;have M7:=L7 m;obtain⟨s0,w,rfl,z0⟩:=DataW.trod_string u9 M;obtain⟨s1,x,rfl,z1⟩:=DataW.trod_string u9 N;obtain⟨i2,D,_⟩:=DataW.trod_int u3 Q;obtain⟨s3,E,rfl,z3⟩:=DataW.trod_string u9 R;obtain⟨s4,F,rfl,z4⟩:=DataW.trod_string u9 S;obtain⟨b5,G,_⟩:=DataW.trod_bool u4 T;obtain⟨s6,I,rfl,z6⟩:=DataW.trod_string u9 V;obtain⟨s7,J,rfl,z7⟩:=DataW.trod_string u9 X;obtain⟨i8,K,_⟩:=DataW.trod_int u3 Y;obtain⟨a,n,c,gs,rfl,hF,hS⟩:=X7 Z (L9 m);obtain⟨av,y,rfl,aU⟩:=DataW.trod_string u9 O;obtain⟨ay,z,rfl,a0⟩:=DataW.trod_string u9 th;obtain⟨ao,B,_⟩:=DataW.trod_int u3 ti;obtain⟨ap,C,_⟩:=DataW.trod_int u3 td;simp only[Xy,and_true] at w x D E F G I J K y z B C;subst w;subst x;subst D;subst E;subst F;subst G;subst I;subst J;subst K;subst y;subst z;subst B;subst C;have hn:n=gs.length:=by
   rcases hF with⟨_,_,e,rfl⟩|⟨_,_,_,e,_⟩
   ·injection e
   ·injection e
  subst hn;exact⟨⟨s0.data.toList,s1.data.toList,i2,s3.data.toList,s4.data.toList,b5⟩,_,_,_,a,c,_,_,_,_,gs,rfl,hF,hS,⟨Xp M0,Xp M1,Xp M3,Xp M4⟩,by rw[←bj];exact Xp M7,by rw[←bj];exact Xp o⟩
theorem acC{v:Value}{a:DataW H}(l:Value.okWide Tryz.prog W L d 29 v)(h:DataW.Trod enc Tryz.prog W 0 (fun _=>true) held 29 v a A)(k:Xw 29 a):
 ∃e c fZ,v=.slice e (fZ:List j5).length c∧fZ.length≤c∧Xz W e fZ∧ZQ fZ:=by
 obtain⟨j,b⟩:=h;obtain⟨a1,n1,i,rfl⟩:=okWide_slice u29 l;have b:DataW.trod enc Tryz.prog W 0 (fun _=>true) held j 29 [.slice a1 n1 i]=some (a,A):=by simpa[Value.cells] using b
 exact Y4 b k
end
end Go.Proofs.YtlemddnecmmfgaaGreatDoor
namespace Go.Proofs.YtlemddnecmmfgaaGreatDoor.pageBounds
open Go.RowKit Go.ChangeShapes Go.WideShapes Go.ChangeAt
theorem lifted(os:Os)(ab:os.Started)(H:Type)(enc:TypeId×aaL→H)(F:Stop.Interp):
 ReturnsInHanded {} Tryz.checked os 4 .any ((OpenSpec.ofChange Rows.pageBoundsSpec).preRow enc Tryz.prog Tryz.f4 Rows.pageBoundsRow.domain false Rows.pageBoundsRow.laid)
  (((OpenSpec.ofChange Rows.pageBoundsSpec).at F).post enc Tryz.prog Tryz.f4 false true false false):=by
 refine returnsInHanded_of_row (C:=Tryz.checked) (s:=OpenSpec.ofChange Rows.pageBoundsSpec) own ab (by kernel_rfl) Tryz.func4
  (EE (enc:=enc) (C:=Tryz.checked) (World.laidAll Tryz.prog os lj) #[.string ⟨#[]⟩,.agg #[.string ⟨#[]⟩,.string ⟨#[]⟩,.int .i64 0,.string ⟨#[]⟩,.string ⟨#[]⟩,.bool false,.string ⟨#[]⟩,.string ⟨#[]⟩,.int .i64 0,.slice none 0 0,.string ⟨#[]⟩,.string ⟨#[]⟩,.int .i64 0,.int .i64 0],.slice none 0 0]
   (World.laidAll_os _ _ _) (EF os _) (by kernel_rfl)
   (OpenSpec.preRow_of_B rfl 8 (by kernel_rfl) (by kernel_rfl) (O0 os _))) ?_
 intro W base args n gs before D z _ _ B N Z _;have d:(DataW.weightsEach Tryz.prog (Tryz.f4.params.toList++(OpenSpec.ofChange Rows.pageBoundsSpec).bare.plain.varTypes Tryz.prog) (n++gs)).all (·≤reachBytes)=true:=B;clear B;have i:∀(j:Nat) t v,Tryz.f4.params[j]? =some t→args[j]? =some v→Value.okWide Tryz.prog W .any base t v:=D;have A:=z;obtain⟨p,q,hA0,R,rfl,ac,ai⟩:=z;have y:DataW.TrodAll enc Tryz.prog W 0 (fun _=>true) true Tryz.f4.params.toList args.toList n p:=hA0;rw[Tryz.params4] at y i d;obtain⟨v0,v1,v2,d0,d1,d2,p0,p1,p2,rfl,rfl,rfl,o,r,w⟩:=trodAll_three y;obtain⟨rfl,rfl⟩:=trodVars_none R;have k:∀x∈p0++(p1++p2),x.block<W.heap.size:=fun x b=>by simpa using A.lt x (by simpa using b)
 obtain⟨s,rfl,S⟩:=ZG (i 0 _ v0 rfl rfl) o (X1 d (j:=0) rfl rfl);obtain⟨sl,rfl⟩:∃l:Bs,s=⟨l.toArray⟩:=⟨_,dn rfl⟩;obtain⟨u,aa,t,mn,a,c,E,host,I,G,fs,rfl,hF,O,Q,ht,X⟩:=Y6 (i 1 _ v1 rfl rfl) r (X1 d (j:=1) rfl rfl);obtain⟨tl,rfl⟩:∃l:Bs,t=⟨l.toArray⟩:=⟨_,dn rfl⟩;obtain⟨Y,rfl⟩:∃l:Bs,host=⟨l.toArray⟩:=⟨_,dn rfl⟩;obtain⟨J,K,fZ,rfl,af,L,M⟩:=acC (i 2 _ v2 rfl rfl) w (X1 d (j:=2) rfl rfl);have V:=EH Z N;clear hA0 D;refine(abH sl u aa tl mn a c E Y I G fs J K fZ W V hF O L M Q (by simpa[ByteArray.size] using ht) (by simpa[ByteArray.size] using X) (by simpa[ByteArray.size] using S)).m fun e W' ⟨T,JV⟩=> ?_;subst T;exact⟨_,rfl,_,_,_,[],_,[],A,trodAll_mk1 (shut_bool u4 _),trodAll_mk3 (Below.trod laidOut (by kernel_rfl) (dv (by kernel_rfl)) o JV (fun x b=>k x (by simp[b]))) (Below.trod laidOut (by kernel_rfl) (dv (by kernel_rfl)) r JV (fun x b=>k x (by simp[b]))) (Below.trod laidOut (by kernel_rfl) (dv (by kernel_rfl)) w JV (fun x b=>k x (by simp[b]))),rfl,JV.frame _,fun h=>by cases h⟩
