/- The walk of the maker's all. -/
import Derived.Test.YtlemddnecmmfgaaGreatDoorJba
set_option linter.unusedVariables false
set_option maxRecDepth 100000
set_option maxHeartbeats 4000000
namespace Go.Proofs.YtlemddnecmmfgaaGreatDoor
open Go.Lib
variable{b e:Bs}{K:Ex}{p:Int}{a:List Tok}{y:List bQ}{d n k:Nat}{j:Nd}{i:Option (Nat×Int)}{E:Option (Nat→cG)}{B:Tok}{q H:rf}
def GQ(t:Tok):Nat:=t.text.length+4+bV t.attrs
def jd(l:List Tok):Nat:=(l.map GQ).sum
theorem iM:jd []=0:=rfl
theorem gE(t:Tok)(l:List Tok):jd (t::l)=GQ t+jd l:=by simp[jd]
theorem tZ(a b:List Tok):jd (a++b)=jd a+jd b:=by simp[jd]
theorem La(a b:List bQ):bV (a++b)=bV a+bV b:=by simp[bV]
def nH(n:Nat)(l:List bQ):Prop:=∀a∈l,a.val.length≤n
structure ru (n:Nat) (t:Tok):Prop where
 Lb:nH n t.attrs
 sr:t.text.length≤n
theorem Oo{a:bQ}(h:fU b d n y=.aq a k):n+a.val.length+3≤k:=by
 unfold fU at h;dsimp only at h
 repeat' split at h
 all_goals first
  |(cases h;done)
  |(cases h;dsimp only;omega)
theorem AH{s:Bs}{tag:Nat}(n:tag≤s.length):∀(f i:Nat) (l:List bQ) {d:List bQ} {j:Nat},i≤s.length→nH s.length l→cE s tag f i l=.aq d j→bV d+2*i≤bV l+2*j∧nH s.length d
 |0,i,l,d,j,_,_,h=>by unfold cE at h;cases h
 |f+1,i,l,d,j,p,m,h=>by
  have y:=jP s p;have q:=cY s i;unfold cE at h;dsimp only at h;split at h
  ·cases h
  ·split at h
   ·cases h;exact⟨by omega,m⟩
   ·split at h
    ·cases h
    ·split at h
     ·cases h
     ·rename_i a t k;have x:=Oo k;have e:=tL (s:=s) (tag:=tag) (i:=pa s i) (l:=l) n q;rw[k] at e;have o:=e.2;obtain⟨r,u⟩:=AH n f t (l++[a]) o (fun b c=>by
       rcases gZ.1 c with c|c
       ·exact m b c
       ·rw[fj.1 c];omega) h
      rw[La,kW] at r;have w:bV ([]:List bQ)=0:=rfl;exact⟨by omega,u⟩
theorem D5(s:Bs)(i j:Nat):(GO s i j).length≤j-i:=by unfold GO;rw[gu];omega
theorem qe(s:Bs)(k:Int)(nm:Bs)(l:List bQ)(i j:Nat):GQ (cS s k nm l i j)≤j-i+4+bV l:=by have:=D5 s i j;show(GO s i j).length+4+bV l≤_;omega
theorem qf{i j:Nat}(c:j≤b.length)(a:nH b.length y):ru b.length (cS b p e y i j):=
 ⟨a,by have:=D5 b i j;show(GO b i j).length≤_;omega⟩
theorem kB(n:Nat):nH n []:=fun a h=>by cases h
theorem D6{j:Nat}(i:nH b.length y)(h:gv b d e y p j=.aq B n):GQ B≤n-d+4+bV y∧ru b.length B∧n=j+1:=by
 unfold gv at h;split at h
 ·cases h
 ·rename_i c r a;split at h
  ·cases h;exact⟨qe _ _ _ _ _ _,qf (by have:=ku a;omega) i,rfl⟩
  ·cases h
theorem Um(x:d≤n)(p:n≤b.length)(h:qw b d e n=.aq B k):GQ B+3*d≤3*k+4∧ru b.length B:=by
 unfold qw at h;split at h
 ·cases h
 ·rename_i l j o;obtain⟨w,c⟩:=AH (by omega) _ _ _ p (kB _) o;have u:bV ([]:List bQ)=0:=rfl;split at h
  ·obtain⟨q,a,r⟩:=D6 c h;exact⟨by omega,a⟩
  ·obtain⟨q,a,r⟩:=D6 c h;exact⟨by omega,a⟩
theorem RL(j:d≤b.length)(c:n≤b.length)(h:iU b e d n=.aq B k):GQ B+n≤k+4∧ru b.length B∧n≤k:=by
 have a:=wU (nm:=e) j c;rw[h] at a;unfold iU at h;dsimp only at h;split at h
 ·cases h
 ·split at h
  ·cases h
  ·cases h;have o:=qe b 7 [] [] n (n+(index (b.drop n) (bD++e)).toNat);have l:bV ([]:List bQ)=0:=rfl;exact⟨by omega,qf a.2 (kB _),a.1⟩
theorem sD(h:ru d B):∀u∈[B],ru d u:=fun u a=>by rw[fj.1 a];exact h
theorem Oq(z:d+5≤b.length)(h:dB b d=.aq a n):jd a+8*d≤8*n∧∀t∈a,ru b.length t:=by
 unfold dB at h;dsimp only at h;split at h
 ·split at h
  ·cases h
  ·rename_i t j p;have q:=iI b z;obtain⟨A,o⟩:=Um (by omega) q p;have c:oH b.length _ (qw b d _ _):=wT (s:=b) (tag:=d) (nm:=(b.drop (d+5)).take (db b (d+5))) (i:=d+5+db b (d+5)) (by omega) q;rw[p] at c;have B:=c.1;have w:=c.2;split at h
   ·split at h
    ·cases h
    ·rename_i r k y;obtain⟨C,x,D⟩:=RL (by omega) w y;cases h;refine⟨by rw[gE,gE,iM];omega,fun u l=> ?_⟩;rcases bL.1 l with e|l
     ·rw[e];exact o
     ·rw[fj.1 l];exact x
   ·cases h;exact⟨by rw[gE,iM];omega,sD o⟩
 ·cases h
theorem Lc(i:d+6≤b.length)(h:de b d=.aq a n):jd a+8*d≤8*n∧∀t∈a,ru b.length t:=by
 have e:=wV i;rw[h] at e;unfold de at h;dsimp only at h;split at h
 ·split at h
  ·cases h
  ·rename_i c r o;split at h
   ·cases h;have k:=qe b 4 ((b.drop (d+6)).take (db b (d+6))) [] d (pa b (d+6+db b (d+6))+1);have j:bV ([]:List bQ)=0:=rfl;have l:=e.1;exact⟨by rw[gE,iM];omega,sD (qf e.2 (kB _))⟩
   ·cases h
 ·cases h
theorem Ot{hid:Option Nat}{x:List Tok×Option Nat}(k:d<b.length)(u:dw (b.drop d) hid.isSome≠0)(h:fq b (dw (b.drop d) hid.isSome) d hid=.aq x n):jd x.1+8*d≤8*n∧∀t∈x.1,ru b.length t:=by
 obtain⟨o,p,q,r,B⟩:=pS (hid:=hid.isSome) k;have w:bV ([]:List bQ)=0:=rfl;unfold fq at h;split at h
 ·rename_i a;split at h
  ·cases h
  ·rename_i l j c;cases h;exact Oq (o a) c
 ·split at h
  ·rename_i a;split at h
   ·cases h
   ·rename_i l j c;cases h;exact Lc (p a) c
  ·split at h
   ·rename_i a;split at h
    ·cases h
    ·cases h;have e:=qe b 5 [] [] d (d+8);exact⟨by show jd [cS b 5 [] [] d (d+8)]+_≤_;rw[gE,iM];omega,sD (qf (q a) (kB _))⟩
   ·rename_i y z A;cases h;have e:=qe b 6 [] [] d (d+3);exact⟨by show jd [cS b 6 [] [] d (d+3)]+_≤_;rw[gE,iM];omega,sD (qf (r (by omega)) (kB _))⟩
theorem Ou{s:Bs}(e:d≤n)(a:n≤s.length):jd (dc s d n)+8*d≤8*n∧∀t∈dc s d n,ru s.length t:=by
 unfold dc;split
 ·have c:=qe s 1 [] [] d n;have h:bV ([]:List bQ)=0:=rfl;exact⟨by rw[gE,iM];omega,sD (qf a (kB _))⟩
 ·exact⟨by rw[iM];omega,fun u b=>by simp at b⟩
theorem B7(s:Bs):∀(f src i:Nat) (hid:Option Nat) (l:List Tok) {b:List Tok} {m:Nat},src≤i→i≤s.length→(∀t∈l,ru s.length t)→gS s f src i hid l=.aq b m→jd b+8*src≤jd l+8*s.length∧∀t∈b,ru s.length t
 |0,src,i,hid,l,b,m,_,_,_,h=>by unfold gS at h;cases h
 |f+1,src,i,hid,l,b,m,r,q,c,h=>by
  unfold gS at h;dsimp only at h;obtain⟨z,n⟩:=Ou (s:=s) r q;split at h
  ·rename_i d;split at h
   ·exact B7 s f src (i+1) hid l (by omega) d c h
   ·rename_i e;split at h
    ·cases h
    ·rename_i x j o;obtain⟨y,p⟩:=Ot d e o;have k:=mH d e;rw[o] at k;obtain⟨u,w⟩:=B7 s f j j x.2 (l++dc s src i++x.1) (ag _) k.2 (fun t a=>by
      rcases gZ.1 a with a|a
      ·rcases gZ.1 a with a|a
       ·exact c t a
       ·exact n t a
      ·exact p t a) h
     rw[tZ,tZ] at u;exact⟨by omega,w⟩
  ·split at h
   ·cases h
   ·cases h;rw[tZ];refine⟨by omega,fun t a=> ?_⟩;rcases gZ.1 a with a|a
    ·exact c t a
    ·exact n t a
theorem VA(h:lexB b=.aq a d):jd a≤8*b.length∧∀t∈a,ru b.length t:=by have:=B7 b _ _ _ _ _ (ag _) (aH _) (fun t h=>by cases h) h;rw[iM] at this;exact⟨by omega,this.2⟩
mutual
def QN:Nd→Prop
 |.mk k _ t a l=>t.length≤65536∧nH 65536 a∧(k=7→2≤l.length)∧QL l
def QL:List Nd→Prop
 |[]=>True
 |x::r=>QN x∧QL r
end
structure QO (n:Nd):Prop where
 sr:n.text.length≤65536
 Lb:nH 65536 n.attrs
 two:n.kind=7→Xs n=9→2≤n.kids.length
 kids:QL n.kids
def oU:Nd→List Nd→Prop
 |n,[]=>n.kind=1
 |n,y::r=>oy y n.kind=true∧QO y∧oU y r
structure Ov (x:rf):Prop where
 top:QO x.top
 chain:oU x.top x.below
def RM(x:rf):Nat:=wN x.top+wL x.below
theorem Ow:∀a b:List Nd,wL (a++b)=wL a+wL b
 |[],b=>by rw[kK,wL,dH]
 |x::r,b=>by rw[di,wL,wL,Ow r b,oh]
theorem Ox:∀{a:List Nd} {n:Nd},QL a→QN n→QL (a++[n])
 |[],n,_,b=>by rw[kK,QL,QL];exact⟨b,trivial⟩
 |x::r,n,h,b=>by rw[QL] at h;rw[di,QL];exact⟨h.1,Ox h.2 b⟩
theorem D7(n:Nd):wN n=n.text.length+3+bV n.attrs+wL n.kids:=by cases n;rw[wN];rfl
theorem GR(n k:Nd):wN (fV n k)=wN n+wN k:=by rw[D7 (fV n k),D7 n];show n.text.length+3+bV n.attrs+wL (n.kids++[k])=_;rw[Ow,wL,wL];omega
theorem Un(n:Nd)(t:Bs):wN (vN n t)≤wN n+t.length:=by rw[D7 (vN n t),D7 n];show t.length+3+bV n.attrs+wL n.kids≤_;omega
theorem Ld(h:j.kids=[]):Xs j=0:=by unfold Xs;rw[h];rfl
theorem Le(n k:Nd):Xs (fV n k)=k.kind:=by unfold Xs;show(match(n.kids++[k]).getLast? with|none=>0|some x=>x.kind)=_;rw[List.getLast?_append];rfl
theorem YP{n:Nd}(e:QO j)(m:QN n)(l:j.kind=7→oy j n.kind=true):QO (fV j n):=by
 refine⟨e.sr,e.Lb,fun c i=> ?_,Ox e.kids m⟩;have c:j.kind=7:=c;rw[Le] at i;have d:=l c;unfold oy at d;rw[ah c,i] at d;have b:=dv d;have h:Xs j=8:=by
  rcases b with b|b
  ·exact absurd b.1 (by decide)
  ·exact b.2
 show 2≤(j.kids++[n]).length;rw[bB,mF];cases k:j.kids with
 |nil=>rw[Ld k] at h;exact absurd h (by decide)
 |cons a r=>rw[bF];omega
theorem nI{a b:Nd}(h:a.kind=b.kind):∀{l:List Nd},oU a l→oU b l
 |[],c=>by show b.kind=1;rw[←h];exact c
 |y::r,c=>by obtain⟨d,e⟩:=c;exact⟨by rw[←h];exact d,e⟩
theorem sE(h:px i q=.aq H):i=none∧H=q:=by
 cases i with
 |none=>injection h with h;exact⟨rfl,h.symm⟩
 |some p=>cases h
theorem ue{b:Option (Nat×Int)}(h:mD i b=none):i=none∧b=none:=by
 cases i with
 |none=>exact⟨rfl,h⟩
 |some x=>cases h
theorem Uo(K:d≤65536)(A:ru d B)(c:Ov q)(h:lM q B=.aq H):Ov H∧RM H≤RM q+GQ B:=by
 have R:=A.sr;have C:nH 65536 B.attrs:=fun a G=>bP (A.Lb a G) K;unfold lM at h;split at h
 ·unfold Dv at h;split at h
  ·rename_i J;injection h with h;subst h;refine⟨⟨YP c.top (by rw[QN];exact⟨by omega,kB _,fun h=>absurd h (by decide),by rw[QL];trivial⟩) (fun h=>absurd h J.1),show oU (fV q.top (.mk 2 B.src B.text [] [])) q.below from nI (a:=q.top) (b:=(fV q.top (.mk 2 B.src B.text [] []))) rfl c.chain⟩, ?_⟩;show wN (fV q.top (.mk 2 B.src B.text [] []))+wL q.below≤wN q.top+wL q.below+(B.text.length+4+bV B.attrs);rw[GR,wN,wL];have E:bV ([]:List bQ)=0:=rfl;omega
  ·split at h
   ·injection h with h;subst h;exact⟨c,sd _ _⟩
   ·cases h
 split at h
 ·injection h with h;subst h;refine⟨⟨⟨by show B.text.length≤_;omega,c.top.Lb,c.top.two,c.top.kids⟩,show oU (vN q.top B.text) q.below from nI (a:=q.top) (b:=(vN q.top B.text)) rfl c.chain⟩, ?_⟩;have:=Un q.top B.text;show wN (vN q.top B.text)+wL q.below≤wN q.top+wL q.below+(B.text.length+4+bV B.attrs);omega
 split at h
 ·unfold BL at h;dsimp only at h;obtain⟨e,i⟩:=sE h;obtain⟨e,F⟩:=ue e;obtain⟨e,Q⟩:=ue e;have j:oy q.top (kindOf B.name)=true:=by
   cases hq:oy q.top (kindOf B.name) with
   |true=>rfl
   |false=>rw[hq] at e;simp at e
  have D:wN (.mk (kindOf B.name) B.src [] B.attrs [])=3+bV B.attrs:=by rw[wN,wL];simp
  by_cases w:kindOf B.name=3∨kindOf B.name=6
  ·rw[bN w,ah rfl] at i;subst i;refine⟨⟨YP c.top (by rw[QN];exact⟨aH _,C,fun h=>by omega,by rw[QL];trivial⟩) (fun _=>j),show oU (fV q.top (.mk (kindOf B.name) B.src [] B.attrs [])) q.below from nI (a:=q.top) (b:=(fV q.top (.mk (kindOf B.name) B.src [] B.attrs []))) rfl c.chain⟩, ?_⟩;show wN (fV q.top _)+wL q.below≤wN q.top+wL q.below+(B.text.length+4+bV B.attrs);rw[GR,D];omega
  ·rw[cL w,ae (by decide)] at i;subst i;refine⟨⟨⟨aH _,C,fun _ s=>absurd (show(0:Int)=9 from s) (by decide),by show QL [];rw[QL];trivial⟩,⟨j,c.top,c.chain⟩⟩, ?_⟩;show wN (.mk (kindOf B.name) B.src [] B.attrs [])+wL (q.top::q.below)≤wN q.top+wL q.below+(B.text.length+4+bV B.attrs);rw[D,wL];omega
 split at h
 ·unfold Jo at h;dsimp only at h;obtain⟨e,i⟩:=sE h;obtain⟨e,F⟩:=ue e;have j:oy q.top 14=true:=by
   cases hq:oy q.top 14 with
   |true=>rfl
   |false=>rw[hq] at e;simp at e
  subst i;refine⟨⟨⟨aH _,kB _,fun h=>absurd h (by show¬(14:Int)=7;decide),by show QL [];rw[QL];trivial⟩,⟨j,c.top,c.chain⟩⟩, ?_⟩;show wN (.mk 14 B.src [] [] [])+wL (q.top::q.below)≤wN q.top+wL q.below+(B.text.length+4+bV B.attrs);rw[wN,wL,wL];have E:bV ([]:List bQ)=0:=rfl;have e:([]:Bs).length=0:=rfl;omega
 ·unfold Q9 at h;generalize(if B.kind=4 then kindOf B.name else 14)=N at h;dsimp only at h;split at h
  ·cases h
  ·rename_i I;obtain⟨m,below⟩:=q;cases below with
   |nil=>cases h
   |cons o r=>
    injection h with h;subst h;obtain⟨j,M,L⟩:=c.chain;have hq:QN m:=by
     have:=c.top;obtain⟨k,p,O,a,l⟩:=m;rw[QN];refine⟨this.sr,this.Lb,fun u=>this.two u ?_,this.kids⟩;subst u;by_cases s:Xs (.mk 7 p O a l)=9
     ·exact s
     ·refine absurd ?_ I;by_cases z:(7:Int)=N
      ·exact .inr (.inl ⟨z.symm,s⟩)
      ·exact .inl z
    refine⟨⟨YP M hq (fun _=>j),show oU (fV o m) r from nI (a:=o) (b:=(fV o m)) rfl L⟩, ?_⟩;show wN (fV o m)+wL r≤wN m+wL (o::r)+(B.text.length+4+bV B.attrs);rw[GR,wL];omega
theorem JE{n:Nat}(c:n≤65536):∀{l:List Tok} {x y:rf},(∀t∈l,ru n t)→Ov x→fX x l=.aq y→Ov y∧RM y≤RM x+jd l
 |[],x,y,_,a,h=>by unfold fX at h;injection h with h;subst h;exact⟨a,sd _ _⟩
 |t::r,x,y,b,a,h=>by
  unfold fX at h;split at h
  ·cases h
  ·rename_i z j;obtain⟨d,k⟩:=Uo c (b t (by simp)) a j;obtain⟨e,m⟩:=JE c (fun u i=>b u (by simp[i])) d h;rw[gE];exact⟨e,by omega⟩
theorem AI:∀a:List bQ,a.length≤bV a
 |[]=>aH _
 |x::r=>by have:=AI r;rw[kW,bF];omega
theorem Oy:∀l:List Nd,l.length≤wL l
 |[]=>aH _
 |x::r=>by have:=Oy r;have:=D7 x;rw[wL,bF];omega
theorem Oz:∀{l:List Nd} {x:Nd},x∈l→wN x≤wL l
 |y::r,x,h=>by
  rw[wL];rcases bL.1 h with rfl|h
  ·omega
  ·have:=Oz h;omega
theorem OA:∀{l:List Nd} {x:Nd},QL l→x∈l→QN x
 |y::r,x,h,a=>by
  rw[QL] at h;rcases bL.1 a with rfl|a
  ·exact h.1
  ·exact OA h.2 a
theorem VB(n:Nd):QN n→wN n≤1000000→sy n:=by refine Nd.ind (P:=fun n=>QN n→wN n≤1000000→sy n) (fun k p t a l j hq i=> ?_) n;rw[QN] at hq;rw[wN] at i;obtain⟨c,d,e,h⟩:=hq;have:=AI a;have:=Oy l;rw[sy];exact⟨c,by omega,d,by omega,e,JA fun x b=>j x b (OA h b) (by have:=Oz b;omega)⟩
theorem sA(h:(gW b).2.2=0):sy (gW b).1∧wN (gW b).1≤600000:=by
 unfold gW at h⊢;split at h
 ·exact absurd h (by decide)
 rename_i z;rw[ae z];cases d:lexB b with
 |bad p e=>rw[d] at h;have:=C4 b;rw[d] at this;have h:e=0:=h;have:=this.2;omega
 |aq l m=>
  rw[d] at h;dsimp only at h⊢;obtain⟨q,u⟩:=VA d;cases i:fX ⟨lN,[]⟩ l with
  |bad p e=>rw[i] at h;exact⟨by
   dsimp only;unfold ny;rw[sy];exact⟨aH _,aH _,fun x d=>by(cases d),aH _,fun h=>absurd h (by decide),by rw[DN];trivial⟩,by
   dsimp only;unfold ny;rw[wN,wL];decide⟩
  |aq x=>
   rw[i] at h;dsimp only at h⊢;have w:Ov ⟨lN,[]⟩:=⟨⟨aH _,kB _,fun h=>absurd h (by decide),by show QL [];rw[QL];trivial⟩,rfl⟩;obtain⟨n,B⟩:=JE (by omega) u w i;obtain⟨c,below⟩:=x;cases below with
   |cons y r=>exact absurd (show(14:Int)=0 from h) (by decide)
   |nil=>
    show sy c∧wN c≤600000;have j:c.kind=1:=n.chain;have A:wN c≤600000:=by have o:wN c+wL []≤wN lN+wL []+jd l:=B;unfold lN at o;rw[wN,wL] at o;have C:bV ([]:List bQ)=0:=rfl;have q:([]:Bs).length=0:=rfl;omega
    refine⟨VB c ?_ (by omega),A⟩;have:=n.top;obtain⟨k,p,t,a,l⟩:=c;rw[QN];exact⟨this.sr,this.Lb,fun D=>by have j:k=1:=j;omega,this.kids⟩
theorem wg{k:Int}{t:Bs}{u:bc}(a:t.length≤100000)(b:u.name.length≤100000)(c:u.key.length≤100000)(d:u.cK.length≤100000):tE (.mk k t u []):=by unfold tE;exact⟨a,b,c,d,by unfold QR;trivial⟩
theorem ok_one{k:Int}(h:tE K):tE (ry k K):=by unfold ry tE;exact⟨aH _,aH _,aH _,aH _,by unfold QR;exact⟨h,by unfold QR;trivial⟩⟩
theorem ok_two{k:Int}{y:Ex}(h:tE K)(a:tE y):tE (oA k K y):=by unfold oA tE;exact⟨aH _,aH _,aH _,aH _,by unfold QR;exact⟨h,by unfold QR;exact⟨a,by unfold QR;trivial⟩⟩⟩
def D8:cG→Prop
 |.aq x _=>tE x
 |.ay _ _=>True
def xD(f:Nat→cG):Prop:=∀i,D8 (f i)
def OB(f:Option (Nat→cG)):Prop:=∀g,f=some g→xD g
theorem VC(s:Bs)(i:Nat):(rs s i).length≤s.length:=by unfold rs;have:=cB mE (s.drop i);rw[bK] at this;omega
theorem OC(y:b.length≤100000)(m:OB E):xD (qL E b):=by
 intro i;have n:=VC b i;unfold qL;cases q:rs b i with
 |nil=>trivial
 |cons c r=>
  rw[q,bF] at n;show D8 (bif c==40 then _ else _);cases c==40
  ·rw[cI];cases c==39
   ·rw[cI];cases kH c
    ·rw[cI];unfold zz;cases o:df (c::r) with
     |none=>trivial
     |some p=>obtain⟨_,_,_,j⟩:=gF o;have l:=(xE j).len;rw[bK,bF] at l;exact wg (k:=12) (t:=[]) (aH _) (by show p.name.length≤_;omega) (by show p.key.length≤_;omega) (by show p.cK.length≤_;omega)
    ·rw[aS];unfold D9;cases h:decide (((c::r).takeWhile kH).length≤18)
     ·trivial
     ·exact wg (k:=11) (u:=aC) (by have:=dv h;omega) (aH _) (aH _) (aH _)
   ·rw[aS];unfold Tw;cases hq:r.contains 39
    ·trivial
    ·exact wg (k:=10) (u:=aC) (by have:=vV hq;omega) (aH _) (aH _) (aH _)
  ·rw[aS];unfold Tx;cases E with
   |none=>trivial
   |some f=>
    have a:=m f rfl (pa b i+1);show D8 (match f (pa b i+1) with|.ay p e=>.ay p e|.aq x t=>bif hasPrefix (rs b t) [41] then .aq x (pa b t+1) else .ay (pa b t) 15);cases w:f (pa b i+1) with
    |ay p e=>trivial
    |aq x t=>
     rw[w] at a;show D8 (bif hasPrefix (rs b t) [41] then .aq x (pa b t+1) else .ay (pa b t) 15);cases hasPrefix (rs b t) [41]
     ·trivial
     ·exact a
theorem RN(j:b.length≤100000)(h:OB E):xD (zA E b):=by
 intro i;have a:=OC j h i;unfold zA;cases m:qL E b i with
 |ay p e=>trivial
 |aq x t=>
  rw[m] at a;show D8 (ou E b x t);unfold ou;cases oV (rs b t) with
  |none=>exact a
  |some kn=>
   obtain⟨k,n⟩:=kn;have c:=OC j h (pa b t+n);show D8 (match qL E b (pa b t+n) with|.ay p e=>.ay p e|.aq y l=>.aq (oA (4+k) x y) l);cases o:qL E b (pa b t+n) with
   |ay p e=>trivial
   |aq y l=>rw[o] at c;exact ok_two (k:=4+k) a c
theorem JF(h:b.length≤100000){d1 d2:Option (Nat→cG)}(c:OB d1)(d:OB d2):xD (uf d1 d2 b):=by
 intro i;unfold uf;cases hasPrefix (rs b i) [33]
 ·exact RN h c i
 ·rw[aS];cases d2 with
  |none=>trivial
  |some f=>
   have a:=d f rfl (pa b i+1);show D8 (match f (pa b i+1) with|.ay p e=>.ay p e|.aq x t=>.aq (ry 3 x) t);cases j:f (pa b i+1) with
   |ay p e=>trivial
   |aq x t=>rw[j] at a;exact ok_one (k:=3) a
theorem AJ{s:Bs}{one:Nat→cG}(h:xD one)(kind:Int)(b:UInt8):∀(n:Nat) (x:Ex) (t:Nat),tE x→D8 (kp one kind b s n x t)
 |0,_,_,a=>a
 |n+1,x,t,a=>by
  unfold kp;cases hasPrefix (rs s t) [b]
  ·exact a
  ·have c:=h (pa s t+1);rw[aS];cases d:one (pa s t+1) with
   |ay p e=>trivial
   |aq y i=>rw[d] at c;exact AJ h kind b n _ i (ok_two a c)
theorem wh{one:Nat→cG}(h:xD one)(kind:Int)(c:UInt8):xD (rz one kind c b):=by
 intro i;have a:=h i;unfold rz;cases d:one i with
 |ay p e=>trivial
 |aq x t=>rw[d] at a;exact AJ h kind c _ x t a
theorem JG(s:Bs)(b:s.length≤100000):∀k,xD (vh s k)∧xD (je s k)
 |0=>by
  have c:OB none:=fun g h=>by cases h
  have a:xD (je s 0):=JF b c c;exact⟨wh (wh a 2 38) 1 124,a⟩
 |k+1=>by obtain⟨d,i⟩:=JG s b k;have a:xD (je s (k+1)):=JF b (d1:=some (vh s k)) (d2:=some (je s k)) (fun g e=>by cases e;exact d) (fun g e=>by cases e;exact i);exact⟨wh (wh a 2 38) 1 124,a⟩
theorem K1(s:Bs)(d:s.length≤100000):tE (ew s).1:=by
 have h:=(JG s d 16).1 0;have b:tE sF:=wg (aH _) (aH _) (aH _) (aH _);rcases Ea s with⟨q,e,c,a⟩|⟨x,t,c,a|a⟩
 ·rw[a];exact b
 ·rw[c] at h;rw[a];exact h
 ·rw[a];exact b
theorem we(P:fx):∀d,Rv P (rl P d)∧Ul (rl P d)
 |0=>⟨fun f h=>(by cases h),fun f h=>(by cases h)⟩
 |d+1=>by
  obtain⟨a,c⟩:=we P d;refine⟨fun f h u b e=> ?_,fun f h u n=> ?_⟩
  ·injection h with h;subst h;obtain⟨i,j⟩:=sA e;exact((JB a u _ i).1 false).m (by unfold ie;omega)
  ·injection h with h;subst h;exact(vg (AG P u c) n).1 false
theorem Uh(P:fx)(d:Nat)(base:U):DM P (rl P d) base:=On (we P d).1 (we P d).2 base
end Go.Proofs.YtlemddnecmmfgaaGreatDoor
namespace Go.Proofs.YtlemddnecmmfgaaGreatDoor
open Go.RowKit
variable{d:Nat}
structure ME where
 w0:aaK
 mb:Nat
 im:Nat
 h:Bs
 t:Bs
 fs:List dQ
 fa:Option Addr
 fn:Nat
 fc:Nat
 inc:Nat
 dep:Nat
 ga:Option Addr
 gc:Nat
 fZ:List j5
def ME.env(E:ME):fx:=⟨E.h,E.t,E.fs,E.inc,E.fZ⟩
def qz(u:U):List aaL:=[.string ⟨u.scheme.toArray⟩,.string ⟨u.host.toArray⟩,.int .i64 u.port,.string ⟨u.path.toArray⟩,.string ⟨u.query.toArray⟩,.bool u.hq]
def nB:List U→List aaL
 |[]=>[]
 |u::r=>qz u++nB r
abbrev Gw(E:ME)(S:PS)(av rv ov:aaL):List aaL:=[.string ⟨#[]⟩,.bool false,.bool false,av,.int .i64 S.aU,.int .i64 S.work,rv,ov,.string ⟨E.h.toArray⟩,.string ⟨E.t.toArray⟩,.slice E.fa E.fn E.fc,.int .i64 E.inc,.int .i64 E.dep,.slice E.ga E.fZ.length E.gc,.map (some E.im)]
def MB(E:ME)(av rv ov:aaL):List Nat:=E.mb::E.im::bM [av,rv,ov]
structure MK (E:ME) (W:aaK) (S:PS) (out:Bs) (av rv ov:aaL):Prop where
 up:Below E.w0.heap.size E.w0 W
 box:W.heap[E.mb]? =some (.cells (Gw E S av rv ov).toArray 85)
 asked:W.ownsRow E.w0.heap.size 23 6 av S.asked.length (nB S.asked)
 reads:W.ownsRow E.w0.heap.size 9 1 rv S.reads.length (cM S.reads)
 lE:W.ownsRow E.w0.heap.size 5 1 ov out.length (da out)
 inl:∃l,gg W E.im l∧∀k,assoc l k=(Xr S.inl k).map fun t=>.agg #[.string ⟨t.toArray⟩]
 vW:(MB E av rv ov).Nodup
 far:E.w0.heap.size≤E.mb∧E.w0.heap.size≤E.im
structure bC (M:List Nat) (W:aaK) (M':List Nat) (W':aaK):Prop where
 size:W.heap.size≤W'.heap.size
 cO:∀b,b<W.heap.size→b∉M→b∉M'∧W'.heap[b]? =W.heap[b]?
theorem bC.refl(M:List Nat)(W:aaK):bC M W M W:=⟨ag _,fun b _ h=>⟨h,rfl⟩⟩
theorem bC.t{M c d:List Nat}{W e h:aaK}(a:bC M W c e)(i:bC c e d h):bC M W d h:=
 ⟨bP a.size i.size,fun b j k=>by obtain⟨l,m⟩:=a.cO b j k;obtain⟨n,o⟩:=i.cO b (ej j a.size) l;exact⟨n,o.t m⟩⟩
theorem bC.ai{M:List Nat}{W W':aaK}(h:Below W.heap.size W W'):bC M W M W':=⟨h.size,fun b a c=>⟨c,h.block b a⟩⟩
def MX(E:ME)(W:aaK)(M:List Nat)(S:PS)(out:Bs):Prop:=∃av rv ov,MK E W S out av rv ov∧M=MB E av rv ov
theorem bw{W W':aaK}{T:TypeId}{size n:Nat}{v:aaL}{xs:List aaL}(h:W.ownsRow d T size v n xs)(j:∀g,v.ownBlock=some g→W'.heap[g]? =W.heap[g]?):W'.ownsRow d T size v n xs:=by
 refine⟨h.1, ?_⟩;rcases h.2 with a|⟨g,cap,c,b,a,e,i⟩
 ·exact .inl a
 ·exact .inr ⟨g,cap,c,b,a,(j g (by rw[b];rfl)).t e,i⟩
theorem ri{W W':aaK}{l:List (Bs×aaL)}(h:gg W d l)(i:W'.heap[d]? =W.heap[d]?):gg W' d l:=by obtain⟨es,c,a,e⟩:=h;exact⟨es,c,i.t a,e⟩
section
variable{E:ME}{W W':aaK}{S:PS}{out:Bs}{av rv ov:aaL}
theorem MK.lt(H:MK E W S out av rv ov):E.mb<W.heap.size:=(aB.1 H.box).1
theorem MK.WB(H:MK E W S out av rv ov):E.im<W.heap.size:=by obtain⟨l,h,_⟩:=H.inl;exact h.lt
theorem vP{a b c:aaL}:d∈bM [a,b,c]↔a.ownBlock=some d∨b.ownBlock=some d∨c.ownBlock=some d:=by rw[cQ];simp
theorem MK.mlt(H:MK E W S out av rv ov):∀b∈MB E av rv ov,E.w0.heap.size≤b∧b<W.heap.size:=fun b a=>by
 rcases bL.1 a with rfl|a
 ·exact⟨H.far.1,H.lt⟩
 rcases bL.1 a with rfl|a
 ·exact⟨H.far.2,H.WB⟩
 rcases vP.1 a with h|h|h
 ·exact H.asked.lt b h
 ·exact H.reads.lt b h
 ·exact H.lE.lt b h
theorem MK.apart(H:MK E W S out av rv ov):E.mb≠E.im∧(∀g,g∈bM [av,rv,ov]→g≠E.mb∧g≠E.im)∧(bM [av,rv,ov]).Nodup:=by have a:=lI.1 H.vW;have b:=lI.1 a.2;exact⟨fun e=>a.1 (by rw[e];exact eF),fun g c=>⟨fun e=>a.1 (by rw[←e];exact bY _ c),fun e=>b.1 (by rw[←e];exact c)⟩,b.2⟩
theorem MK.next(H:MK E W S out av rv ov)(a:Below W.heap.size W W'):MK E W' S out av rv ov:=by refine⟨H.up.t (a.m H.up.size),(a.block _ H.lt).t H.box,cp H.asked a,cp H.reads a,cp H.lE a, ?_,H.vW,H.far⟩;obtain⟨l,b,c⟩:=H.inl;exact⟨l,b.next a,c⟩
theorem MK.aN(H:MK E W S out av rv ov)(k:ak E.mb W W'){d:PS}(o:W'.heap[E.mb]? =some (.cells (Gw E d av rv ov).toArray 85))(n:d.asked=S.asked)(q:d.reads=S.reads)(p:d.inl=S.inl):
 MK E W' d out av rv ov∧bC (MB E av rv ov) W (MB E av rv ov) W':=by
 obtain⟨n1,n2,r⟩:=H.apart;have j:∀b,b<W.heap.size→b≠E.mb→W'.heap[b]? =W.heap[b]? :=fun b c a=>k.block b c (by intro e;injection e with e;exact a e);have i:∀v g,v.ownBlock=some g→v∈[av,rv,ov]→W'.heap[g]? =W.heap[g]? :=fun v g c a=>by have m:g∈bM [av,rv,ov]:=cQ.2 ⟨v,a,c⟩;exact j g (H.mlt g (bY _ (bY _ m))).2 (n2 g m).1
 refine⟨⟨H.up.t (k.below H.far.1 H.up.size),o, ?_, ?_,bw H.lE fun g h=>i ov g h (by simp), ?_,H.vW,H.far⟩,⟨k.size,fun b c a=>⟨a,j b c fun e=>a (by rw[e];exact eF)⟩⟩⟩
 ·rw[n];exact bw H.asked fun g h=>i av g h (by simp)
 ·rw[q];exact bw H.reads fun g h=>i rv g h (by simp)
 ·obtain⟨l,c,a⟩:=H.inl;exact⟨l,ri c (j _ H.WB (eo n1)),by rw[p];exact a⟩
theorem MK.step(H:MK E W S out av rv ov):MK E (W.setCell ⟨E.mb,5,none⟩ (.int .i64 ((S.work+1:Nat):Int))) S.step out av rv ov∧bC (MB E av rv ov) W (MB E av rv ov) (W.setCell ⟨E.mb,5,none⟩ (.int .i64 ((S.work+1:Nat):Int))):=
 H.aN ((ak.refl _ _).set) (aw (j:=5) H.box) rfl rfl rfl
theorem MK.more(H:MK E W S out av rv ov):MK E (W.setCell ⟨E.mb,4,none⟩ (.int .i64 ((S.aU+1:Nat):Int))) {S with aU:=S.aU+1} out av rv ov∧bC (MB E av rv ov) W (MB E av rv ov) (W.setCell ⟨E.mb,4,none⟩ (.int .i64 ((S.aU+1:Nat):Int))):=
 H.aN ((ak.refl _ _).set) (aw (j:=4) H.box) rfl rfl rfl
end
theorem fF{E:ME}{a b c:aaL}:(MB E a b c).Nodup↔E.mb≠E.im∧(∀g,(g=E.mb∨g=E.im)→a.ownBlock≠some g∧b.ownBlock≠some g∧c.ownBlock≠some g)∧(∀g,a.ownBlock=some g→b.ownBlock≠some g∧c.ownBlock≠some g)∧(∀g,b.ownBlock=some g→c.ownBlock≠some g):=by
 have p:(bM [a,b,c]).Nodup↔(∀g,a.ownBlock=some g→b.ownBlock≠some g∧c.ownBlock≠some g)∧(∀g,b.ownBlock=some g→c.ownBlock≠some g):=by unfold bM;cases q:a.ownBlock<;>cases r:b.ownBlock<;>cases s:c.ownBlock<;>simp[q,r,s]<;>omega
 unfold MB;rw[lI,lI,p];constructor
 ·rintro⟨h,o,i⟩;have j:E.mb≠E.im:=fun e=>h (by rw[e];exact eF);refine⟨j,fun g t=> ?_,i⟩;have k:g∉bM [a,b,c]:=by
   rcases t with rfl|rfl
   ·exact fun d=>h (bY _ d)
   ·exact o
  exact⟨fun e=>k (vP.2 (.inl e)),fun e=>k (vP.2 (.inr (.inl e))),fun e=>k (vP.2 (.inr (.inr e)))⟩
 ·rintro⟨j,h,i⟩;refine⟨fun d=> ?_,fun d=> ?_,i⟩
  ·rcases bL.1 d with e|d
   ·exact j e
   ·obtain⟨l,m,n⟩:=h E.mb (.inl rfl);rcases vP.1 d with e|e|e
    ·exact l e
    ·exact m e
    ·exact n e
  ·obtain⟨l,m,n⟩:=h E.im (.inr rfl);rcases vP.1 d with e|e|e
   ·exact l e
   ·exact m e
   ·exact n e
section
variable{E:ME}{W W':aaK}{S:PS}{out:Bs}{av rv ov:aaL}
theorem MK.swap(H:MK E W S out av rv ov){n:aaK}{v v' s y u:aaL}{m:PS}{F:Bs}(R:Below E.w0.heap.size E.w0 n)(O:W.heap.size≤n.heap.size)
 (o:∀b,b<W.heap.size→b≠E.mb→some b≠v.ownBlock→n.heap[b]? =W.heap[b]?)(K:n.heap[E.mb]? =some (.cells (Gw E m s y u).toArray 85))(hi:m.inl=S.inl)
 (M:v'.ownBlock=v.ownBlock∨∃g,v'.ownBlock=some g∧W.heap.size≤g)
 (hc:(v=av∧s=v'∧y=rv∧u=ov∧m.reads=S.reads∧F=out∧n.ownsRow E.w0.heap.size 23 6 v' m.asked.length (nB m.asked))∨
  (v=rv∧s=av∧y=v'∧u=ov∧m.asked=S.asked∧F=out∧n.ownsRow E.w0.heap.size 9 1 v' m.reads.length (cM m.reads))∨
  (v=ov∧s=av∧y=rv∧u=v'∧m.asked=S.asked∧m.reads=S.reads∧n.ownsRow E.w0.heap.size 5 1 v' F.length (da F))):
 MK E n m F s y u∧bC (MB E av rv ov) W (MB E s y u) n:=by
 obtain⟨n1,n2,r,D⟩:=fF.1 H.vW;have ac:=H.mlt;have G:∀g,av.ownBlock=some g→g<W.heap.size:=fun g h=>(H.asked.lt g h).2;have J:∀g,rv.ownBlock=some g→g<W.heap.size:=fun g h=>(H.reads.lt g h).2;have I:∀g,ov.ownBlock=some g→g<W.heap.size:=fun g h=>(H.lE.lt g h).2;have af:=H.lt;have aa:=H.WB;have L:some E.im≠v.ownBlock→∃l,gg n E.im l∧∀k,assoc l k=(Xr m.inl k).map fun t=>.agg #[.string ⟨t.toArray⟩]:=fun ab=>by obtain⟨l,i,z⟩:=H.inl;exact⟨l,ri i (o _ aa (eo n1) ab),by rw[hi];exact z⟩
 obtain⟨V,X,Y⟩:=n2 E.mb (.inl rfl);obtain⟨i1,i2,i3⟩:=n2 E.im (.inr rfl);have p:∀g,g<W.heap.size→v.ownBlock≠some g→v'.ownBlock≠some g:=fun g a h e=>by
  rcases M with q|⟨g',q,T⟩
  ·exact h (q.symm.t e)
  ·rw[q] at e;injection e with e;omega
 have Q:∀b,b<W.heap.size→b∉MB E av rv ov→b≠E.mb∧b≠E.im∧av.ownBlock≠some b∧rv.ownBlock≠some b∧ov.ownBlock≠some b:=fun b _ h=>
  ⟨fun e=>h (by rw[e];exact eF),fun e=>h (by rw[e];exact bY _ eF),fun e=>h (bY _ (bY _ (vP.2 (.inl e)))),
   fun e=>h (bY _ (bY _ (vP.2 (.inr (.inl e))))),fun e=>h (bY _ (bY _ (vP.2 (.inr (.inr e)))))⟩
 have N:∀b,b≠E.mb→b≠E.im→s.ownBlock≠some b→y.ownBlock≠some b→u.ownBlock≠some b→b∉MB E s y u:=fun b c j d w x B=>by
  rcases bL.1 B with e|B
  ·exact c e
  rcases bL.1 B with e|B
  ·exact j e
  rcases vP.1 B with e|e|e
  ·exact d e
  ·exact w e
  ·exact x e
 rcases hc with⟨rfl,rfl,rfl,rfl,A,rfl,C⟩|⟨rfl,rfl,rfl,rfl,A,rfl,C⟩|⟨rfl,rfl,rfl,rfl,A,Z,C⟩
 ·refine⟨⟨R,K,C, ?_, ?_,L (fun e=>i1 e.symm),fF.2 ⟨n1,fun g a=> ?_,fun g a=> ?_,D⟩,H.far⟩,O,fun b i z=> ?_⟩
  ·rw[A];exact bw H.reads fun g a=>o g (J g a) (fun e=>X (by rw[←e];exact a)) (fun e=>(r g e.symm).1 a)
  ·exact bw H.lE fun g a=>o g (I g a) (fun e=>Y (by rw[←e];exact a)) (fun e=>(r g e.symm).2 a)
  ·obtain⟨c,j,d⟩:=n2 g a;exact⟨p g (by rcases a with rfl|rfl<;>assumption) c,j,d⟩
  ·rcases M with q|⟨g',q,T⟩
   ·exact r g (q.symm.t a)
   ·rw[q] at a;injection a with a;exact⟨fun e=>by have:=J g e;omega,fun e=>by have:=I g e;omega⟩
  ·obtain⟨c,j,d,w,x⟩:=Q b i z;exact⟨N b c j (p b i d) w x,o b i c (fun e=>d e.symm)⟩
 ·refine⟨⟨R,K, ?_,C, ?_,L (fun e=>i2 e.symm),fF.2 ⟨n1,fun g a=> ?_,fun g a=>⟨p g (G g a) (r g a).1,(r g a).2⟩,fun g a=> ?_⟩,H.far⟩,O,fun b i z=> ?_⟩
  ·rw[A];exact bw H.asked fun g a=>o g (G g a) (fun e=>V (by rw[←e];exact a)) (fun e=>(r g a).1 e.symm)
  ·exact bw H.lE fun g a=>o g (I g a) (fun e=>Y (by rw[←e];exact a)) (fun e=>D g e.symm a)
  ·obtain⟨c,j,d⟩:=n2 g a;exact⟨c,p g (by rcases a with rfl|rfl<;>assumption) j,d⟩
  ·rcases M with q|⟨g',q,T⟩
   ·exact D g (q.symm.t a)
   ·rw[q] at a;injection a with a;exact fun e=>by have:=I g e;omega
  ·obtain⟨c,j,d,w,x⟩:=Q b i z;exact⟨N b c j d (p b i w) x,o b i c (fun e=>w e.symm)⟩
 ·refine⟨⟨R,K, ?_, ?_,C,L (fun e=>i3 e.symm),fF.2 ⟨n1,fun g a=> ?_,fun g a=>⟨(r g a).1,p g (G g a) (r g a).2⟩,fun g a=>p g (J g a) (D g a)⟩,H.far⟩,O,fun b i z=> ?_⟩
  ·rw[A];exact bw H.asked fun g a=>o g (G g a) (fun e=>V (by rw[←e];exact a)) (fun e=>(r g a).2 e.symm)
  ·rw[Z];exact bw H.reads fun g a=>o g (J g a) (fun e=>X (by rw[←e];exact a)) (fun e=>D g a e.symm)
  ·obtain⟨c,j,d⟩:=n2 g a;exact⟨c,j,p g (by rcases a with rfl|rfl<;>assumption) d⟩
  ·obtain⟨c,j,d,w,x⟩:=Q b i z;exact⟨N b c j d w (p b i x),o b i c (fun e=>x e.symm)⟩
end
variable{a:Nat}
theorem DE{P:Program}{ops:Array Oper}{rest:List Oper}{o:Oper}{a:Act}{Q:Exit→Act→aaK→Prop}{W:aaK}(c:o.guard=none)(s x:Operand)(t:TypeId)
 (r:o.op=.call {callee:=.builtin .append,args:=#[s,x],argTypes:=#[t,t]})
 (e:TypeId)(z:aaL)(size bytes:Nat)(C:P.underlying t=some (.slice e))(p:(P.info? e).map (fun i=>(i.zero,i.size,i.bytes))=some (some z,size,bytes))
 (G:z.cells.size=size)(B:0<size)(base:Nat)(w:aaK)
 (v:aaL)(n:Nat)(xs:List aaL)(A:a.eval s=v)(y:w.ownsRow base e size v n xs)
 (b:List aaL)(D:W=w.alloc (.cells b.toArray e))(q:b.length=size)(F:a.eval x=.slice (some ⟨w.heap.size,0,none⟩) 1 1)(d:∀u∈b,u.oneCell'=true)
 (m:(n+1)*bytes≤140737488355328)(j:n+1≤140737488355328)(l:base≤w.heap.size)
 (h:∀g cap w',w'.ownsRow base e size (.slice (some ⟨g,0,none⟩) (n+1) cap) (n+1) (xs++b)→(w.alloc (.cells b.toArray e)).grownBy w' v.ownBlock→(some g=v.ownBlock∨w.heap.size+1≤g)→
  wpList P ops Q rest (a.put o.dst (.slice (some ⟨g,0,none⟩) (n+1) cap)) w'):
 wpList P ops Q (o::rest) a W:=by
 refine wpList_plain c fun K k=> ?_;have:=gM (ops:=#[]) (K:=K) (Q:=Q) (E:=True) c s x t r e z size bytes C p G B base w v n xs A y b D q F d m j l (fun g cap w' H I J=>k _ _ (h g cap w' H I J));rw[ah (by simp[Region.wanted,c])] at this;exact this
theorem Vp:Tryz.prog.underlying 42=some (.slice 9):=by kernel_rfl
section
variable{E:ME}{W W':aaK}{S:PS}{out:Bs}{av rv ov:aaL}
theorem MK.grown(H:MK E W S out av rv ov){k a:aaK}{v:aaL}(c:Below W.heap.size W k)(d:k.grownBy a v.ownBlock)(n:v=av∨v=rv∨v=ov)(j:Nat)(u:aaL):
 Below E.w0.heap.size E.w0 (a.setCell ⟨E.mb,j,none⟩ u)∧W.heap.size≤(a.setCell ⟨E.mb,j,none⟩ u).heap.size∧(∀b,b<W.heap.size→b≠E.mb→some b≠v.ownBlock→(a.setCell ⟨E.mb,j,none⟩ u).heap[b]? =W.heap[b]?)∧
  a.heap[E.mb]? =some (.cells (Gw E S av rv ov).toArray 85)∧ak E.mb a (a.setCell ⟨E.mb,j,none⟩ u):=by
 have i:ak E.mb a (a.setCell ⟨E.mb,j,none⟩ u):=(ak.refl _ _).set;have A:=c.size;have B:=d.size;have C:=i.size;obtain⟨n1,n2,D,F⟩:=fF.1 H.vW;obtain⟨x,y,z⟩:=n2 E.mb (.inl rfl);have s:some E.mb≠v.ownBlock:=by
  rcases n with rfl|rfl|rfl
  ·exact fun e=>x e.symm
  ·exact fun e=>y e.symm
  ·exact fun e=>z e.symm
 have w:∀q,v.ownBlock=some q→E.w0.heap.size≤q:=by
  rcases n with rfl|rfl|rfl
  ·exact fun q h=>(H.asked.lt q h).1
  ·exact fun q h=>(H.reads.lt q h).1
  ·exact fun q h=>(H.lE.lt q h).1
 have l:=((H.up.t (c.m H.up.size))).grown d (by have:=H.up.size;omega) w;refine⟨l.t (i.below H.far.1 (by have:=l.size;omega)),by omega,fun b o p r=> ?_,((d.block _ (by have:=H.lt;omega) s).t (c.block _ H.lt)).t H.box,i⟩;exact(i.block b (by omega) (by intro e;injection e with e;exact p e)).t ((d.block b (by omega) r).t (c.block b o))
theorem MK.KQ(H:MK E W S out av rv ov){b:aaK}{O:Obj}{cap n:Nat}{s:Bs}(o:S.reads.length=n)
 (p:b.ownsRow E.w0.heap.size 9 1 (.slice (some ⟨a,0,none⟩) (n+1) cap) (n+1) (cM S.reads++[.string ⟨s.toArray⟩]))(l:(W.alloc O).grownBy b rv.ownBlock)(d:some a=rv.ownBlock∨W.heap.size+1≤a):
 (MK E (b.setCell ⟨E.mb,6,none⟩ (.slice (some ⟨a,0,none⟩) (n+1) cap)) {S with reads:=S.reads++[s]} out av (.slice (some ⟨a,0,none⟩) (n+1) cap) ov∧
  bC (MB E av rv ov) W (MB E av (.slice (some ⟨a,0,none⟩) (n+1) cap) ov) (b.setCell ⟨E.mb,6,none⟩ (.slice (some ⟨a,0,none⟩) (n+1) cap)))∧b.heap[E.mb]? =some (.cells (Gw E S av rv ov).toArray 85):=by
 obtain⟨h,i,k,c,r⟩:=H.grown (az W O) l (.inr (.inl rfl)) 6 (.slice (some ⟨a,0,none⟩) (n+1) cap);have m:some E.mb≠some a:=by
  obtain⟨n1,n2,t,u⟩:=fF.1 H.vW;intro e;injection e with e;rcases d with q|q
  ·exact(n2 E.mb (.inl rfl)).2.1 (by rw[←q,e])
  ·have:=H.lt;omega
 refine⟨H.swap (v:=rv) (v':=.slice (some ⟨a,0,none⟩) (n+1) cap) h i k (aw (j:=6) c) rfl (d.elim (fun q=>.inl q) (fun q=>.inr ⟨a,rfl,by omega⟩)) (.inr (.inl ⟨rfl,rfl,rfl,rfl,rfl,rfl, ?_⟩)),c⟩;show World.ownsRow _ _ _ 1 _ (S.reads++[s]).length (cM (S.reads++[s]));rw[bB,o,oG];exact p.kept r (.inr (fun e=>m e.symm))
end
theorem NU(w:aaK)(v:aaL)(ls:List Bs)(x:Bs)(h:cg w v ls)(m:ls.length≤1000000000):
 Calls Tryz.prog 122 #[v,.string ⟨x.toArray⟩] w fun e w'=>e=.returned (.bool (ls.contains x))∧w'=w:=by
 rcases h with⟨a,c,rfl,rfl⟩|⟨b,o,c,rfl,k,l,i⟩
 ·exact Tryz.slices_Contains_string_empty a c ⟨x.toArray⟩ w
 ·have h:=Tryz.slices_Contains_string b o ls.length c (ls.map fun b=>(⟨b.toArray⟩:aaM)) ⟨x.toArray⟩ w (by simp) (by omega) (fun j d=>by rw[jo] at d;have:=i j ls[j] (cA d);rw[this];simp[d])
  rw[oe (by simp),mr] at h;exact h
theorem BQ(l:List Bs)(b:List (Bs×Bs×Bool)){u:Bs×Bs×Bool}(h:b[a]? =some u):gh l (b.take (a+1))=lQ (gh l (b.take a)) (eT u.1 u.2.1 u.2.2):=by unfold gh;rw[List.take_add_one,h,List.foldl_append];rfl
theorem Jr{E:ME}{W:aaK}{M:List Nat}{S:PS}{out:Bs}(H:MX E W M S out){v:aaL}{b:List (Bs×Bs×Bool)}(Q:kR W v b)(hv:∀g,v.ownBlock=some g→g∉M)(hk:∀u∈b,u.2.1.length≤1000000)(hn:S.reads.length+b.length≤100000000):
 Calls Tryz.prog 101 #[.pointer (some ⟨E.mb,0,none⟩),v] W fun en w'=>en=.returned (.tuple #[])∧∃d,MX E w' d (S.read b) out∧bC M W d w':=by
 have a9:∃a c,v=.slice a b.length c:=by
  rcases Q with⟨rfl,rfl⟩|⟨g,c,rfl,_⟩
  ·exact⟨none,0,rfl⟩
  ·exact⟨_,c,rfl⟩
 obtain⟨ua,uc,rfl⟩:=a9;obtain⟨N,J⟩:∃N,b.length=N:=⟨_,rfl⟩;have Z:=ad J;have HU:=ad Q;have HV:=ad hv;have aU:=ad hk;have a0:=ad hn;have X:Hid (MX E W M {S with reads:=gh S.reads (b.take 0)} out):=ad H;have n1:N≤100000000:=by omega
 rw[J] at HU HV⊢;clear H Q hv hk hn J;go_enter Tryz.func101,Tryz.ntmps101;go_upto_region 1 with fail
 go_loopw [9] (fun T wr=>∃(i:Nat) (d:List Nat),i≤N∧T=.int .i64 i∧Hid (MX E wr d {S with reads:=gh S.reads (b.take i)} out)∧Hid (bC M W d wr)) (fun T _=>N-(intOf T).toNat)
 case atStart=>exact⟨0,M,aH _,rfl,X,ad (bC.refl M W)⟩
 case round=>
  obtain⟨i,d,hi,rfl,A,r⟩:=hrel;clear X;by_cases a7:i<N
  ·have i1:(i:Int)<(N:Int):=by omega
   have i0:(0:Int)≤(i:Int):=by omega
   obtain⟨u,q⟩:∃u,b[i]? =some u:=⟨_,cA (by rw[Z.o];exact a7)⟩;have x:=ad (BQ S.reads b q);have a6:=aU.o u (eQ q);obtain⟨av,rv,ov,aq,am⟩:=A.o;have B:=ad aq;have C:=ad am;have a5:=HU.o.next (W':=wr) (fun g n I=>(r.o.cO g n (HV.o g I.symm)).2) r.o.size;rcases a5 with⟨n,_⟩|⟨g,c,n,I,h3,h4⟩
   ·rw[n] at q;cases q
   obtain⟨bb,bd,ud,uq,c0,c1,c2,c3,c4,c5,c6⟩:=h4 i u q;injection n with e1 e2 e3;clear e2;subst e1;subst e3;have ac:=ad (fun w=>DF ⟨u.1.toArray⟩ ⟨u.2.1.toArray⟩ u.2.2 w (by show u.2.1.toArray.size≤_;simp;omega));obtain⟨s,O⟩:∃s,eT u.1 u.2.1 u.2.2=s:=⟨_,rfl⟩;have af:Hid (∀w,Calls Tryz.prog 142 #[.string ⟨u.1.toArray⟩,.string ⟨u.2.1.toArray⟩,.bool u.2.2] w (cN w (.string ⟨s.toArray⟩))):=ad (by intro w;rw[←O];exact ac.o w);rw[O] at x;clear q h4 aq am O I h3 a6 ac;obtain⟨R,K⟩:∃R,gh S.reads (b.take i)=R:=⟨_,rfl⟩;have ab:=ad (show R.length≤100000000 by have n:=uU S.reads (b.take i);rw[K,gu] at n;have:=a0.o;omega)
   rw[K] at x B;clear K A;go_wp2_with fail;refine(af.o _).m ?_;rintro e V⟨rfl,an⟩;have L:=(az wr (.cells #[.int .i64 bb,.int .i64 bd,.string ⟨u.1.toArray⟩,.string ⟨u.2.1.toArray⟩,.string ⟨ud.toArray⟩,.bool u.2.2,.bool uq] 168)).t (an.m (by rw[aO];omega));have j:=ad (B.o.next L);have F:=ad (r.o.t (bC.ai (M:=d) L));clear an L c0 c1 c2 c3 c4 c5 c6 B r af;obtain⟨ra,rc,a8⟩:=aX j.o.reads;subst a8;have b6:=aj j.o.box 6;have f6:V.frozen? ⟨E.mb,6,none⟩=false:=aA j.o.box;by_cases y:s=[]
   ·have l:Hid (MX E V d {S with reads:=gh S.reads (b.take (i+1))} out):=ad ⟨_,_,_,by rw[x.o,y];exact j.o,C.o⟩;subst y;go_wp2_with fail
    go_roundw
    case rel=>exact⟨i+1,d,by omega,by go_num,l,F⟩
    case measure=>(simp[intOf]<;>omega)
   ·have q1:(s==[])=false:=aL.2 y;have q2:(s !=[])=true:=by rw[bne,q1];rfl
    have D:=ad (show lQ R s=if R.contains s then R else R++[s] by unfold lQ;rw[zW y];rfl);have Y:=ad (NU V _ R s (cg.wO j.o.reads) (by have:=ab.o;omega));obtain⟨G,ao⟩:∃G,R.contains s=G:=⟨_,rfl⟩;rw[ao] at Y D;clear ao y;go_wp2_with fail;refine Y.o.m ?_;rintro e w3⟨rfl,rfl⟩;cases G
    ·have a2:=ad (show gh S.reads (b.take (i+1))=R++[s] by rw[x.o,D.o];rfl);obtain⟨k,p⟩:∃k,R.length=k:=⟨_,rfl⟩;have a3:=ad p;have aa:=ad j.o.reads;rw[p] at aa b6 j;have a1:=ad (show d=MB E av (.slice ra k rc) ov by rw[C.o,←p]);have l1:k≤100000000:=by rw[←p];exact ab.o
     rw[p];clear p;go_wp2_with (at_builtin;refine DE rfl _ _ 42 rfl 9 (.string ⟨#[]⟩) 1 16 Vp MO rfl (by decide) E.w0.heap.size w3 (.slice ra k rc) k (cM R) rfl aa.o [.string ⟨s.toArray⟩] rfl rfl rfl (by simp[Value.oneCell']) (by omega) (by omega) j.o.up.size ?_;intro g2 al w5 aN ap ay;have z:=ad (j.o.KQ a3.o aN ap ay);have be:=tH _ _ 6 _ _ _ z.o.2;have bf:w5.frozen? ⟨E.mb,6,none⟩=false:=aA z.o.2;clear aN ap ay);have l:Hid (MX E (w5.setCell ⟨E.mb,6,none⟩ (.slice (some ⟨g2,0,none⟩) (k+1) al)) (MB E av (.slice (some ⟨g2,0,none⟩) (k+1) al) ov) {S with reads:=gh S.reads (b.take (i+1))} out):=ad ⟨_,_,_,by rw[a2.o];exact z.o.1.1,rfl⟩;have a4:=ad (F.o.t (by rw[a1.o];exact z.o.1.2))
     go_roundw
     case rel=>exact⟨i+1,_,by omega,by go_num,l,a4⟩
     case measure=>(simp[intOf]<;>omega)
    ·have l:Hid (MX E w3 d {S with reads:=gh S.reads (b.take (i+1))} out):=ad ⟨_,_,_,by rw[x.o,D.o];exact j.o,C.o⟩;go_wp2_with fail
     go_roundw
     case rel=>exact⟨i+1,d,by omega,by go_num,l,F⟩
     case measure=>(simp[intOf]<;>omega)
  ·obtain rfl:i=N:=by omega
   have l:Hid (MX E wr d (S.read b) out):=ad (by have h:=A.o;rw[oe (by rw[Z.o];exact ag _)] at h;exact h);go_wp2_with fail
   go_end0
   exact⟨rfl,d,l.o,r.o⟩
variable{b:Bs}{a:aaK}
theorem KR{base:Nat}{v:aaL}{L:List iZ}(h:zu a base v L):kR a v (L.map fun u=>(u.name,u.key,u.hk)):=by
 have y:=h.lt;rcases h.2 with⟨b,c⟩|⟨g,cap,r,b,c,e,l,s,t,x⟩
 ·exact .inl ⟨by rw[jn c];rfl,b⟩
 ·have n:=h.cells (g:=g) (by rw[b];rfl);refine .inr ⟨g,cap,by rw[b,jo],by rw[jo];exact l,(aB.1 e).1,fun i p d=> ?_⟩;rw[uI] at d;obtain⟨u,o,rfl⟩:=qG.1 d;have k:∀(j:Nat) (w:aaL),(lR u)[j]? =some w→a.cell? ⟨g,i*7+j,none⟩=some w:=fun j w q=>by
   have m:(⟨g,0,none⟩:Addr).add (i*7+j)=⟨g,0+(i*7+j),none⟩:=by unfold Addr.add;split<;>simp_all
   have:=n _ _ (tV L i j u w o q);rw[m,dH] at this;exact this
  exact⟨u.src,u.to,u.cK,u.hd,k 0 _ rfl,k 1 _ rfl,k 2 _ rfl,k 3 _ rfl,k 4 _ rfl,k 5 _ rfl,k 6 _ rfl⟩
theorem Gx{u:Bs×Bs×Bool}(h:u∈dd b):u.2.1.length≤64:=by obtain⟨v,d,rfl⟩:=qE.1 h;obtain⟨k,c⟩:=zP.1 d;obtain⟨j,a,_⟩:=DG (nC b _ _) c;exact a.key
def Vq(E:ME):Prop:=∀(i:Nat) (g:j5),E.fZ[i]? =some g→∃b o,E.ga=some ⟨b,o,none⟩∧b<E.w0.heap.size∧E.w0.cell? ⟨b,o+i*3,none⟩=some (.string ⟨g.body.toArray⟩)∧E.w0.cell? ⟨b,o+i*3+1,none⟩=some (.bool g.F3)∧E.w0.cell? ⟨b,o+i*3+2,none⟩=some (.bool g.ok)
structure QQ (E:ME):Prop where
 gl:GL E.w0
 Vr:aZ E.w0 (.slice E.fa E.fn E.fc) E.fs
 Vs:rX E.fs
 t1:E.t.length≤100000
 h1:E.h.length≤100002000
 i1:E.inc≤64
 d1:E.dep≤8
 Vc:E.fZ.length≤100000000
 fZ:Vq E
 Vd:∀g∈E.fZ,g.body.length≤1000000
theorem DH{E:ME}(i:QQ E){M:List Nat}{S:PS}(H:MX E a M S b)(s:Bs)(J:s.length≤1000000)(I:S.reads.length≤90000000):
 Calls Tryz.prog 90 #[.pointer (some ⟨E.mb,0,none⟩),.string ⟨s.toArray⟩] a fun en w'=>en=.returned (.tuple #[.string ⟨(eA E.h E.t E.fs s).1.toArray⟩,.bool ((eA E.h E.t E.fs s).2==0)])∧∃B,MX E w' B (S.read (dd s)) b∧bC M a B w':=by
 obtain⟨av,rv,ov,p,C⟩:=H;have y:=ad p;have z:=ad C;have d:=ad i;have Z:=ad (DJ ⟨s.toArray⟩ a (i.gl.gx.aq.next p.up) (by show s.toArray.size≤_;simp;omega));have A:=ad (And.intro J I);obtain⟨V,k⟩:∃V,eA E.h E.t E.fs s=V:=⟨_,rfl⟩;have aa:=ad k;rw[k];clear p C J I k i;go_enter Tryz.func90,Tryz.ntmps90;go_wp2_with fail;refine Z.o.m ?_;rintro e w1⟨v,rfl,q,l⟩;have N:=ad (y.o.next l);have F:∀g,v.ownBlock=some g→g∉M:=fun g hg G=>by have h1:=(q.lt g hg).1;rw[z.o] at G;have:=(y.o.mlt g G).2;omega
 have R:=ad (Jr (M:=M) ⟨av,rv,ov,N.o,z.o⟩ (show kR w1 v (dd s) from KR q) F (fun u hu=>by have:=Gx hu;omega) (by have:=nD s;have:=A.o;omega));have T:=ad (bC.ai (M:=M) l);clear q l F;go_wp2_with fail;refine R.o.m ?_;rintro e r⟨rfl,j,L,K⟩;have an:=ad L;have X:=ad (T.o.t K);obtain⟨ac,am,al,c,D⟩:=L;have O:=ad c;have Q:=ad D;obtain⟨b8,b9,af⟩:=qX3 (aj c.box) 8 9 10;have w:=ad (KS ⟨s.toArray⟩ ⟨E.h.toArray⟩ ⟨E.t.toArray⟩ E.fa E.fn E.fc E.fs r (d.o.gl.gx.aq.next c.up) (d.o.Vr.below c.up) d.o.Vs (by show E.t.toArray.size≤_;simp;exact d.o.t1) (by show s.toArray.size≤_;simp;exact A.o.1));have x:Hid (Calls Tryz.prog 130 #[.string ⟨s.toArray⟩,.agg #[.string ⟨E.h.toArray⟩,.string ⟨E.t.toArray⟩,.slice E.fa E.fn E.fc]] r (cN r (Gy V))):=ad (by rw[←aa.o];exact w.o);clear K c D w;unfold Gy at x;go_wp2_with fail;refine x.o.m ?_;rintro e w3⟨rfl,n⟩;have ab:Hid (MX E w3 j (S.read (dd s)) b):=ad ⟨ac,am,al,O.o.next n,Q.o⟩;have Y:=ad (X.o.t (bC.ai (M:=j) n));clear n b8 b9 af;go_wp2_with fail;go_ret2;exact⟨rfl,j,ab.o,Y.o⟩
variable{u:List Nat}{b:aaK}
theorem rj{P:Program}(w:aaK)(base:Nat)(t u d e:TypeId)(i:TypeInfo)(o:P.underlying t=some (.slice e))(p:P.underlying u=some .string)(h:P.info? e=some i)(y:i.zero=some (.int .u8 0))
 (m:i.size=1)(x:i.bytes=1)(v:aaL)(n:Nat)(xs:List aaL)(c:w.ownsRow base e 1 v n xs)(s:aaM)
 (z:n+s.size≤maxLen)(B:n+s.size≤140737488355328)(H:base≤w.heap.size):
 ∃v' w',(Builtin.append_ #[t,u] d #[v,.string s]).run P w=.ok v' w'∧w'.ownsRow base e 1 v' (n+s.size) (xs++Lib.strCells s)∧w.grownBy w' v.ownBlock∧(v'.ownBlock=v.ownBlock∨∃k,v'.ownBlock=some k∧w.heap.size≤k):=by
 obtain⟨v',w',l,D,E,F⟩:=Lib.run_append_own_string (P:=P) w base t u d e i o p h y m x v n xs c s z B H;refine⟨v',w',l,D,E, ?_⟩;rcases c.2 with⟨rfl,rfl⟩|⟨g,cap,q,rfl,A,J,S,Q,I,T⟩
 ·by_cases K:s.size=0
  ·rw[F.2 ⟨rfl,K⟩];exact .inl rfl
  ·have M:xs=[]:=jn (by simpa using c.1);subst M;obtain⟨v2,V,a,G,_,_⟩:=Lib.run_append_own_string (P:=P) w w.heap.size t u d e i o p h y m x (.slice none 0 0) 0 [] (jO w _ _ _) s z B (ag _);rw[l] at a;injection a with b r;subst b r;rcases G.2 with⟨_,O⟩|⟨g,cap,q,C,A,_⟩
   ·omega
   ·exact .inr ⟨g,by rw[C];rfl,A⟩
 ·by_cases L:n+s.size≤cap
  ·have R:q.size=cap:=by simpa using I
   have a:=Lib.run_append_room_string (P:=P) w t u d e i o p h m g n cap q J s L (by omega);rw[l] at a;injection a with b r;subst b;exact .inl rfl
  ·have holds:∀j u,xs[j]? =some u→w.cell? ((⟨g,0,none⟩:Addr).add j)=some u:=c.cells (g:=g) rfl;have N:xs.length=n:=by simpa using c.1
   have a:=Lib.run_append_grow_string (P:=P) w t u d e i (.int .u8 0) o p h y ⟨g,0,none⟩ n cap xs (by rw[m];simpa using N) holds s (by omega) (by omega) (by rw[x];exact growslice_fits (by omega) (by omega));rw[l] at a;injection a with b r;subst b;exact .inr ⟨w.heap.size,rfl,ag _⟩
theorem DK{P:Program}{ops:Array Oper}{rest:List Oper}{o:Oper}{a:Act}{Q:Exit→Act→aaK→Prop}(z:o.guard=none)(c x:Operand)(t u:TypeId)
 (B:o.op=.call {callee:=.builtin .append,args:=#[c,x],argTypes:=#[t,u]})
 (base:Nat)(e:TypeId)(i:TypeInfo)(G:P.underlying t=some (.slice e))(H:P.underlying u=some .string)(A:P.info? e=some i)(J:i.zero=some (.int .u8 0))
 (F:i.size=1)(r:i.bytes=1)
 (v:aaL)(n:Nat)(xs:List aaL)(E:a.eval c=v)(C:b.ownsRow base e 1 v n xs)(s:aaM)(I:a.eval x=.string s)
 (m:n+s.size≤maxLen)(y:n+s.size≤140737488355328)(q:base≤b.heap.size)
 (h:∀v' w',w'.ownsRow base e 1 v' (n+s.size) (xs++Lib.strCells s)→b.grownBy w' v.ownBlock→(v'.ownBlock=v.ownBlock∨∃k,v'.ownBlock=some k∧b.heap.size≤k)→wpList P ops Q rest (a.put o.dst v') w'):wpList P ops Q (o::rest) a b:=by
 refine wpList_plain z fun K p=> ?_;obtain⟨v',w',D,d,j,l⟩:=rj (P:=P) b base t u o.type e i G H A J F r v n xs C s m y q;unfold Oper.wp execOp;simp only[B,resolve,invoke,builtin,Sem.run_bind,Sem.run_pure,Result.andThen_ok,List.map_toArray,kg,List.map_nil,E,I,D];exact p _ _ (h v' w' d j l)
section
variable{E:ME}{W W':aaK}{S:PS}{out:Bs}{av rv ov:aaL}
theorem MK.Rn(H:MK E W S out av rv ov){v':aaL}{n:Nat}{s:Bs}(r:out.length=n)
 (t:b.ownsRow E.w0.heap.size 5 1 v' (n+(⟨s.toArray⟩:aaM).size) (da out++Lib.strCells ⟨s.toArray⟩))(m:W.grownBy b ov.ownBlock)(c:v'.ownBlock=ov.ownBlock∨∃k,v'.ownBlock=some k∧W.heap.size≤k):
 (MK E (b.setCell ⟨E.mb,7,none⟩ v') S (out++s) av rv v'∧bC (MB E av rv ov) W (MB E av rv v') (b.setCell ⟨E.mb,7,none⟩ v'))∧b.heap[E.mb]? =some (.cells (Gw E S av rv ov).toArray 85):=by
 obtain⟨d,h,i,a,u⟩:=H.grown (ar _ _) m (.inr (.inr rfl)) 7 v';have o:v'.ownBlock≠some E.mb:=by
  obtain⟨n1,n2,x,y⟩:=fF.1 H.vW;rcases c with q|⟨k,q,w⟩
  ·rw[q];exact(n2 E.mb (.inl rfl)).2.2
  ·rw[q];intro e;injection e with e;have:=H.lt;omega
 refine⟨H.swap (v:=ov) (v':=v') d h i (aw (j:=7) a) rfl c (.inr (.inr ⟨rfl,rfl,rfl,rfl,rfl,rfl, ?_⟩)),a⟩;have p:(out++s).length=n+(⟨s.toArray⟩:aaM).size:=by rw[bB,r];rfl
 have l:da (out++s)=da out++Lib.strCells ⟨s.toArray⟩:=by rw[strCells_eq];simp[da]
 rw[p,l];exact t.kept u (.inr o)
end
def gA:PanicEntry:={v:=.iface 107 (.agg #[]),recovered:=false}
def fy(E:ME)(M:List Nat)(W:aaK)(out:Bs)(r:PS×Oc):Ending→aaK→Prop:=fun b w'=>match r.2 with
 |.yes t=>b=.returned (.bool true)∧∃a,MX E w' a r.1 (out++t)∧bC M W a w'
 |.no=>b=.returned (.bool false)∧∃a,MX E w' a r.1 out∧bC M W a w'
 |.wait=>b=.panicked [gA]∧∃a g,MX E w' a r.1 (out++g)∧bC M W a w'
def dk(E:ME)(M:List Nat)(W:aaK)(out:Bs)(r:PS×Oc):Ending→aaK→Prop:=fun b w'=>match r.2 with
 |.yes t=>b=.returned (.bool true)∧∃a,MX E w' a r.1 (out++t)∧bC M W a w'
 |.no=>b=.returned (.bool false)∧∃a g,MX E w' a r.1 (out++g)∧bC M W a w'
 |.wait=>b=.panicked [gA]∧∃a g,MX E w' a r.1 (out++g)∧bC M W a w'
theorem fy.Xa{E:ME}{W:aaK}{out:Bs}{r:PS×Oc}{a:Ending}(h:fy E u W out r a b):dk E u W out r a b:=by
 obtain⟨S,o⟩:=r;cases o with
 |yes t=>exact h
 |no=>obtain⟨d,c,e,i⟩:=h;exact⟨d,c,[],by rw[jm];exact e,i⟩
 |wait=>exact h
theorem xq{E:ME}{W:aaK}{S:PS}{out:Bs}(H:MX E W u S out)(s:Bs)(w:s.length≤100000000)(r:out.length≤100000000):
 Calls Tryz.prog 91 #[.pointer (some ⟨E.mb,0,none⟩),.string ⟨s.toArray⟩] W (fy E u W out (S,jq s out.length)):=by
 obtain⟨F,B,D,C,A⟩:=info_parts Ti;obtain⟨av,rv,ov,a,rfl⟩:=H;obtain⟨G,I,rfl⟩:=aX a.lE;have c:=ad a;have y:=aj a.box 7;have L:W.frozen? ⟨E.mb,7,none⟩=false:=aA a.box;obtain⟨n,h⟩:∃n,out.length=n:=⟨_,rfl⟩;obtain⟨m,e⟩:∃m,s.length=m:=⟨_,rfl⟩;have x:=ad h;have p:=ad a.lE;rw[h] at c y r p⊢;have i:=ad (show(⟨s.toArray⟩:aaM).size=m by show s.toArray.size=m;simp[e]);have k:=ad (show jq s n=if 262144<n+m then .no else .yes s by unfold jq;rw[e];rfl);rw[e] at w;have Q:(n:Int)≤100000000:=by omega
 have R:(m:Int)≤100000000:=by omega
 have T:(0:Int)≤(n:Int):=by omega
 have V:(0:Int)≤(m:Int):=by omega
 have l:=ad (And.intro w r);clear a;by_cases d:262144<n+m
 ·have z:(262144:Int)<(n:Int)+(m:Int):=by omega
  rw[k.o,ah d];clear h d;have O:s.length=m:=e;go_enter Tryz.func91,Tryz.ntmps91;go_wp2_with fail;go_ret;exact⟨rfl,_,⟨_,_,_,c.o,rfl⟩,bC.refl _ _⟩
 ·have z:¬(262144:Int)<(n:Int)+(m:Int):=by omega
  rw[k.o,ae d];clear h d;go_enter Tryz.func91,Tryz.ntmps91;go_wp2_with (at_builtin;refine DK rfl _ _ 83 9 rfl E.w0.heap.size 5 F u83 u9 B D C A (.slice G n I) n (da out) rfl p.o ⟨s.toArray⟩ rfl (by have:=l.o;have:=i.o;unfold maxLen;omega) (by have:=l.o;have:=i.o;omega) c.o.up.size ?_;intro v2 J j q t;have b:=ad (c.o.Rn x.o j q t);obtain⟨X,Y,rfl⟩:=aX j;have K:=tH _ _ 7 _ _ _ b.o.2;have N:J.frozen? ⟨E.mb,7,none⟩=false:=aA b.o.2;clear j q t);rw[i.o] at b;go_ret;exact⟨rfl,_,⟨_,_,_,b.o.1.1,rfl⟩,b.o.1.2⟩
variable{a:Bs}{d:Ending}{u b:List Nat}{q:ME}{e:PS×Oc}{i s n:aaK}
theorem MX.next{E:ME}{W W':aaK}{M:List Nat}{S:PS}{out:Bs}(H:MX E W M S out)(a:Below W.heap.size W W'):MX E W' M S out:=by obtain⟨av,rv,b,h,e⟩:=H;exact⟨av,rv,b,h.next a,e⟩
theorem fy.pre(m:bC u i b s)(h:fy q b s a e d n):fy q u i a e d n:=by
 obtain⟨S,o⟩:=e;cases o with
 |yes t=>obtain⟨j,c,k,l⟩:=h;exact⟨j,c,k,m.t l⟩
 |no=>obtain⟨j,c,k,l⟩:=h;exact⟨j,c,k,m.t l⟩
 |wait=>obtain⟨j,c,g,k,l⟩:=h;exact⟨j,c,g,k,m.t l⟩
theorem dk.pre(m:bC u i b s)(h:dk q b s a e d n):dk q u i a e d n:=by
 obtain⟨S,o⟩:=e;cases o with
 |yes t=>obtain⟨j,c,k,l⟩:=h;exact⟨j,c,k,m.t l⟩
 |no=>obtain⟨j,c,g,k,l⟩:=h;exact⟨j,c,g,k,m.t l⟩
 |wait=>obtain⟨j,c,g,k,l⟩:=h;exact⟨j,c,g,k,m.t l⟩
theorem xr(t:Bs)(n:Nat):jq t n=.no∨jq t n=.yes t:=by unfold jq;split<;>simp
theorem xt(h t:Bs)(fs:List dQ)(s:Bs):(eA h t fs s).1.length≤262144:=by
 unfold eA;cases a:decide ((uW h t fs s).length≤oP) with
 |true=>exact dv a
 |false=>exact aH _
abbrev zv(b:U)(d:Nat)(vs:Bool):List aaL:=[.string ⟨b.scheme.toArray⟩,.string ⟨b.host.toArray⟩,.int .i64 b.port,.string ⟨b.path.toArray⟩,.string ⟨b.query.toArray⟩,.bool b.hq,.int .i64 d,.bool vs]
abbrev Tp(b:U)(d:Nat)(vs:Bool):aaL:=.agg #[.string ⟨b.scheme.toArray⟩,.string ⟨b.host.toArray⟩,.int .i64 b.port,.string ⟨b.path.toArray⟩,.string ⟨b.query.toArray⟩,.bool b.hq,.int .i64 d,.bool vs]
theorem NV(P:fx)(vs:Bool)(t:Bs)(S:PS)(n:Nat):lS P vs t S n=if vs=false then(S,jq t n) else if(eA P.h P.t P.fs t).2=0 then(S.read (dd t),jq (eA P.h P.t P.fs t).1 n) else(S.read (dd t),.no):=by
 unfold lS BR;split
 ·rfl
 ·split
  ·rename_i c a;split at a
   ·cases a
   ·rename_i b;rw[ae b]
  ·rename_i r c a;split at a
   ·rename_i b;cases a;rw[ah b]
   ·cases a
theorem Ro(J:QQ q){S:PS}(H:MX q i u S a)(t:Bs)(Z:t.length≤1000000)(X:S.reads.length≤90000000)(T:a.length≤100000000)(b:U)(d:Nat)(vs:Bool):
 Calls Tryz.prog 46 #[.pointer (some ⟨q.mb,0,none⟩),.string ⟨t.toArray⟩,Tp b d vs] i (fy q u i a (lS q.env vs t S a.length)):=by
 have D:=az i (.cells (zv b d vs).toArray 109);have A:=ad (bC.ai (M:=u) D);have C:=ad (H.next D);have K:=ad (au i (.cells (zv b d vs).toArray 109));have ab:=ad J;have r:=ad (And.intro Z (And.intro X T));have G:=NV q.env vs t S a.length;obtain⟨R,Q⟩:∃R,lS q.env vs t S a.length=R:=⟨_,rfl⟩;rw[Q] at G⊢;have L:=ad G;clear D H J Z X T G Q;go_enter Tryz.func46,Tryz.ntmps46;go_upto_region 1 with fail;generalize i.alloc (.cells (zv b d vs).toArray 109)=W1 at*;have c7:=aj K.o 7;cases vs
 ·have n:=ad (show R=(S,jq t a.length) by rw[L.o];rfl);have l:=ad (xq C.o t (by have:=r.o;omega) r.o.2.2);rcases xr t a.length with j|j
  ·rw[j] at l n;clear j;go_wp2_with fail;refine l.o.m ?_;rintro w s⟨rfl,c⟩;have k:=ad (show fy q u i a R (.returned (.bool false)) s by rw[n.o];exact fy.pre A.o ⟨rfl,c⟩);clear c;go_wp2_with fail;go_ret;exact k.o
  ·rw[j] at l n;clear j;go_wp2_with fail;refine l.o.m ?_;rintro w s⟨rfl,c⟩;have k:=ad (show fy q u i a R (.returned (.bool true)) s by rw[n.o];exact fy.pre A.o ⟨rfl,c⟩);clear c;go_wp2_with fail;go_ret;exact k.o
 ·have z:=ad (DH ab.o C.o t r.o.1 r.o.2.1);have N:=ad (xt q.h q.t q.fs t);obtain⟨V,F⟩:∃V,eA q.h q.t q.fs t=V:=⟨_,rfl⟩;have n:=ad (show R=if V.2=0 then(S.read (dd t),jq V.1 a.length) else(S.read (dd t),.no) by rw[L.o];show(if(eA q.h q.t q.fs t).2=0 then(S.read (dd t),jq (eA q.h q.t q.fs t).1 a.length) else(S.read (dd t),.no))=_;rw[F]);rw[F] at z N;obtain⟨y,e⟩:=V;clear F;go_wp2_with fail;refine z.o.m ?_;rintro w s⟨rfl,M2,aa,Y⟩;have O:=ad aa;have B:=ad (A.o.t Y);clear aa Y c7 z C K;by_cases x:e=0
  ·subst x;have p:=ad (show R=(S.read (dd t),jq y a.length) from n.o);have l:=ad (xq O.o y (by have h:y.length≤262144:=N.o;omega) r.o.2.2);rcases xr y a.length with j|j
   ·rw[j] at l p;clear j;go_wp2_with fail;refine l.o.m ?_;rintro w I⟨rfl,c⟩;have k:=ad (show fy q u i a R (.returned (.bool false)) I by rw[p.o];exact fy.pre B.o ⟨rfl,c⟩);clear c;go_wp2_with fail;go_ret;exact k.o
   ·rw[j] at l p;clear j;go_wp2_with fail;refine l.o.m ?_;rintro w I⟨rfl,c⟩;have k:=ad (show fy q u i a R (.returned (.bool true)) I by rw[p.o];exact fy.pre B.o ⟨rfl,c⟩);clear c;go_wp2_with fail;go_ret;exact k.o
  ·have p:=ad (show R=(S.read (dd t),.no) by rw[n.o];exact ae x);have q1:=eS x;have k:=ad (show fy q u i a R (.returned (.bool false)) s by rw[p.o];exact⟨rfl,M2,O.o,B.o⟩);clear x;go_wp2_with fail;go_ret;exact k.o
section
variable{E:ME}{W W':aaK}{S:PS}{out:Bs}{av rv ov:aaL}
theorem Gz(a b:Bs):da (a++b)=da a++da b:=by simp[da]
theorem GA(a:Bs):(da a).length=a.length:=by simp[da]
theorem MK.Rp{g:Bs}{a:Option Addr}{c:Nat}(H:MK E W S (out++g) av rv (.slice a (out++g).length c)):
 MK E (W.setCell ⟨E.mb,7,none⟩ (.slice a out.length c)) S out av rv (.slice a out.length c)∧bC (MB E av rv (.slice a (out++g).length c)) W (MB E av rv (.slice a out.length c)) (W.setCell ⟨E.mb,7,none⟩ (.slice a out.length c)):=by
 have k:ak E.mb W (W.setCell ⟨E.mb,7,none⟩ (.slice a out.length c)):=(ak.refl _ _).set;have n:(Value.slice a out.length c).ownBlock=(Value.slice a (out++g).length c).ownBlock:=by cases a<;>rfl
 obtain⟨n1,n2,w,x⟩:=fF.1 H.vW;have r:W.ownsRow E.w0.heap.size 5 1 (.slice a out.length c) out.length (da out):=by
  have h:=H.lE;rcases h.2 with⟨d,i⟩|⟨g',cap,s,d,i⟩
  ·injection d with l o m;subst l;subst m;have p:out.length=0:=by rw[bB] at i;omega
   have q:out=[]:=jn p;subst q;exact jO _ _ _ _
  ·injection d with l o m;subst l;subst m;rw[Gz] at h;exact Dp h (by rw[bB];omega) (by rw[GA];omega)
 refine H.swap (v:=.slice a (out++g).length c) (v':=.slice a out.length c) (H.up.t (k.below H.far.1 H.up.size)) k.size (fun b d i u=>k.block b d (by intro e;injection e with e;exact i e)) (aw (j:=7) H.box) rfl (.inl n) (.inr (.inr ⟨rfl,rfl,rfl,rfl,rfl,rfl, ?_⟩));exact r.kept k (.inr (by rw[n];exact(n2 E.mb (.inl rfl)).2.2))
end
theorem xu{E:ME}{W:aaK}{M:List Nat}{S:PS}{out:Bs}(H:MX E W M S out)(O:out.length≤100000000){r:PS×Oc}(f:FuncId)(cap:Array aaL)(Z:∀(vs:Array aaL) (w:aaK),(callFunc f vs).run Tryz.prog w=.ok (.enter f vs) w)
 (B:Calls Tryz.prog f cap W (dk E M W out r)):
 Calls Tryz.prog 51 #[.pointer (some ⟨E.mb,0,none⟩),.func (.func f) #[] cap] W (fy E M W out r):=by
 obtain⟨av,rv,ov,p,rfl⟩:=H;obtain⟨u,x,rfl⟩:=aX p.lE;have z:=aj p.box 7;have y:=ad B;obtain⟨n,q⟩:∃n,out.length=n:=⟨_,rfl⟩;have d:=ad q;rw[q] at z O y⊢;have i1:(n:Int)≤100000000:=by omega
 have i0:(0:Int)≤(n:Int):=by omega
 clear p B q;obtain⟨j,o⟩:=r;go_enter Tryz.func51,Tryz.ntmps51;go_wp2_with fail;refine y.o.m ?_;rintro X i s;cases o with
 |yes t=>obtain⟨rfl,e,a,b⟩:=s;have c:=ad (show fy E (MB E av rv (.slice u n x)) W out (j,.yes t) (.returned (.bool true)) i from⟨rfl,e,a,b⟩);clear a b;go_wp2_with fail;go_ret;exact c.o
 |no=>
  obtain⟨rfl,e,g,⟨R,ac,ab,a,rfl⟩,b⟩:=s;obtain⟨Q,C,rfl⟩:=aX a.lE;have D:=ad a.Rp;have F:=ad b;have G:=aj a.box 7;have Y:i.frozen? ⟨E.mb,7,none⟩=false:=aA a.box;have aa:(n:Int)≤(C:Int):=by
   rcases a.lE.2 with⟨k,l⟩|⟨g',T,V,k,_,_,l,_⟩
   ·injection k with I J K;have:=d.o;rw[bB] at l;omega
   ·injection k with I J K;have:=d.o;rw[bB] at l;omega
  have N:(n:Int)≤((out++g).length:Int):=by have:=d.o;rw[bB];omega
  have c:=ad (show fy E (MB E av rv (.slice u n x)) W out (j,.no) (.returned (.bool false)) (i.setCell ⟨E.mb,7,none⟩ (.slice Q n C)) from by have h:=D.o;rw[d.o] at h;exact⟨rfl,_,⟨_,_,_,h.1,rfl⟩,F.o.t h.2⟩)
  obtain⟨L,A⟩:∃L,(out++g).length=L:=⟨_,rfl⟩;rw[A] at G N;clear a b A z;go_wp2_with fail;go_ret;exact c.o
 |wait=>obtain⟨rfl,e,g,a,b⟩:=s;have c:=ad (show fy E (MB E av rv (.slice u n x)) W out (j,.wait) (.panicked [gA]) i from⟨rfl,e,g,a,b⟩);clear a b;go_wp2_with fail;exact⟨rfl,c.o⟩
variable{u:List Nat}{p:List Nd}{d:Nat}{b:Nd}
def DL(o:Bs):PS×Oc→PS×Oc
 |(S,.yes t)=>(S,.yes (o++t))
 |q=>q
theorem NW(r:PS×Oc):DL [] r=r:=by obtain⟨S,o⟩:=r;cases o<;>rfl
theorem NY(a b:Bs)(r:PS×Oc):DL a (DL b r)=DL (a++b) r:=by
 obtain⟨S,o⟩:=r;cases o with
 |yes t=>show(S,Oc.yes (a++(b++t)))=(S,Oc.yes (a++b++t));rw[jl]
 |no=>rfl
 |wait=>rfl
theorem GB{P:fx}{deep:Deep}{base:U}(k:p[d]? =some b)(vs:Bool)(S:PS)(a:Nat):
 (∀c t,bT P deep base b vs S a=(c,.yes t)→dJ P deep base (p.drop d) vs S a=DL t (dJ P deep base (p.drop (d+1)) vs c (a+t.length)))∧
 (∀c,bT P deep base b vs S a=(c,.no)→dJ P deep base (p.drop d) vs S a=(c,.no))∧(∀c,bT P deep base b vs S a=(c,.wait)→dJ P deep base (p.drop d) vs S a=(c,.wait)):=by
 obtain⟨e,j⟩:=cH.1 k;rw[lG e,j,dJ];refine⟨fun c t h=> ?_,fun c h=>by rw[h],fun c h=>by rw[h]⟩;rw[h];dsimp only;generalize dJ P deep base (p.drop (d+1)) vs c (a+t.length)=q;obtain⟨m,o⟩:=q;cases o<;>rfl
def kl(E:ME)(deep:Deep)(base:U)(dp:Nat)(n:Nd):Prop:=
 ∀(W:aaK) (M:List Nat) (S:PS) (out:Bs) (vs:Bool) (v:aaL),MX E W M S out→fu (fun b=>b∉M) W n v→bq E.inc S (wN n)→out.length≤262144→
  Calls Tryz.prog 25 #[.pointer (some ⟨E.mb,0,none⟩),v,Tp base dp vs] W (dk E M W out (bT E.env deep base n vs S out.length))
theorem Js(e:p[d]? =some b):wL (p.drop d)=wN b+wL (p.drop (d+1)):=by obtain⟨a,c⟩:=cH.1 e;rw[lG a,c,wL]
theorem fC.stay{j:List Nat}{W W':aaK}{v:aaL}(h:fC (fun b=>b∉u) W p v)(a:bC u W j W'):fC (fun b=>b∉j) W' p v:=by
 rcases h with h|⟨b,o,c,d,e,k,i,m⟩
 ·exact .inl h
 ·exact .inr ⟨b,o,c,d,e,(a.cO b i k).1,ej i a.size,pW a.size (fun b d e=>a.cO b e d) p b o k i m⟩
theorem GC{E:ME}{deep:Deep}{base:U}(HK:DM E.env deep base){W:aaK}{S:PS}{out:Bs}(H:MX E W u S out)(hN:∀x∈p,kl E deep base d x){v:aaL}(O:fC (fun b=>b∉u) W p v)(a1:DN p)(hl:p.length≤1000000)(hw:bq E.inc S (wL p))(ho:out.length≤262144)(vs:Bool):
 Calls Tryz.prog 53 #[.pointer (some ⟨E.mb,0,none⟩),v,Tp base d vs] W (dk E u W out (dJ E.env deep base p vs S out.length)):=by
 obtain⟨ka,kc,rfl⟩:=O.shape;have J:=az W (.cells (zv base d vs).toArray 109);have HP:=ad (au W (.cells (zv base d vs).toArray 109));obtain⟨R,L⟩:∃R,dJ E.env deep base p vs S out.length=R:=⟨_,rfl⟩;rw[L];have af:Hid (MX E _ u S (out++[])):=ad (by rw[jm];exact H.next J);have B:=ad (bC.ai (M:=u) J);have ao:Hid (DL [] (dJ E.env deep base (p.drop 0) vs S (out.length+([]:Bs).length))=R):=ad (by rw[NW];exact L);have ay:Hid (bq E.inc S (wL (p.drop 0))):=ad hw;have a5:=ad hN;have ac:=ad O;have ab:=ad HK;have a7:=ad a1;have bb:=ad (show∀b,b∉u→b<W.heap.size→True from fun _ _ _=>trivial);obtain⟨N,K⟩:∃N,p.length=N:=⟨_,rfl⟩;have al:=ad K;rw[K] at ac hl⊢;have bd:=ad (show W.heap.size∉u from fun hm=>by obtain⟨av,rv,ov,h1,rfl⟩:=H;have:=(h1.mlt _ hm).2;omega)
 have a8:=ad ho;clear H hN O hw ho J L K HK bb a1;go_enter Tryz.func53,Tryz.ntmps53;go_upto_region 1 with fail;generalize aN:W.alloc (.cells (zv base d vs).toArray 109)=W1 at*;have bo:=ad (show W1.heap.size=W.heap.size+1 by rw[←aN];exact aO _ _);clear aN;generalize W.heap.size=pb at*;have a3:=ad (show fC (fun b=>b∉u) W1 p (.slice ka N kc) from ac.o.stay B.o);have an:=ad (And.intro (aB.1 HP.o).1 bd.o);go_upto_region 2 with fail
 go_loopw [11] (fun V wr=>∃(i:Nat) (n:List Nat) (c:PS) (a:Bs),i≤N∧V=.int .i64 i∧Hid (MX E wr n c (out++a))∧Hid (bC u W1 n wr)∧Hid (DL a (dJ E.env deep base (p.drop i) vs c (out.length+a.length))=R)∧Hid (bq E.inc c (wL (p.drop i)))∧Hid (out.length+a.length≤262144)) (fun V _=>N-(intOf V).toNat)
 case atStart=>exact⟨0,u,S,[],aH _,rfl,af,ad (bC.refl _ _),ao,ay,ad (by have:=a8.o;simpa using this)⟩
 case round=>
  obtain⟨i,n,c,a,hi,rfl,G,A,z,bf,am⟩:=hrel;clear af ao ay;by_cases bn:i<N
  ·have i1:(i:Int)<(N:Int):=by omega
   have i0:(0:Int)≤(i:Int):=by omega
   obtain⟨x,w⟩:∃x,p[i]? =some x:=⟨_,cA (by rw[al.o];exact bn)⟩;have C:=ad (GB (P:=E.env) (deep:=deep) (base:=base) w vs c (out.length+a.length));have aq:=ad (show bq E.inc c (wN x+wL (p.drop (i+1))) by rw[←Js w];exact bf.o);have aU:=a3.o.stay A.o;obtain⟨kb,ko,xa,xc,xk,xd,rfl,bm,a0,s⟩:=aU.get w;have D:=s 0 _ rfl;have Y:=s 1 _ rfl;have Z:=s 2 _ rfl;have x3:=s 3 _ rfl;have x4:=s 4 _ rfl;rw[qF] at D;have hA5:=az wr (.cells (eH x.kind x.place x.text (.slice xa x.attrs.length xc) (.slice xk x.kids.length xd)).toArray 37);have Q:wr.heap[pb]? =_:=(A.o.cO pb an.o.1 an.o.2).2.t HP.o;have a2:=(hA5.block _ (aB.1 Q).1).t Q;have a9:=ad a2;have bl:=ad (au wr (.cells (eH x.kind x.place x.text (.slice xa x.attrs.length xc) (.slice xk x.kids.length xd)).toArray 37));have I:=ad (A.o.t (bC.ai (M:=n) hA5));have bg:=ad (show bq E.inc c (wN x) from aq.o.less (sd _ _));have F:=ad (a5.o x (eQ w) _ n c (out++a) vs _ (G.o.next hA5) (a0.next hA5) bg.o (by have:=am.o;rw[bB];exact this));rw[bB] at F;have aa:=ad (fun e t h=>ab.o.fit x vs c (out.length+a.length) e t am.o h);have ap:=ad (ab.o.room x (a7.o.get (eQ w)) vs c (out.length+a.length) _ aq.o);obtain⟨q,hq⟩:∃q,bT E.env deep base x vs c (out.length+a.length)=q:=⟨_,rfl⟩;rw[hq] at F C ap aa;clear w aU bm a0 s hA5 Q a2 hq G;go_upto_region 4 with fail;generalize wr.alloc (.cells (eH x.kind x.place x.text (.slice xa x.attrs.length xc) (.slice xk x.kids.length xd)).toArray 37)=W5 at*;generalize wr.heap.size=xb at*;clear D Y Z x3 x4;obtain⟨D,Y,Z,x3,x4⟩:=qX5 (aj bl.o) 0 1 2 3 4;obtain⟨p0,p1,p2,p3,p4,p5,p6,p7⟩:=qX8 (aj a9.o) 0 1 2 3 4 5 6 7;go_wp2_with fail;refine F.o.m ?_;rintro en X T;clear D Y Z x3 x4 p0 p1 p2 p3 p4 p5 p6 p7;obtain⟨e,oc⟩:=q;cases oc with
   |yes t=>
    obtain⟨rfl,r,j,k⟩:=T;have a4:Hid (MX E X r e (out++(a++t))):=ad (by rw[←jl];exact j);have bi:=ad (I.o.t k);have be:Hid (DL (a++t) (dJ E.env deep base (p.drop (i+1)) vs e (out.length+(a++t).length))=R):=ad (by rw[←z.o,C.o.1 e t rfl,NY,bB,oh])
    have bk:Hid (bq E.inc e (wL (p.drop (i+1)))):=ad ap.o;have a6:=ad (show out.length+(a++t).length≤262144 by have:=aa.o e t rfl;rw[bB];omega);clear j k;go_wp2_with fail
    go_roundw
    case rel=>exact⟨i+1,r,e,a++t,by omega,by go_num,a4,bi,be,bk,a6⟩
    case measure=>(simp[intOf]<;>omega)
   |no=>
    obtain⟨rfl,r,g,j,k⟩:=T;have y:=ad (show dk E u W out R (.returned (.bool false)) X by rw[←z.o,C.o.2.1 e rfl];exact⟨rfl,r,a++g,by rw[←jl];exact j,B.o.t (I.o.t k)⟩)
    clear j k;go_wp2_with fail;go_ret;exact y.o
   |wait=>
    obtain⟨rfl,r,g,j,k⟩:=T;have y:=ad (show dk E u W out R (.panicked [gA]) X by rw[←z.o,C.o.2.2 e rfl];exact⟨rfl,r,a++g,by rw[←jl];exact j,B.o.t (I.o.t k)⟩)
    clear j k;go_wp2_with fail;exact⟨rfl,y.o⟩
  ·obtain rfl:i=N:=by omega
   have y:=ad (show dk E u W out R (.returned (.bool true)) wr by rw[←z.o,qA (by rw[al.o];exact ag _),dJ];exact⟨rfl,n,by rw[jm];exact G.o,B.o.t A.o⟩)
   go_wp2_with fail;go_ret;exact y.o
