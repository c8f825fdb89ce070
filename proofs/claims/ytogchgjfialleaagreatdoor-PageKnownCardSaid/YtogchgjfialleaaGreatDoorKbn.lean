/- The maker of a page in memory: one of its rows grows. -/
import Derived.Test.YtogchgjfialleaaGreatDoorKbm
import Derived.Test.YtogchgjfialleaaGreatDoorKbl
set_option linter.unusedVariables false
namespace Go.Proofs.YtogchgjfialleaaGreatDoor
open Go.Lib
def GQ(t:Tok):Nat:=t.text.length+4+bV t.attrs
def jd(l:List Tok):Nat:=(l.map GQ).sum
theorem iM:jd []=0:=rfl
theorem gE(t:Tok)(l:List Tok):jd (t::l)=GQ t+jd l:=by simp[jd]
theorem tZ(a b:List Tok):jd (a++b)=jd a+jd b:=by simp[jd]
theorem La(a b:List bQ):bV (a++b)=bV a+bV b:=by simp[bV]
def nH(n:Nat)(l:List bQ):Prop:=∀a∈l,a.val.length≤n
structure ru (n:Nat) (t:Tok):Prop where
 Lb:nH n t.attrs
 sr:t.text.length≤n
theorem Oo{s:Bs}{tag i:Nat}{l:List bQ}{a:bQ}{t:Nat}(h:fU s tag i l=.aq a t):i+a.val.length+3≤t:=by
 unfold fU at h;dsimp only at h
 repeat' split at h
 all_goals first
  |(cases h;done)
  |(cases h;dsimp only;omega)
theorem AH{s:Bs}{tag:Nat}(n:tag≤s.length):∀(f i:Nat) (l:List bQ) {d:List bQ} {j:Nat},i≤s.length→nH s.length l→cE s tag f i l=.aq d j→bV d+2*i≤bV l+2*j∧nH s.length d
 |0,i,l,d,j,_,_,h=>by unfold cE at h;cases h
 |f+1,i,l,d,j,p,m,h=>by
  have y:=jP s p;have q:=cY s i;unfold cE at h;dsimp only at h;split at h
  ·cases h
  ·split at h
   ·cases h;exact⟨by omega,m⟩
   ·split at h
    ·cases h
    ·split at h
     ·cases h
     ·rename_i a t k;have x:=Oo k;have e:=tL (s:=s) (tag:=tag) (i:=pa s i) (l:=l) n q;rw[k] at e;have o:=e.2;obtain⟨r,u⟩:=AH n f t (l++[a]) o (fun b c=>by
       rcases gZ.1 c with c|c
       ·exact m b c
       ·rw[fj.1 c];omega) h
      rw[La,kW] at r;have w:bV ([]:List bQ)=0:=rfl;exact⟨by omega,u⟩
theorem D5(s:Bs)(i j:Nat):(GO s i j).length≤j-i:=by unfold GO;rw[gu];omega
theorem qe(s:Bs)(k:Int)(nm:Bs)(l:List bQ)(i j:Nat):GQ (cS s k nm l i j)≤j-i+4+bV l:=by have:=D5 s i j;show(GO s i j).length+4+bV l≤_;omega
theorem qf{s:Bs}{k:Int}{nm:Bs}{l:List bQ}{i j:Nat}(b:j≤s.length)(a:nH s.length l):ru s.length (cS s k nm l i j):=
 ⟨a,by have:=D5 s i j;show(GO s i j).length≤_;omega⟩
theorem kB(n:Nat):nH n []:=fun a h=>by cases h
theorem D6{s:Bs}{tag:Nat}{nm:Bs}{l:List bQ}{k:Int}{j:Nat}{t:Tok}{m:Nat}(b:nH s.length l)(h:gv s tag nm l k j=.aq t m):GQ t≤m-tag+4+bV l∧ru s.length t∧m=j+1:=by
 unfold gv at h;split at h
 ·cases h
 ·rename_i c r a;split at h
  ·cases h;exact⟨qe _ _ _ _ _ _,qf (by have:=ku a;omega) b,rfl⟩
  ·cases h
theorem Um{s:Bs}{tag:Nat}{nm:Bs}{i:Nat}{t:Tok}{m:Nat}(p:tag≤i)(d:i≤s.length)(h:qw s tag nm i=.aq t m):GQ t+3*tag≤3*m+4∧ru s.length t:=by
 unfold qw at h;split at h
 ·cases h
 ·rename_i l j c;obtain⟨o,b⟩:=AH (by omega) _ _ _ d (kB _) c;have n:bV ([]:List bQ)=0:=rfl;split at h
  ·obtain⟨e,a,k⟩:=D6 b h;exact⟨by omega,a⟩
  ·obtain⟨e,a,k⟩:=D6 b h;exact⟨by omega,a⟩
theorem RL{s nm:Bs}{tag i:Nat}{t:Tok}{m:Nat}(c:tag≤s.length)(b:i≤s.length)(h:iU s nm tag i=.aq t m):GQ t+i≤m+4∧ru s.length t∧i≤m:=by
 have a:=wU (nm:=nm) c b;rw[h] at a;unfold iU at h;dsimp only at h;split at h
 ·cases h
 ·split at h
  ·cases h
  ·cases h;have e:=qe s 7 [] [] i (i+(index (s.drop i) (bD++nm)).toNat);have d:bV ([]:List bQ)=0:=rfl;exact⟨by omega,qf a.2 (kB _),a.1⟩
theorem sD{n:Nat}{t:Tok}(h:ru n t):∀u∈[t],ru n u:=fun u a=>by rw[fj.1 a];exact h
theorem Oq{s:Bs}{tag:Nat}{c:List Tok}{m:Nat}(w:tag+5≤s.length)(h:dB s tag=.aq c m):jd c+8*tag≤8*m∧∀t∈c,ru s.length t:=by
 unfold dB at h;dsimp only at h;split at h
 ·split at h
  ·cases h
  ·rename_i t j l;have n:=iI s w;obtain⟨x,d⟩:=Um (by omega) n l;have a:oH s.length _ (qw s tag _ _):=wT (s:=s) (tag:=tag) (nm:=(s.drop (tag+5)).take (db s (tag+5))) (i:=tag+5+db s (tag+5)) (by omega) n;rw[l] at a;have y:=a.1;have o:=a.2;split at h
   ·split at h
    ·cases h
    ·rename_i r k q;obtain⟨z,p,A⟩:=RL (by omega) o q;cases h;refine⟨by rw[gE,gE,iM];omega,fun u b=> ?_⟩;rcases bL.1 b with e|b
     ·rw[e];exact d
     ·rw[fj.1 b];exact p
   ·cases h;exact⟨by rw[gE,iM];omega,sD d⟩
 ·cases h
theorem Lc{s:Bs}{tag:Nat}{b:List Tok}{m:Nat}(d:tag+6≤s.length)(h:de s tag=.aq b m):jd b+8*tag≤8*m∧∀t∈b,ru s.length t:=by
 have a:=wV d;rw[h] at a;unfold de at h;dsimp only at h;split at h
 ·split at h
  ·cases h
  ·rename_i c r k;split at h
   ·cases h;have i:=qe s 4 ((s.drop (tag+6)).take (db s (tag+6))) [] tag (pa s (tag+6+db s (tag+6))+1);have e:bV ([]:List bQ)=0:=rfl;have j:=a.1;exact⟨by rw[gE,iM];omega,sD (qf a.2 (kB _))⟩
   ·cases h
 ·cases h
theorem Ot{s:Bs}{i:Nat}{hid:Option Nat}{x:List Tok×Option Nat}{m:Nat}(d:i<s.length)(p:dw (s.drop i) hid.isSome≠0)(h:fq s (dw (s.drop i) hid.isSome) i hid=.aq x m):jd x.1+8*i≤8*m∧∀t∈x.1,ru s.length t:=by
 obtain⟨e,k,n,o,y⟩:=pS (hid:=hid.isSome) d;have q:bV ([]:List bQ)=0:=rfl;unfold fq at h;split at h
 ·rename_i a;split at h
  ·cases h
  ·rename_i l j b;cases h;exact Oq (e a) b
 ·split at h
  ·rename_i a;split at h
   ·cases h
   ·rename_i l j b;cases h;exact Lc (k a) b
  ·split at h
   ·rename_i a;split at h
    ·cases h
    ·cases h;have c:=qe s 5 [] [] i (i+8);exact⟨by show jd [cS s 5 [] [] i (i+8)]+_≤_;rw[gE,iM];omega,sD (qf (n a) (kB _))⟩
   ·rename_i r u w;cases h;have c:=qe s 6 [] [] i (i+3);exact⟨by show jd [cS s 6 [] [] i (i+3)]+_≤_;rw[gE,iM];omega,sD (qf (o (by omega)) (kB _))⟩
theorem Ou{s:Bs}{src i:Nat}(d:src≤i)(a:i≤s.length):jd (dc s src i)+8*src≤8*i∧∀t∈dc s src i,ru s.length t:=by
 unfold dc;split
 ·have c:=qe s 1 [] [] src i;have e:bV ([]:List bQ)=0:=rfl;exact⟨by rw[gE,iM];omega,sD (qf a (kB _))⟩
 ·exact⟨by rw[iM];omega,fun u b=>by simp at b⟩
theorem B7(s:Bs):∀(f src i:Nat) (hid:Option Nat) (l:List Tok) {b:List Tok} {m:Nat},src≤i→i≤s.length→(∀t∈l,ru s.length t)→gS s f src i hid l=.aq b m→jd b+8*src≤jd l+8*s.length∧∀t∈b,ru s.length t
 |0,src,i,hid,l,b,m,_,_,_,h=>by unfold gS at h;cases h
 |f+1,src,i,hid,l,b,m,r,q,c,h=>by
  unfold gS at h;dsimp only at h;obtain⟨z,n⟩:=Ou (s:=s) r q;split at h
  ·rename_i d;split at h
   ·exact B7 s f src (i+1) hid l (by omega) d c h
   ·rename_i e;split at h
    ·cases h
    ·rename_i x j o;obtain⟨y,p⟩:=Ot d e o;have k:=mH d e;rw[o] at k;obtain⟨u,w⟩:=B7 s f j j x.2 (l++dc s src i++x.1) (ag _) k.2 (fun t a=>by
      rcases gZ.1 a with a|a
      ·rcases gZ.1 a with a|a
       ·exact c t a
       ·exact n t a
      ·exact p t a) h
     rw[tZ,tZ] at u;exact⟨by omega,w⟩
  ·split at h
   ·cases h
   ·cases h;rw[tZ];refine⟨by omega,fun t a=> ?_⟩;rcases gZ.1 a with a|a
    ·exact c t a
    ·exact n t a
theorem VA{s:Bs}{a:List Tok}{m:Nat}(h:lexB s=.aq a m):jd a≤8*s.length∧∀t∈a,ru s.length t:=by have:=B7 s _ _ _ _ _ (ag _) (aH _) (fun t h=>by cases h) h;rw[iM] at this;exact⟨by omega,this.2⟩
mutual
def QN:Nd→Prop
 |.mk k _ t a l=>t.length≤65536∧nH 65536 a∧(k=7→2≤l.length)∧QL l
def QL:List Nd→Prop
 |[]=>True
 |x::r=>QN x∧QL r
end
structure QO (n:Nd):Prop where
 sr:n.text.length≤65536
 Lb:nH 65536 n.attrs
 two:n.kind=7→fo n=9→2≤n.kids.length
 kids:QL n.kids
def oU:Nd→List Nd→Prop
 |n,[]=>n.kind=1
 |n,y::r=>oy y n.kind=true∧QO y∧oU y r
structure Ov (x:rf):Prop where
 top:QO x.top
 chain:oU x.top x.below
def RM(x:rf):Nat:=wN x.top+wL x.below
theorem Ow:∀a b:List Nd,wL (a++b)=wL a+wL b
 |[],b=>by rw[kK,wL,dH]
 |x::r,b=>by rw[di,wL,wL,Ow r b,oh]
theorem Ox:∀{a:List Nd} {n:Nd},QL a→QN n→QL (a++[n])
 |[],n,_,b=>by rw[kK,QL,QL];exact⟨b,trivial⟩
 |x::r,n,h,b=>by rw[QL] at h;rw[di,QL];exact⟨h.1,Ox h.2 b⟩
theorem D7(n:Nd):wN n=n.text.length+3+bV n.attrs+wL n.kids:=by cases n;rw[wN];rfl
theorem GR(n k:Nd):wN (fV n k)=wN n+wN k:=by rw[D7 (fV n k),D7 n];show n.text.length+3+bV n.attrs+wL (n.kids++[k])=_;rw[Ow,wL,wL];omega
theorem Un(n:Nd)(t:Bs):wN (vN n t)≤wN n+t.length:=by rw[D7 (vN n t),D7 n];show t.length+3+bV n.attrs+wL n.kids≤_;omega
theorem Ld{n:Nd}(h:n.kids=[]):fo n=0:=by unfold fo;rw[h];rfl
theorem Le(n k:Nd):fo (fV n k)=k.kind:=by unfold fo;show(match(n.kids++[k]).getLast? with|none=>0|some x=>x.kind)=_;rw[List.getLast?_append];rfl
theorem GS{y n:Nd}(e:QO y)(l:QN n)(k:y.kind=7→oy y n.kind=true):QO (fV y n):=by
 refine⟨e.sr,e.Lb,fun c i=> ?_,Ox e.kids l⟩;have c:y.kind=7:=c;rw[Le] at i;have d:=k c;unfold oy at d;rw[ah c,i] at d;have b:=dv d;have h:fo y=8:=by
  rcases b with b|b
  ·exact absurd b.1 (by decide)
  ·exact b.2
 show 2≤(y.kids++[n]).length;rw[bB,mF];cases j:y.kids with
 |nil=>rw[Ld j] at h;exact absurd h (by decide)
 |cons a r=>rw[bF];omega
theorem nI{a b:Nd}(h:a.kind=b.kind):∀{l:List Nd},oU a l→oU b l
 |[],c=>by show b.kind=1;rw[←h];exact c
 |y::r,c=>by obtain⟨d,e⟩:=c;exact⟨by rw[←h];exact d,e⟩
theorem sE{e:Option (Nat×Int)}{x y:rf}(h:px e x=.aq y):e=none∧y=x:=by
 cases e with
 |none=>injection h with h;exact⟨rfl,h.symm⟩
 |some p=>cases h
theorem ue{a b:Option (Nat×Int)}(h:mD a b=none):a=none∧b=none:=by
 cases a with
 |none=>exact⟨rfl,h⟩
 |some x=>cases h
theorem Uo{n:Nat}(G:n≤65536){x y:rf}{t:Tok}(w:ru n t)(c:Ov x)(h:lM x t=.aq y):Ov y∧RM y≤RM x+GQ t:=by
 have M:=w.sr;have z:nH 65536 t.attrs:=fun a D=>bP (w.Lb a D) G;unfold lM at h;split at h
 ·unfold Dv at h;split at h
  ·rename_i F;injection h with h;subst h;refine⟨⟨GS c.top (by rw[QN];exact⟨by omega,kB _,fun h=>absurd h (by decide),by rw[QL];trivial⟩) (fun h=>absurd h F.1),show oU (fV x.top (.mk 2 t.src t.text [] [])) x.below from nI (a:=x.top) (b:=(fV x.top (.mk 2 t.src t.text [] []))) rfl c.chain⟩, ?_⟩;show wN (fV x.top (.mk 2 t.src t.text [] []))+wL x.below≤wN x.top+wL x.below+(t.text.length+4+bV t.attrs);rw[GR,wN,wL];have B:bV ([]:List bQ)=0:=rfl;omega
  ·split at h
   ·injection h with h;subst h;exact⟨c,sd _ _⟩
   ·cases h
 split at h
 ·injection h with h;subst h;refine⟨⟨⟨by show t.text.length≤_;omega,c.top.Lb,c.top.two,c.top.kids⟩,show oU (vN x.top t.text) x.below from nI (a:=x.top) (b:=(vN x.top t.text)) rfl c.chain⟩, ?_⟩;have:=Un x.top t.text;show wN (vN x.top t.text)+wL x.below≤wN x.top+wL x.below+(t.text.length+4+bV t.attrs);omega
 split at h
 ·unfold BL at h;dsimp only at h;obtain⟨d,e⟩:=sE h;obtain⟨d,C⟩:=ue d;obtain⟨d,L⟩:=ue d;have i:oy x.top (kindOf t.name)=true:=by
   cases hq:oy x.top (kindOf t.name) with
   |true=>rfl
   |false=>rw[hq] at d;simp at d
  have A:wN (.mk (kindOf t.name) t.src [] t.attrs [])=3+bV t.attrs:=by rw[wN,wL];simp
  by_cases s:kindOf t.name=3∨kindOf t.name=6
  ·rw[bN s,ah rfl] at e;subst e;refine⟨⟨GS c.top (by rw[QN];exact⟨aH _,z,fun h=>by omega,by rw[QL];trivial⟩) (fun _=>i),show oU (fV x.top (.mk (kindOf t.name) t.src [] t.attrs [])) x.below from nI (a:=x.top) (b:=(fV x.top (.mk (kindOf t.name) t.src [] t.attrs []))) rfl c.chain⟩, ?_⟩;show wN (fV x.top _)+wL x.below≤wN x.top+wL x.below+(t.text.length+4+bV t.attrs);rw[GR,A];omega
  ·rw[cL s,ae (by decide)] at e;subst e;refine⟨⟨⟨aH _,z,fun _ o=>absurd (show(0:Int)=9 from o) (by decide),by show QL [];rw[QL];trivial⟩,⟨i,c.top,c.chain⟩⟩, ?_⟩;show wN (.mk (kindOf t.name) t.src [] t.attrs [])+wL (x.top::x.below)≤wN x.top+wL x.below+(t.text.length+4+bV t.attrs);rw[A,wL];omega
 split at h
 ·unfold Jo at h;dsimp only at h;obtain⟨d,e⟩:=sE h;obtain⟨d,C⟩:=ue d;have i:oy x.top 14=true:=by
   cases hq:oy x.top 14 with
   |true=>rfl
   |false=>rw[hq] at d;simp at d
  subst e;refine⟨⟨⟨aH _,kB _,fun h=>absurd h (by show¬(14:Int)=7;decide),by show QL [];rw[QL];trivial⟩,⟨i,c.top,c.chain⟩⟩, ?_⟩;show wN (.mk 14 t.src [] [] [])+wL (x.top::x.below)≤wN x.top+wL x.below+(t.text.length+4+bV t.attrs);rw[wN,wL,wL];have B:bV ([]:List bQ)=0:=rfl;have d:([]:Bs).length=0:=rfl;omega
 ·unfold Q9 at h;generalize(if t.kind=4 then kindOf t.name else 14)=J at h;dsimp only at h;split at h
  ·cases h
  ·rename_i E;obtain⟨j,below⟩:=x;cases below with
   |nil=>cases h
   |cons m r=>
    injection h with h;subst h;obtain⟨i,I,H⟩:=c.chain;have hq:QN j:=by
     have:=c.top;obtain⟨k,p,K,a,l⟩:=j;rw[QN];refine⟨this.sr,this.Lb,fun q=>this.two q ?_,this.kids⟩;subst q;by_cases o:fo (.mk 7 p K a l)=9
     ·exact o
     ·refine absurd ?_ E;by_cases u:(7:Int)=J
      ·exact .inr (.inl ⟨u.symm,o⟩)
      ·exact .inl u
    refine⟨⟨GS I hq (fun _=>i),show oU (fV m j) r from nI (a:=m) (b:=(fV m j)) rfl H⟩, ?_⟩;show wN (fV m j)+wL r≤wN j+wL (m::r)+(t.text.length+4+bV t.attrs);rw[GR,wL];omega
theorem JE{n:Nat}(c:n≤65536):∀{l:List Tok} {x y:rf},(∀t∈l,ru n t)→Ov x→fX x l=.aq y→Ov y∧RM y≤RM x+jd l
 |[],x,y,_,a,h=>by unfold fX at h;injection h with h;subst h;exact⟨a,sd _ _⟩
 |t::r,x,y,b,a,h=>by
  unfold fX at h;split at h
  ·cases h
  ·rename_i z j;obtain⟨d,k⟩:=Uo c (b t (by simp)) a j;obtain⟨e,m⟩:=JE c (fun u i=>b u (by simp[i])) d h;rw[gE];exact⟨e,by omega⟩
theorem AI:∀a:List bQ,a.length≤bV a
 |[]=>aH _
 |x::r=>by have:=AI r;rw[kW,bF];omega
theorem Oy:∀l:List Nd,l.length≤wL l
 |[]=>aH _
 |x::r=>by have:=Oy r;have:=D7 x;rw[wL,bF];omega
theorem Oz:∀{l:List Nd} {x:Nd},x∈l→wN x≤wL l
 |y::r,x,h=>by
  rw[wL];rcases bL.1 h with rfl|h
  ·omega
  ·have:=Oz h;omega
theorem OA:∀{l:List Nd} {x:Nd},QL l→x∈l→QN x
 |y::r,x,h,a=>by
  rw[QL] at h;rcases bL.1 a with rfl|a
  ·exact h.1
  ·exact OA h.2 a
theorem VB(n:Nd):QN n→wN n≤1000000→sy n:=by refine Nd.ind (P:=fun n=>QN n→wN n≤1000000→sy n) (fun k p t a l j hq i=> ?_) n;rw[QN] at hq;rw[wN] at i;obtain⟨c,d,e,h⟩:=hq;have:=AI a;have:=Oy l;rw[sy];exact⟨c,by omega,d,by omega,e,JA fun x b=>j x b (OA h b) (by have:=Oz b;omega)⟩
theorem sA{s:Bs}(h:(gW s).2.2=0):sy (gW s).1∧wN (gW s).1≤600000:=by
 unfold gW at h⊢;split at h
 ·exact absurd h (by decide)
 rename_i w;rw[ae w];cases c:lexB s with
 |bad p e=>rw[c] at h;have:=C4 s;rw[c] at this;have h:e=0:=h;have:=this.2;omega
 |aq l m=>
  rw[c] at h;dsimp only at h⊢;obtain⟨o,q⟩:=VA c;cases d:fX ⟨lN,[]⟩ l with
  |bad p e=>rw[d] at h;exact⟨by
   dsimp only;unfold ny;rw[sy];exact⟨aH _,aH _,fun x c=>by(cases c),aH _,fun h=>absurd h (by decide),by rw[DN];trivial⟩,by
   dsimp only;unfold ny;rw[wN,wL];decide⟩
  |aq x=>
   rw[d] at h;dsimp only at h⊢;have u:Ov ⟨lN,[]⟩:=⟨⟨aH _,kB _,fun h=>absurd h (by decide),by show QL [];rw[QL];trivial⟩,rfl⟩;obtain⟨j,A⟩:=JE (by omega) q u d;obtain⟨b,below⟩:=x;cases below with
   |cons y r=>exact absurd (show(14:Int)=0 from h) (by decide)
   |nil=>
    show sy b∧wN b≤600000;have i:b.kind=1:=j.chain;have z:wN b≤600000:=by have n:wN b+wL []≤wN lN+wL []+jd l:=A;unfold lN at n;rw[wN,wL] at n;have B:bV ([]:List bQ)=0:=rfl;have o:([]:Bs).length=0:=rfl;omega
    refine⟨VB b ?_ (by omega),z⟩;have:=j.top;obtain⟨k,p,t,a,l⟩:=b;rw[QN];exact⟨this.sr,this.Lb,fun C=>by have i:k=1:=i;omega,this.kids⟩
theorem wg{k:Int}{t:Bs}{u:bc}(a:t.length≤100000)(b:u.name.length≤100000)(c:u.key.length≤100000)(d:u.cK.length≤100000):tE (.mk k t u []):=by unfold tE;exact⟨a,b,c,d,by unfold QR;trivial⟩
theorem ok_one{k:Int}{x:Ex}(h:tE x):tE (ry k x):=by unfold ry tE;exact⟨aH _,aH _,aH _,aH _,by unfold QR;exact⟨h,by unfold QR;trivial⟩⟩
theorem ok_two{k:Int}{x y:Ex}(h:tE x)(a:tE y):tE (oA k x y):=by unfold oA tE;exact⟨aH _,aH _,aH _,aH _,by unfold QR;exact⟨h,by unfold QR;exact⟨a,by unfold QR;trivial⟩⟩⟩
def D8:cG→Prop
 |.aq x _=>tE x
 |.ay _ _=>True
def xD(f:Nat→cG):Prop:=∀i,D8 (f i)
def OB(f:Option (Nat→cG)):Prop:=∀g,f=some g→xD g
theorem VC(s:Bs)(i:Nat):(rs s i).length≤s.length:=by unfold rs;have:=cB mE (s.drop i);rw[bK] at this;omega
theorem OC{s:Bs}(w:s.length≤100000){d:Option (Nat→cG)}(l:OB d):xD (qL d s):=by
 intro i;have m:=VC s i;unfold qL;cases o:rs s i with
 |nil=>trivial
 |cons c r=>
  rw[o,bF] at m;show D8 (bif c==40 then _ else _);cases c==40
  ·rw[cI];cases c==39
   ·rw[cI];cases kH c
    ·rw[cI];unfold zz;cases n:df (c::r) with
     |none=>trivial
     |some p=>obtain⟨_,_,_,h⟩:=gF n;have j:=(xE h).len;rw[bK,bF] at j;exact wg (k:=12) (t:=[]) (aH _) (by show p.name.length≤_;omega) (by show p.key.length≤_;omega) (by show p.cK.length≤_;omega)
    ·rw[aS];unfold D9;cases b:decide (((c::r).takeWhile kH).length≤18)
     ·trivial
     ·exact wg (k:=11) (u:=aC) (by have:=dv b;omega) (aH _) (aH _) (aH _)
   ·rw[aS];unfold Tw;cases hq:r.contains 39
    ·trivial
    ·exact wg (k:=10) (u:=aC) (by have:=vV hq;omega) (aH _) (aH _) (aH _)
  ·rw[aS];unfold Tx;cases d with
   |none=>trivial
   |some f=>
    have a:=l f rfl (pa s i+1);show D8 (match f (pa s i+1) with|.ay p e=>.ay p e|.aq x t=>bif hasPrefix (rs s t) [41] then .aq x (pa s t+1) else .ay (pa s t) 15);cases q:f (pa s i+1) with
    |ay p e=>trivial
    |aq x t=>
     rw[q] at a;show D8 (bif hasPrefix (rs s t) [41] then .aq x (pa s t+1) else .ay (pa s t) 15);cases hasPrefix (rs s t) [41]
     ·trivial
     ·exact a
theorem RN{s:Bs}(h:s.length≤100000){d:Option (Nat→cG)}(c:OB d):xD (zA d s):=by
 intro i;have a:=OC h c i;unfold zA;cases l:qL d s i with
 |ay p e=>trivial
 |aq x t=>
  rw[l] at a;show D8 (ou d s x t);unfold ou;cases oV (rs s t) with
  |none=>exact a
  |some kn=>
   obtain⟨k,n⟩:=kn;have b:=OC h c (pa s t+n);show D8 (match qL d s (pa s t+n) with|.ay p e=>.ay p e|.aq y j=>.aq (oA (4+k) x y) j);cases m:qL d s (pa s t+n) with
   |ay p e=>trivial
   |aq y j=>rw[m] at b;exact ok_two (k:=4+k) a b
theorem JF{s:Bs}(d:s.length≤100000){d1 d2:Option (Nat→cG)}(b:OB d1)(c:OB d2):xD (uf d1 d2 s):=by
 intro i;unfold uf;cases hasPrefix (rs s i) [33]
 ·exact RN d b i
 ·rw[aS];cases d2 with
  |none=>trivial
  |some f=>
   have a:=c f rfl (pa s i+1);show D8 (match f (pa s i+1) with|.ay p e=>.ay p e|.aq x t=>.aq (ry 3 x) t);cases h:f (pa s i+1) with
   |ay p e=>trivial
   |aq x t=>rw[h] at a;exact ok_one (k:=3) a
theorem AJ{s:Bs}{one:Nat→cG}(h:xD one)(kind:Int)(b:UInt8):∀(n:Nat) (x:Ex) (t:Nat),tE x→D8 (kp one kind b s n x t)
 |0,_,_,a=>a
 |n+1,x,t,a=>by
  unfold kp;cases hasPrefix (rs s t) [b]
  ·exact a
  ·have c:=h (pa s t+1);rw[aS];cases d:one (pa s t+1) with
   |ay p e=>trivial
   |aq y i=>rw[d] at c;exact AJ h kind b n _ i (ok_two a c)
theorem wh{s:Bs}{one:Nat→cG}(h:xD one)(kind:Int)(b:UInt8):xD (rz one kind b s):=by
 intro i;have a:=h i;unfold rz;cases c:one i with
 |ay p e=>trivial
 |aq x t=>rw[c] at a;exact AJ h kind b _ x t a
theorem JG(s:Bs)(b:s.length≤100000):∀k,xD (vh s k)∧xD (je s k)
 |0=>by
  have c:OB none:=fun g h=>by cases h
  have a:xD (je s 0):=JF b c c;exact⟨wh (wh a 2 38) 1 124,a⟩
 |k+1=>by obtain⟨d,i⟩:=JG s b k;have a:xD (je s (k+1)):=JF b (d1:=some (vh s k)) (d2:=some (je s k)) (fun g e=>by cases e;exact d) (fun g e=>by cases e;exact i);exact⟨wh (wh a 2 38) 1 124,a⟩
theorem K1(s:Bs)(d:s.length≤100000):tE (ew s).1:=by
 have h:=(JG s d 16).1 0;have b:tE sF:=wg (aH _) (aH _) (aH _) (aH _);rcases Ea s with⟨q,e,c,a⟩|⟨x,t,c,a|a⟩
 ·rw[a];exact b
 ·rw[c] at h;rw[a];exact h
 ·rw[a];exact b
theorem we(P:fx):∀d,Rv P (rl P d)∧Ul (rl P d)
 |0=>⟨fun f h=>(by cases h),fun f h=>(by cases h)⟩
 |d+1=>by
  obtain⟨a,c⟩:=we P d;refine⟨fun f h u b e=> ?_,fun f h u n=> ?_⟩
  ·injection h with h;subst h;obtain⟨i,j⟩:=sA e;exact((JB a u _ i).1 false).mono (by unfold ie;omega)
  ·injection h with h;subst h;exact(vg (AG P u c) n).1 false
theorem Uh(P:fx)(d:Nat)(base:U):DM P (rl P d) base:=On (we P d).1 (we P d).2 base
end Go.Proofs.YtogchgjfialleaaGreatDoor
namespace Go.Proofs.YtogchgjfialleaaGreatDoor
open Go.RowKit
structure ME where
 w0:World
 mb:Nat
 im:Nat
 h:Bs
 t:Bs
 fs:List dQ
 fa:Option Addr
 fn:Nat
 fc:Nat
 inc:Nat
 dep:Nat
 ga:Option Addr
 gc:Nat
 fZ:List j5
def ME.env(E:ME):fx:=⟨E.h,E.t,E.fs,E.inc,E.fZ⟩
def qz(u:U):List Value:=[.string ⟨u.scheme.toArray⟩,.string ⟨u.host.toArray⟩,.int .i64 u.port,.string ⟨u.path.toArray⟩,.string ⟨u.query.toArray⟩,.bool u.hq]
def nB:List U→List Value
 |[]=>[]
 |u::r=>qz u++nB r
abbrev Gw(E:ME)(S:PS)(av rv ov:Value):List Value:=[.string ⟨#[]⟩,.bool false,.bool false,av,.int .i64 S.aU,.int .i64 S.work,rv,ov,.string ⟨E.h.toArray⟩,.string ⟨E.t.toArray⟩,.slice E.fa E.fn E.fc,.int .i64 E.inc,.int .i64 E.dep,.slice E.ga E.fZ.length E.gc,.map (some E.im)]
def MB(E:ME)(av rv ov:Value):List Nat:=E.mb::E.im::bM [av,rv,ov]
structure MK (E:ME) (W:World) (S:PS) (out:Bs) (av rv ov:Value):Prop where
 up:Below E.w0.heap.size E.w0 W
 box:W.heap[E.mb]? =some (.cells (Gw E S av rv ov).toArray 65)
 asked:W.ownsRow E.w0.heap.size 34 6 av S.asked.length (nB S.asked)
 reads:W.ownsRow E.w0.heap.size 9 1 rv S.reads.length (cM S.reads)
 lE:W.ownsRow E.w0.heap.size 5 1 ov out.length (da out)
 inl:∃l,gg W E.im l∧∀k,assoc l k=(fb S.inl k).map fun t=>.agg #[.string ⟨t.toArray⟩]
 vW:(MB E av rv ov).Nodup
 far:E.w0.heap.size≤E.mb∧E.w0.heap.size≤E.im
structure bC (M:List Nat) (W:World) (M':List Nat) (W':World):Prop where
 size:W.heap.size≤W'.heap.size
 cO:∀b,b<W.heap.size→b∉M→b∉M'∧W'.heap[b]? =W.heap[b]?
theorem bC.refl(M:List Nat)(W:World):bC M W M W:=⟨ag _,fun b _ h=>⟨h,rfl⟩⟩
theorem bC.trans{M c d:List Nat}{W e h:World}(a:bC M W c e)(i:bC c e d h):bC M W d h:=
 ⟨bP a.size i.size,fun b j k=>by obtain⟨l,m⟩:=a.cO b j k;obtain⟨n,o⟩:=i.cO b (ej j a.size) l;exact⟨n,o.trans m⟩⟩
theorem bC.ai{M:List Nat}{W W':World}(h:Below W.heap.size W W'):bC M W M W':=⟨h.size,fun b a c=>⟨c,h.block b a⟩⟩
def MX(E:ME)(W:World)(M:List Nat)(S:PS)(out:Bs):Prop:=∃av rv ov,MK E W S out av rv ov∧M=MB E av rv ov
theorem bw{W W':World}{base:Nat}{T:TypeId}{size n:Nat}{v:Value}{xs:List Value}(h:W.ownsRow base T size v n xs)(i:∀g,v.ownBlock=some g→W'.heap[g]? =W.heap[g]?):W'.ownsRow base T size v n xs:=by
 refine⟨h.1, ?_⟩;rcases h.2 with a|⟨g,cap,c,b,a,d,e⟩
 ·exact .inl a
 ·exact .inr ⟨g,cap,c,b,a,(i g (by rw[b];rfl)).trans d,e⟩
theorem ri{W W':World}{b:Nat}{l:List (Bs×Value)}(h:gg W b l)(e:W'.heap[b]? =W.heap[b]?):gg W' b l:=by obtain⟨es,c,a,d⟩:=h;exact⟨es,c,e.trans a,d⟩
section
variable{E:ME}{W W':World}{S:PS}{out:Bs}{av rv ov:Value}
theorem MK.lt(H:MK E W S out av rv ov):E.mb<W.heap.size:=(aB.1 H.box).1
theorem MK.WB(H:MK E W S out av rv ov):E.im<W.heap.size:=by obtain⟨l,h,_⟩:=H.inl;exact h.lt
theorem vP{a b c:Value}{g:Nat}:g∈bM [a,b,c]↔a.ownBlock=some g∨b.ownBlock=some g∨c.ownBlock=some g:=by rw[cQ];simp
theorem MK.mlt(H:MK E W S out av rv ov):∀b∈MB E av rv ov,E.w0.heap.size≤b∧b<W.heap.size:=fun b a=>by
 rcases bL.1 a with rfl|a
 ·exact⟨H.far.1,H.lt⟩
 rcases bL.1 a with rfl|a
 ·exact⟨H.far.2,H.WB⟩
 rcases vP.1 a with h|h|h
 ·exact H.asked.lt b h
 ·exact H.reads.lt b h
 ·exact H.lE.lt b h
theorem MK.apart(H:MK E W S out av rv ov):E.mb≠E.im∧(∀g,g∈bM [av,rv,ov]→g≠E.mb∧g≠E.im)∧(bM [av,rv,ov]).Nodup:=by have a:=lI.1 H.vW;have b:=lI.1 a.2;exact⟨fun e=>a.1 (by rw[e];exact eF),fun g c=>⟨fun e=>a.1 (by rw[←e];exact bY _ c),fun e=>b.1 (by rw[←e];exact c)⟩,b.2⟩
theorem MK.next(H:MK E W S out av rv ov)(a:Below W.heap.size W W'):MK E W' S out av rv ov:=by refine⟨H.up.trans (a.mono H.up.size),(a.block _ H.lt).trans H.box,cp H.asked a,cp H.reads a,cp H.lE a, ?_,H.vW,H.far⟩;obtain⟨l,b,c⟩:=H.inl;exact⟨l,b.next a,c⟩
theorem MK.aN(H:MK E W S out av rv ov)(k:ak E.mb W W'){d:PS}(o:W'.heap[E.mb]? =some (.cells (Gw E d av rv ov).toArray 65))(n:d.asked=S.asked)(q:d.reads=S.reads)(p:d.inl=S.inl):
 MK E W' d out av rv ov∧bC (MB E av rv ov) W (MB E av rv ov) W':=by
 obtain⟨n1,n2,r⟩:=H.apart;have j:∀b,b<W.heap.size→b≠E.mb→W'.heap[b]? =W.heap[b]? :=fun b c a=>k.block b c (by intro e;injection e with e;exact a e);have i:∀v g,v.ownBlock=some g→v∈[av,rv,ov]→W'.heap[g]? =W.heap[g]? :=fun v g c a=>by have m:g∈bM [av,rv,ov]:=cQ.2 ⟨v,a,c⟩;exact j g (H.mlt g (bY _ (bY _ m))).2 (n2 g m).1
 refine⟨⟨H.up.trans (k.below H.far.1 H.up.size),o, ?_, ?_,bw H.lE fun g h=>i ov g h (by simp), ?_,H.vW,H.far⟩,⟨k.size,fun b c a=>⟨a,j b c fun e=>a (by rw[e];exact eF)⟩⟩⟩
 ·rw[n];exact bw H.asked fun g h=>i av g h (by simp)
 ·rw[q];exact bw H.reads fun g h=>i rv g h (by simp)
 ·obtain⟨l,c,a⟩:=H.inl;exact⟨l,ri c (j _ H.WB (eo n1)),by rw[p];exact a⟩
theorem MK.step(H:MK E W S out av rv ov):MK E (W.setCell ⟨E.mb,5,none⟩ (.int .i64 ((S.work+1:Nat):Int))) S.step out av rv ov∧bC (MB E av rv ov) W (MB E av rv ov) (W.setCell ⟨E.mb,5,none⟩ (.int .i64 ((S.work+1:Nat):Int))):=
 H.aN ((ak.refl _ _).set) (aw (j:=5) H.box) rfl rfl rfl
theorem MK.more(H:MK E W S out av rv ov):MK E (W.setCell ⟨E.mb,4,none⟩ (.int .i64 ((S.aU+1:Nat):Int))) {S with aU:=S.aU+1} out av rv ov∧bC (MB E av rv ov) W (MB E av rv ov) (W.setCell ⟨E.mb,4,none⟩ (.int .i64 ((S.aU+1:Nat):Int))):=
 H.aN ((ak.refl _ _).set) (aw (j:=4) H.box) rfl rfl rfl
end
theorem fF{E:ME}{a b c:Value}:(MB E a b c).Nodup↔E.mb≠E.im∧(∀g,(g=E.mb∨g=E.im)→a.ownBlock≠some g∧b.ownBlock≠some g∧c.ownBlock≠some g)∧(∀g,a.ownBlock=some g→b.ownBlock≠some g∧c.ownBlock≠some g)∧(∀g,b.ownBlock=some g→c.ownBlock≠some g):=by
 have p:(bM [a,b,c]).Nodup↔(∀g,a.ownBlock=some g→b.ownBlock≠some g∧c.ownBlock≠some g)∧(∀g,b.ownBlock=some g→c.ownBlock≠some g):=by unfold bM;cases q:a.ownBlock<;>cases r:b.ownBlock<;>cases s:c.ownBlock<;>simp[q,r,s]<;>omega
 unfold MB;rw[lI,lI,p];constructor
 ·rintro⟨h,o,i⟩;have j:E.mb≠E.im:=fun e=>h (by rw[e];exact eF);refine⟨j,fun g t=> ?_,i⟩;have k:g∉bM [a,b,c]:=by
   rcases t with rfl|rfl
   ·exact fun d=>h (bY _ d)
   ·exact o
  exact⟨fun e=>k (vP.2 (.inl e)),fun e=>k (vP.2 (.inr (.inl e))),fun e=>k (vP.2 (.inr (.inr e)))⟩
 ·rintro⟨j,h,i⟩;refine⟨fun d=> ?_,fun d=> ?_,i⟩
  ·rcases bL.1 d with e|d
   ·exact j e
   ·obtain⟨l,m,n⟩:=h E.mb (.inl rfl);rcases vP.1 d with e|e|e
    ·exact l e
    ·exact m e
    ·exact n e
  ·obtain⟨l,m,n⟩:=h E.im (.inr rfl);rcases vP.1 d with e|e|e
   ·exact l e
   ·exact m e
   ·exact n e
section
variable{E:ME}{W W':World}{S:PS}{out:Bs}{av rv ov:Value}
theorem MK.swap(H:MK E W S out av rv ov){n:World}{v v' s y u:Value}{m:PS}{F:Bs}(R:Below E.w0.heap.size E.w0 n)(O:W.heap.size≤n.heap.size)
 (o:∀b,b<W.heap.size→b≠E.mb→some b≠v.ownBlock→n.heap[b]? =W.heap[b]?)(K:n.heap[E.mb]? =some (.cells (Gw E m s y u).toArray 65))(hi:m.inl=S.inl)
 (M:v'.ownBlock=v.ownBlock∨∃g,v'.ownBlock=some g∧W.heap.size≤g)
 (hc:(v=av∧s=v'∧y=rv∧u=ov∧m.reads=S.reads∧F=out∧n.ownsRow E.w0.heap.size 34 6 v' m.asked.length (nB m.asked))∨
  (v=rv∧s=av∧y=v'∧u=ov∧m.asked=S.asked∧F=out∧n.ownsRow E.w0.heap.size 9 1 v' m.reads.length (cM m.reads))∨
  (v=ov∧s=av∧y=rv∧u=v'∧m.asked=S.asked∧m.reads=S.reads∧n.ownsRow E.w0.heap.size 5 1 v' F.length (da F))):
 MK E n m F s y u∧bC (MB E av rv ov) W (MB E s y u) n:=by
 obtain⟨n1,n2,r,D⟩:=fF.1 H.vW;have ac:=H.mlt;have G:∀g,av.ownBlock=some g→g<W.heap.size:=fun g h=>(H.asked.lt g h).2;have J:∀g,rv.ownBlock=some g→g<W.heap.size:=fun g h=>(H.reads.lt g h).2;have I:∀g,ov.ownBlock=some g→g<W.heap.size:=fun g h=>(H.lE.lt g h).2;have af:=H.lt;have aa:=H.WB;have L:some E.im≠v.ownBlock→∃l,gg n E.im l∧∀k,assoc l k=(fb m.inl k).map fun t=>.agg #[.string ⟨t.toArray⟩]:=fun ab=>by obtain⟨l,i,z⟩:=H.inl;exact⟨l,ri i (o _ aa (eo n1) ab),by rw[hi];exact z⟩
 obtain⟨V,X,Y⟩:=n2 E.mb (.inl rfl);obtain⟨i1,i2,i3⟩:=n2 E.im (.inr rfl);have p:∀g,g<W.heap.size→v.ownBlock≠some g→v'.ownBlock≠some g:=fun g a h e=>by
  rcases M with q|⟨g',q,T⟩
  ·exact h (q.symm.trans e)
  ·rw[q] at e;injection e with e;omega
 have Q:∀b,b<W.heap.size→b∉MB E av rv ov→b≠E.mb∧b≠E.im∧av.ownBlock≠some b∧rv.ownBlock≠some b∧ov.ownBlock≠some b:=fun b _ h=>
  ⟨fun e=>h (by rw[e];exact eF),fun e=>h (by rw[e];exact bY _ eF),fun e=>h (bY _ (bY _ (vP.2 (.inl e)))),
   fun e=>h (bY _ (bY _ (vP.2 (.inr (.inl e))))),fun e=>h (bY _ (bY _ (vP.2 (.inr (.inr e)))))⟩
 have N:∀b,b≠E.mb→b≠E.im→s.ownBlock≠some b→y.ownBlock≠some b→u.ownBlock≠some b→b∉MB E s y u:=fun b c j d w x B=>by
  rcases bL.1 B with e|B
  ·exact c e
  rcases bL.1 B with e|B
  ·exact j e
  rcases vP.1 B with e|e|e
  ·exact d e
  ·exact w e
  ·exact x e
 rcases hc with⟨rfl,rfl,rfl,rfl,A,rfl,C⟩|⟨rfl,rfl,rfl,rfl,A,rfl,C⟩|⟨rfl,rfl,rfl,rfl,A,Z,C⟩
 ·refine⟨⟨R,K,C, ?_, ?_,L (fun e=>i1 e.symm),fF.2 ⟨n1,fun g a=> ?_,fun g a=> ?_,D⟩,H.far⟩,O,fun b i z=> ?_⟩
  ·rw[A];exact bw H.reads fun g a=>o g (J g a) (fun e=>X (by rw[←e];exact a)) (fun e=>(r g e.symm).1 a)
  ·exact bw H.lE fun g a=>o g (I g a) (fun e=>Y (by rw[←e];exact a)) (fun e=>(r g e.symm).2 a)
  ·obtain⟨c,j,d⟩:=n2 g a;exact⟨p g (by rcases a with rfl|rfl<;>assumption) c,j,d⟩
  ·rcases M with q|⟨g',q,T⟩
   ·exact r g (q.symm.trans a)
   ·rw[q] at a;injection a with a;exact⟨fun e=>by have:=J g e;omega,fun e=>by have:=I g e;omega⟩
  ·obtain⟨c,j,d,w,x⟩:=Q b i z;exact⟨N b c j (p b i d) w x,o b i c (fun e=>d e.symm)⟩
 ·refine⟨⟨R,K, ?_,C, ?_,L (fun e=>i2 e.symm),fF.2 ⟨n1,fun g a=> ?_,fun g a=>⟨p g (G g a) (r g a).1,(r g a).2⟩,fun g a=> ?_⟩,H.far⟩,O,fun b i z=> ?_⟩
  ·rw[A];exact bw H.asked fun g a=>o g (G g a) (fun e=>V (by rw[←e];exact a)) (fun e=>(r g a).1 e.symm)
  ·exact bw H.lE fun g a=>o g (I g a) (fun e=>Y (by rw[←e];exact a)) (fun e=>D g e.symm a)
  ·obtain⟨c,j,d⟩:=n2 g a;exact⟨c,p g (by rcases a with rfl|rfl<;>assumption) j,d⟩
  ·rcases M with q|⟨g',q,T⟩
   ·exact D g (q.symm.trans a)
   ·rw[q] at a;injection a with a;exact fun e=>by have:=I g e;omega
  ·obtain⟨c,j,d,w,x⟩:=Q b i z;exact⟨N b c j d (p b i w) x,o b i c (fun e=>w e.symm)⟩
 ·refine⟨⟨R,K, ?_, ?_,C,L (fun e=>i3 e.symm),fF.2 ⟨n1,fun g a=> ?_,fun g a=>⟨(r g a).1,p g (G g a) (r g a).2⟩,fun g a=>p g (J g a) (D g a)⟩,H.far⟩,O,fun b i z=> ?_⟩
  ·rw[A];exact bw H.asked fun g a=>o g (G g a) (fun e=>V (by rw[←e];exact a)) (fun e=>(r g a).2 e.symm)
  ·rw[Z];exact bw H.reads fun g a=>o g (J g a) (fun e=>X (by rw[←e];exact a)) (fun e=>D g a e.symm)
  ·obtain⟨c,j,d⟩:=n2 g a;exact⟨c,j,p g (by rcases a with rfl|rfl<;>assumption) d⟩
  ·obtain⟨c,j,d,w,x⟩:=Q b i z;exact⟨N b c j d w (p b i x),o b i c (fun e=>x e.symm)⟩
end
