/- What a step of the parser does with a token. -/
import Derived.Test.YtogchgjfialleaaGreatDoorKat
set_option linter.unusedVariables false
set_option maxRecDepth 100000
set_option maxHeartbeats 4000000
namespace Go.Proofs.YtogchgjfialleaaGreatDoor
open Go.RowKit
def Nr(n:Nat):Bs→Option (Nat×Int)
 |[]=>none
 |c::r=>some (n-(c::r).length,13)
def Gj(y:Nd)(t:Tok):Option (Nat×Int):=if y.kind≠7∧y.kind≠10 then none else Nr t.bJ (t.text.dropWhile mE)
def KJ(l:List Nd)(y:Nd)(t:Tok):List Nd:=if y.kind≠7∧y.kind≠10 then l++[fV y (.mk 2 t.src t.text [] [])] else l++[y]
section
variable{lo:KB}{w0 W W':World}{pb:Nat}{ov:Value}{st:List Nd}{kvs ys:List Value}{place e:Int}
theorem Ns{l:List Nd}{y:Nd}(H:PK lo w0 W pb ov (l++[y]) kvs ys 0 0)(hl:l.length≤100)(hk:y.kids.length≤1000000){t:Tok}{ta:Option Addr}{x tc:Nat}(ht:t.text.length≤t.bJ)(ai:t.bJ≤1000000):
 Calls Tryz.prog 39 #[.pointer (some ⟨pb,0,none⟩),.agg #[.int .i64 t.kind,.string ⟨t.name.toArray⟩,.slice ta x tc,.string ⟨t.text.toArray⟩,.int .i64 t.src,.int .i64 t.bJ]] W
  fun d w'=>d=.returned (.tuple #[])∧gV lo w0 w' pb (KJ l y t) (pE (Gj y t)) (eE (Gj y t)):=by
 obtain⟨g,cap,a,c,kv,xs,ks,zs,Q,-⟩:=H.oM;have hA:Below W.heap.size W (W.alloc (.cells (ei t.kind t.name (.slice ta x tc) t.text t.src t.bJ).toArray 78)):=(ar _ _).alloc (ag _) _;have B:Hid (PK lo w0 _ pb ov (l++[y]) kvs ys (pE none) (eE none)):=ad (H.next hA);have G:=ad (au W (.cells (ei t.kind t.name (.slice ta x tc) t.text t.src t.bJ).toArray 78));have HO:=ad Q;have HT:=ad (pX B.out Q (by omega));obtain⟨S,L⟩:∃S,KJ l y t=S:=⟨_,rfl⟩;obtain⟨E,K⟩:∃E,Gj y t=E:=⟨_,rfl⟩;rw[L,K];have I:=ad L;have A:=ad K;have p:=ad (And.intro hl (And.intro hk (And.intro ht ai)));clear H Q hA hl hk ht ai L K;go_enter Tryz.func39,Tryz.ntmps39;go_upto_region 1 with fail;generalize W.alloc (.cells (ei t.kind t.name (.slice ta x tc) t.text t.src t.bJ).toArray 78)=W1 at*;generalize W.heap.size=ay at*;go_wp2_with fail;refine HT.out.mono ?_;rintro d V⟨rfl,M⟩;have o:=ad (B.out.next M);have j:=ad ((M.block _ (aB.1 G.out).1).trans G.out);obtain⟨g',av,a',c',aU,a0,aN,a1,R,-,-,-,F,-,-⟩:=o.out.oM;have ao:g'=g:=by rw[HO.out] at R;injection R with b w q3;injection b with b;injection b with b;exact b.symm
 subst ao;have k0:=F.c0;have x3:=aj 3 j.out;have x4:=aj 4 j.out;have x5:=aj 5 j.out;obtain⟨i,T⟩:∃n,y.kind=n:=⟨_,rfl⟩;have J:=ad T;rw[T] at k0;clear M B G HT F R T;by_cases e:i≠7∧i≠10
 ·have m:=ad (show l++[fV y (.mk 2 t.src t.text [] [])]=S by rw[←I.out,KJ,ah (by rw[J.out];exact e)]);have k:=ad (show none=E by rw[←A.out,Gj,ah (by rw[J.out];exact e)]);have X:=ad (BH (z:=.mk 2 t.src t.text [] []) (za:=none) (zc:=0) (zb:=none) (zn:=0) (zd:=0) o.out (by have:=p.out.1;omega) (by have:=p.out.2.1;omega) (mJ.2 ⟨_,_,rfl,.inl ⟨rfl,none,0,rfl⟩,.inl ⟨rfl,none,0,rfl⟩⟩));have al:Hid (Calls Tryz.prog 75 #[.pointer (some ⟨pb,0,none⟩),.agg #[.int .i64 2,.int .i64 t.src,.string ⟨t.text.toArray⟩,.slice none 0 0,.slice none 0 0]] V fun d w'=>d=.returned (.tuple #[])∧gV lo w0 w' pb S (pE E) (eE E)):=ad (by have h:=X.out;rw[m.out,k.out] at h;refine h.mono ?_;rintro d w'⟨h1,ap,aq,h2⟩;exact⟨h1,ov,ap,aq,h2⟩)
  have b:=eS e.1;have w:=eS e.2;have q3:(i !=7)=true:=by rw[bne,b];rfl
  have q4:(i !=10)=true:=by rw[bne,w];rfl
  clear X m k e b w;go_wp2_with fail;refine al.out.mono ?_;rintro d w7⟨rfl,h7⟩;have H7:=ad h7;clear h7;go_wp2_with fail
  (try simp only[Exit.inBlock,Exit.then])
  exact aD (results_none rfl _ _ _) rfl ⟨rfl,H7.out⟩
 ·have O:¬(y.kind≠7∧y.kind≠10):=by rw[J.out];exact e
  have m:=ad (show l++[y]=S by rw[←I.out,KJ,ae O]);obtain⟨D,q⟩:∃D,t.text.dropWhile mE=D:=⟨_,rfl⟩;have k:=ad (show Nr t.bJ D=E by rw[←A.out,Gj,ae O,q]);have ab:=ad (fw ⟨t.text.toArray⟩ ⟨#[32,9,10,13]⟩ V (by decide) Ds);rw[Dt,q] at ab;have Y:=ad (show D.length≤t.bJ by rw[←q];exact bP (cB mE _) p.out.2.2.1);clear O q I A;have ac:i=7∨i=10:=by omega
  clear e;go_upto_region 2 with fail
  go_cut [16] (fun s wx=>s=.bool false∧V=wx)
  case first=>
   rcases ac with h|h
   ·subst h;go_wp2_with fail
    go_meet
    exact⟨rfl,rfl⟩
   ·have q3:(i !=7)=true:=by rw[h];rfl
    subst h;go_wp2_with fail
    go_meet
    exact⟨rfl,rfl⟩
  case rest=>
   obtain⟨rfl,rfl⟩:=hcut;clear ac k0;go_wp2_with fail;refine ab.out.mono ?_;rintro d w3⟨rfl,N⟩;have aa:=ad (o.out.next N);have an:=ad ((N.block _ (aB.1 j.out).1).trans j.out);clear x3 x4 x5 N o j;have x5:=aj 5 an.out;by_cases u:D=[]
   ·subst u;have C:Hid (gV lo w0 w3 pb S (pE E) (eE E)):=ad (by rw[←m.out,←k.out];exact⟨_,_,_,aa.out⟩);go_wp2_with fail
    go_end0
    exact⟨rfl,C.out⟩
   ·have b:(D==[])=false:=aL.2 u;have w:(D !=[])=true:=by rw[bne,b];rfl
    obtain⟨n,hn⟩:∃n,D.length=n:=⟨_,rfl⟩;have Z:=ad (iK aa.out dI (t.bJ-n) 13);have am:=ad (show mD none (some (t.bJ-n,(13:Int)))=E by
     rw[←k.out,←hn];cases D with
     |nil=>exact absurd rfl u
     |cons c r=>rfl)
    rw[am.out,m.out,show((t.bJ-n:Nat):Int)=(t.bJ:Int)-(n:Int) by have:=Y.out;omega] at Z;have i1:(t.bJ:Int)≤1000000:=by have:=p.out.2.2.2;omega
    have i2:(n:Int)≤(t.bJ:Int):=by have:=Y.out;omega
    have i3:(0:Int)≤(n:Int):=by omega
    clear u
    go_upto_if 28 with fail
    go_wp2_with fail;refine Z.out.mono ?_;rintro d w4⟨rfl,af,-⟩;have C:Hid (gV lo w0 w4 pb S (pE E) (eE E)):=ad ⟨_,_,_,af⟩;clear af;go_wp2_with fail
    go_end0
    exact⟨rfl,C.out⟩
end
theorem Wx(x y z:Value)(W:World):(Instr.field 149 (.agg #[x,y,z]) 0).run Tryz.prog W=.ok x W:=by kernel_rfl
def xl(t:Tok):Int:=if t.kind=4 then kindOf t.name else 14
def nw(y:Nd)(k:Int):Bool:=decide (y.kind≠k∨(k=7∧fo y≠9)∨(k=10∧fo y=0))
theorem WZ{a b:Int}(h:¬a=b):(a !=b)=true:=by rw[bne,eS h];rfl
theorem Vb{a b:Int}(h:a=b):(a !=b)=false:=by rw[bne,jY h];rfl
section
variable{lo:KB}{w0 W W':World}{pb:Nat}{ov:Value}{st:List Nd}{kvs ys:List Value}{place e:Int}
theorem Jn{l:List Nd}{y:Nd}(ac:PK lo w0 W pb ov (l++[y]) kvs ys 0 0)(hl:l.length≤100)(hk:y.kids.length≤1000000){t:Tok}{ta:Option Addr}{tn tc:Nat}{S:List Nd}{E:Option (Nat×Int)}
 (T:nw y (xl t)=true→S=l++[y]∧E=some (t.src,13))(V:nw y (xl t)=false→∃ab z,l=ab++[z]∧z.kids.length≤1000000∧S=ab++[fV z y]∧E=none):
 Calls Tryz.prog 43 #[.pointer (some ⟨pb,0,none⟩),.agg #[.int .i64 t.kind,.string ⟨t.name.toArray⟩,.slice ta tn tc,.string ⟨t.text.toArray⟩,.int .i64 t.src,.int .i64 t.bJ]] W
  fun x w'=>x=.returned (.tuple #[])∧gV lo w0 w' pb S (pE E) (eE E):=by
 obtain⟨g,cap,a,c,kv,xs,ks,zs,ho,-⟩:=ac.oM;have hA:Below W.heap.size W (W.alloc (.cells (ei t.kind t.name (.slice ta tn tc) t.text t.src t.bJ).toArray 78)):=(ar _ _).alloc (ag _) _;have o:Hid (PK lo w0 _ pb ov (l++[y]) kvs ys (pE none) (eE none)):=ad (ac.next hA);have q:=ad (au W (.cells (ei t.kind t.name (.slice ta tn tc) t.text t.src t.bJ).toArray 78));have L:=ad ho;have HG:=ad (ac.own.lt g (by rw[ho];rfl));have ap:=ad (fun w=>Nh w t.name);obtain⟨k,aU⟩:∃k,xl t=k:=⟨_,rfl⟩;rw[aU] at T V;have ao:=ad aU;obtain⟨bad,av⟩:∃b,nw y k=b:=⟨_,rfl⟩;rw[av] at T V;have HB:=ad av;have H1:=ad T;have H2:=ad V;have aa:=ad (And.intro hl hk);clear ac ho hA hl hk T V av aU;go_enter Tryz.func43,Tryz.ntmps43;go_upto_region 1 with fail;generalize W.alloc (.cells (ei t.kind t.name (.slice ta tn tc) t.text t.src t.bJ).toArray 78)=W1 at*;generalize br:W.heap.size=d at*;clear br;have x0:=aj 0 q.out
 go_upto_if 8 with fail
 go_cut [4] (fun s wx=>s=.int .i64 k∧Hid (PK lo w0 wx pb ov (l++[y]) kvs ys (pE none) (eE none))∧Hid (wx.heap[d]? =some (.cells (ei t.kind t.name (.slice ta tn tc) t.text t.src t.bJ).toArray 78)))
 case first=>
  by_cases X:t.kind=4
  ·have an:=ad (show kindOf t.name=k by rw[←ao.out,xl,ah X]);have h:=jY X;have x1:=aj 1 q.out;rw[an.out] at ap;clear X;go_wp2_with fail;refine(ap.out W1).mono ?_;rintro x I⟨H,ev,rfl,-⟩;have j:=ad (o.out.next H);have C:=ad ((H.block _ (aB.1 q.out).1).trans q.out);clear H x0 x1 h;have b4:=Wx;go_wp2_with fail
   go_meet
   exact⟨rfl,j,C⟩
  ·have an:=ad (show(14:Int)=k by rw[←ao.out,xl,ae X]);have h:=eS X;clear X;go_wp2_with fail
   go_meet
   exact⟨by rw[an.out],o,q⟩
 case rest=>
  clear o q x0 ap ao;obtain⟨rfl,o,q⟩:=hcut;have R:=ad (pX o.out L.out (by have:=aa.out.1;omega));have ai:=ad (fun v (hb:Below _ _ v)=>Dm (o.out.next hb) (by have:=aa.out.1;omega) (by have:=aa.out.2;omega));obtain⟨lk,a0⟩:∃n,fo y=n:=⟨_,rfl⟩;obtain⟨yk,a3⟩:∃n,y.kind=n:=⟨_,rfl⟩;rw[a0] at ai;have u:=ad (show decide (yk≠k∨(k=7∧lk≠9)∨(k=10∧lk=0))=bad by rw[←HB.out,nw,a0,a3]);have bn:=ad a3;clear a0 a3 HB;go_upto_region 4 with fail
  go_cut [37] (fun s wx=>s=.bool bad∧Hid (PK lo w0 wx pb ov (l++[y]) kvs ys (pE none) (eE none))∧Hid (wx.heap[d]? =some (.cells (ei t.kind t.name (.slice ta tn tc) t.text t.src t.bJ).toArray 78)))
  case first=>
   go_wp2_with fail;refine R.out.mono ?_;rintro x I⟨rfl,H⟩;have j:=ad (o.out.next H);have C:=ad ((H.block _ (aB.1 q.out).1).trans q.out);obtain⟨g',bo,a',c',bv,b0,bs,b2,O,-,-,-,F,-,-⟩:=j.out.oM;have aN:g'=g:=by rw[L.out] at O;injection O with h Z K;injection h with h;injection h with h;exact h.symm
   subst aN;have Q:=F.c0;rw[bn.out] at Q;have af:=ad (ai.out I H);clear H o q R F O ai;by_cases i:yk=k
   ·by_cases r:k=7
    ·by_cases A:lk=9
     ·have D:=ad (show bad=false by rw[←u.out];simp[i,r,A]);have h:=Vb i;have Z:=jY r;have K:=Vb A;have q4:(k==10)=false:=eS (by omega);clear i r A u;go_wp2_with fail;refine af.out.mono ?_;rintro x w3⟨rfl,m⟩;have B:=ad (j.out.next m);have M:=ad ((m.block _ (aB.1 C.out).1).trans C.out);clear m Q;go_wp2_with fail
      go_meet
      exact⟨by rw[D.out],B,M⟩
     ·have D:=ad (show bad=true by rw[←u.out];simp[i,r,A]);have h:=Vb i;have Z:=jY r;have K:=WZ A;clear i r A u;go_wp2_with fail;refine af.out.mono ?_;rintro x w3⟨rfl,m⟩;have B:=ad (j.out.next m);have M:=ad ((m.block _ (aB.1 C.out).1).trans C.out);clear m Q;go_wp2_with fail
      go_meet
      exact⟨by rw[D.out],B,M⟩
    ·by_cases J:k=10
     ·by_cases A:lk=0
      ·have D:=ad (show bad=true by rw[←u.out];simp[i,J,A]);have h:=Vb i;have Z:=eS r;have K:=jY J;have q4:=jY A;clear i r A J u;go_wp2_with fail;refine af.out.mono ?_;rintro x w3⟨rfl,m⟩;have B:=ad (j.out.next m);have M:=ad ((m.block _ (aB.1 C.out).1).trans C.out);clear m Q;go_wp2_with fail
       go_meet
       exact⟨by rw[D.out],B,M⟩
      ·have D:=ad (show bad=false by rw[←u.out];simp[i,J,A]);have h:=Vb i;have Z:=eS r;have K:=jY J;have q4:=eS A;clear i r A J u;go_wp2_with fail;refine af.out.mono ?_;rintro x w3⟨rfl,m⟩;have B:=ad (j.out.next m);have M:=ad ((m.block _ (aB.1 C.out).1).trans C.out);clear m Q;go_wp2_with fail
       go_meet
       exact⟨by rw[D.out],B,M⟩
     ·have D:=ad (show bad=false by rw[←u.out];simp[i,r,J]);have h:=Vb i;have Z:=eS r;have K:=eS J;clear i r J u;go_wp2_with fail
      go_meet
      exact⟨by rw[D.out],j,C⟩
   ·have D:=ad (show bad=true by rw[←u.out];simp[i]);have h:=WZ i;clear i u;go_wp2_with fail
    go_meet
    exact⟨by rw[D.out],j,C⟩
  case rest=>
   clear o q R ai u;obtain⟨rfl,o,q⟩:=hcut;cases bad
   ·obtain⟨ab,z,N,am,hS,hE⟩:=H2.out rfl;have R:=ad (pX o.out L.out (by have:=aa.out.1;omega));have bl:=ad (And.intro N (And.intro am (And.intro hS hE)));clear N am hS hE H1 H2;go_upto_region 6 with fail;go_wp2_with fail;refine R.out.mono ?_;rintro x I⟨rfl,H⟩;have j:=ad (o.out.next H);obtain⟨g',bo,a',c',bv,b0,bs,b2,O,-,-,-,F,-,-⟩:=j.out.oM;have aN:g'=g:=by rw[L.out] at O;injection O with h Z K;injection h with h;injection h with h;exact h.symm
    subst aN;obtain⟨b',d',rfl,-⟩:=mK F.own;have Q:=F.c0;have k1:=F.c1;have k2:=F.c2;have k3:=F.c3;have k4:=F.c4;have hA3:Below I.heap.size I (I.alloc (.cells (eH y.kind y.place y.text (.slice a' y.attrs.length c') (.slice b' y.kids.length d')).toArray 45)):=(ar _ _).alloc (ag _) _;have B:=ad (j.out.next hA3);have a4:=ad (au I (.cells (eH y.kind y.place y.text (.slice a' y.attrs.length c') (.slice b' y.kids.length d')).toArray 45));have ay:g'<I.heap.size:=(j.out.own.lt g' (by rw[L.out];rfl)).2;have bf:=(hA3.cell (p:=⟨g',l.length*5+3,none⟩) ay).trans k3;have bg:=(hA3.cell (p:=⟨g',l.length*5+4,none⟩) ay).trans k4;have bm:=ad (show pb<I.heap.size from j.out.lt);clear H o q R F O hA3 ay;go_upto_region 7 with fail;generalize I.alloc (.cells #[.int .i64 y.kind,.int .i64 y.place,.string ⟨y.text.toArray⟩,.slice a' y.attrs.length c',.slice b' y.kids.length d'] 45)=G at*;generalize I.heap.size=nb at*;clear Q k1 k2 k3 k4 j;obtain⟨a2,c2,b6,b5,b7,bd,K,q4,bb⟩:=B.out.pop L.out;have e3:=iS (K.symm.trans bf);have e4:=iS (q4.symm.trans bg);injection e3 with e3 _ e5;subst e3;subst e5;subst e4;have a5:=ad (And.intro bd bb);have c0:=B.out.box.c.c0;have bp:=B.out.box.c.f0;rw[L.out] at c0;have i1:l.length≤1000:=by have:=aa.out.1;omega
    have i2:(0:Int)≤(l.length:Int):=by omega
    have i3:(l.length:Int)+1-1=(l.length:Int):=by omega
    have i4:IntKind.i64.wrap (l.length:Int)=(l.length:Int):=IntWalk.i64_in _ (by omega);have i5:(l.length:Int)≤(cap:Int):=by obtain⟨g5,b3,h5,-,-,-,h6,-⟩:=B.out.slice (by simp);rw[L.out] at h5;injection h5 with _ _ r;rw[show(l++[y]).length=l.length+1 by simp] at h6;omega
    clear K q4 bf bg bd bb;go_region;obtain⟨N,am,hS,hE⟩:=bl.out;have aq:Below (G.setCell ⟨pb,0,none⟩ (.slice (some ⟨g',0,none⟩) l.length cap)).heap.size (G.setCell ⟨pb,0,none⟩ (.slice (some ⟨g',0,none⟩) l.length cap)) (G.setCell ⟨pb,0,none⟩ (.slice (some ⟨g',0,none⟩) l.length cap)).drew:=ax (G.setCell ⟨pb,0,none⟩ (.slice (some ⟨g',0,none⟩) l.length cap)) 1;have be:ak pb G (G.setCell ⟨pb,0,none⟩ (.slice (some ⟨g',0,none⟩) l.length cap)):=(ak.refl pb G).set;have a9:=(aB.1 a4.out).1;have Y:(G.setCell ⟨pb,0,none⟩ (.slice (some ⟨g',0,none⟩) l.length cap)).drew.heap[nb]? =_:=(be.block nb a9 (by intro e;injection e with e;have:=bm.out;omega)).trans a4.out;have al:=a5.out.1.next aq
    have a1:=a5.out.2.next aq
    have a7:(ab++[z]).length=l.length:=by rw[N]
    have a8:ab.length≤1000:=by rw[N] at i1;simp at i1;omega
    have bi:Hid (Calls Tryz.prog 75 #[.pointer (some ⟨pb,0,none⟩),.agg #[.int .i64 y.kind,.int .i64 y.place,.string ⟨y.text.toArray⟩,.slice a2 y.attrs.length c2,.slice b' y.kids.length d']] (G.setCell ⟨pb,0,none⟩ (.slice (some ⟨g',0,none⟩) l.length cap)).drew fun x w'=>x=.returned (.tuple #[])∧gV lo w0 w' pb S (pE E) (eE E)):=ad (by rw[hS,hE];generalize(G.setCell ⟨pb,0,none⟩ (.slice (some ⟨g',0,none⟩) l.length cap)).drew=W4 at*;rw[←a7] at al a1;rw[N] at al;refine(BH al a8 (by omega) a1).mono ?_;rintro x w'⟨T,bx,b1,V⟩;exact⟨T,_,bx,b1,V⟩)
    clear aq be a9 al a1 a7 a8 N am hS hE;generalize(G.setCell ⟨pb,0,none⟩ (.slice (some ⟨g',0,none⟩) l.length cap)).drew=W4 at*;have n0:=aj 0 Y;have n1:=aj 1 Y;have n2:=aj 2 Y;have n3:=aj 3 Y;have n4:=aj 4 Y;clear Y c0 bp i1 i2 i3 i4 i5;go_wp2_with fail;refine bi.out.mono ?_;rintro x w5⟨rfl,h5⟩;have HP:=ad h5;clear h5 n0 n1 n2 n3 n4;go_wp2_with fail
    go_end0
    exact⟨rfl,HP.out⟩
   ·obtain⟨rfl,rfl⟩:=H1.out rfl;have bk:=ad (iK o.out dI t.src 13);have x4:=aj 4 q.out;go_wp2_with fail;refine bk.out.mono ?_;rintro x w3⟨rfl,a6,-⟩;have HP:Hid (gV lo w0 w3 pb (l++[y]) (pE (some (t.src,13))) (eE (some (t.src,13)))):=ad ⟨_,_,_,a6⟩;clear a6;go_wp2_with fail
    (try simp only[Exit.inBlock,Exit.then])
    exact aD (results_none rfl _ _ _) rfl ⟨rfl,HP.out⟩
end
def TX(l:List (Int×Value)):List (Value×Value):=l.map fun p=>(.int .i64 p.1,p.2)
def BK(W:World)(b:Nat)(l:List (Int×Value)):Prop:=∃es clock,W.heap[b]? =some (.map es clock)∧es.toList.map (fun e=>(e.key,e.val))=TX l
def tQ(l:List (Int×Value))(k:Int):Option Value:=(l.find? (·.1==k)).map (·.2)
theorem Q5:Tryz.prog.underlying 3=some (.int .i64):=by kernel_rfl
theorem Nt(W:World):BK (W.alloc (.map #[] 0)) W.heap.size []:=⟨#[],0,(MapKept.heap_alloc W _).1,rfl⟩
theorem oN(k:Int):∀(es:List MapEntry) (l:List (Int×Value)) (i:Nat),es.map (fun e=>(e.key,e.val))=TX l→
 ∃r,Instr.findNow (.int .i64) (.int .i64 k) es i=some r∧r.map (·.2)=tQ l k
 |[],[],i,_=>⟨none,rfl,rfl⟩
 |[],p::l,i,h=>by simp[TX] at h
 |e::es,[],i,h=>by simp[TX] at h
 |e::es,p::l,i,h=>by
  simp only[TX,kg,List.cons.injEq,kj] at h;obtain⟨⟨c,m⟩,d⟩:=h;obtain⟨r,a,b⟩:=oN k es l (i+1) d;have j:Instr.sameNow (.int .i64) (.int .i64 k) e.key=some (p.1==k):=by rw[c];show(if IntKind.i64=IntKind.i64 then some (k==p.1) else none)=_;rw[ah rfl];congr 1;rw[gf];simp only[bZ];exact⟨Eq.symm,Eq.symm⟩
  unfold Instr.findNow;rw[j];unfold tQ;rw[uH];cases n:(p.1==k)
  ·exact⟨r,a,b⟩
  ·exact⟨some (i,e.val),rfl,by simp[m]⟩
theorem Nu{W:World}{b:Nat}{l:List (Int×Value)}(h:BK W b l)(T e:TypeId)(m:Tryz.prog.underlying T=some (.map 3 e))(k:Int)(v:Value)(p:tQ l k=none):
 ∃W',(Instr.mapUpdate T (.map (some b)) (.int .i64 k) v).run Tryz.prog W=.ok () W'∧BK W' b (l++[(k,v)])∧QP b W W':=by
 obtain⟨es,clock,a,d⟩:=h;obtain⟨r,i,c⟩:=oN k es.toList l 0 d;rw[p] at c;cases r with
 |some x=>cases c
 |none=>
 have n:=MapKept.run_checkKey (P:=Tryz.prog) (w:=W) Q5 (k:=.int .i64 k) rfl false 9999;refine⟨W.putObj b (.map (es.push {key:=.int .i64 k,val:=v,born:=clock}) (clock+1)), ?_,⟨_,_,wK ((aB.1 a).1), ?_⟩, ?_⟩
 ·unfold Instr.mapUpdate;simp[run_underlying m,MapKept.run_getObj_map a,n,MapKept.run_findKey Q5 i,MapKept.run_setObj_map _ a,Result.andThen,World.putObj]
 ·rw[Array.toList_push,List.map_append,d];simp[TX]
 ·exact⟨rfl,rfl,rfl,by simp,fun j o=>hX o⟩
theorem Nv{W:World}{b:Nat}{l:List (Int×Value)}(h:BK W b l)(T e:TypeId)(d:Tryz.prog.underlying T=some (.map 3 e))(k:Int)(v:Value)(o:tQ l k=some v):
 (Instr.lookup T (.map (some b)) (.int .i64 k) false).run Tryz.prog W=.ok v W:=by
 obtain⟨es,clock,i,m⟩:=h;obtain⟨r,c,a⟩:=oN k es.toList l 0 m;have j:=MapKept.run_checkKey (P:=Tryz.prog) (w:=W) Q5 (k:=.int .i64 k) rfl es.isEmpty 9999;unfold Instr.lookup;rw[o] at a;have n:=MapKept.run_findKey (w:=W) (P:=Tryz.prog) Q5 c;cases r with
 |none=>cases a
 |some x=>obtain rfl:x.2=v:=iS a;simp[run_underlying d,MapKept.run_getObj_map i,j,n,Result.andThen]
theorem dW{ops:Array Oper}{rest:List Oper}{o:Oper}{a:Act}{Q:Exit→Act→World→Prop}{W:World}(j:o.guard=none)(m x v:Operand)(T:TypeId)(q:o.op=Op.insert T m x v)
 (e:TypeId)(i:Tryz.prog.underlying T=some (.map 3 e))(b:Nat)(l:List (Int×Value))(p:a.eval m=.map (some b))(h:BK W b l)(k:Int)(val:Value)(t:a.eval x=.int .i64 k)(s:a.eval v=val)
 (n:tQ l k=none)
 (c:∀W',BK W' b (l++[(k,val)])→QP b W W'→wpList Tryz.prog ops Q rest (a.put o.dst undef) W'):
 wpList Tryz.prog ops Q (o::rest) a W:=by
 refine wpList_plain j fun y d=> ?_;obtain⟨W',r,u,w⟩:=Nu h T e i k val n;unfold Oper.wp;simp[execOp,q,p,t,s,r,Result.andThen];exact d _ _ (c W' u w)
def Q6(f:FuncId):Value:=.agg #[.func (.func f) #[] #[]]
def Nw:List (Int×Value):=[(1,Q6 39),(7,Q6 40),(2,Q6 41),(3,Q6 41),(5,Q6 42),(4,Q6 43),(6,Q6 43)]
theorem uR:Tryz.prog.underlying 75=some (.map 3 81):=by kernel_rfl
theorem KK(w:World):Calls Tryz.prog 22 #[] w (fun e w'=>e=.returned (.map (some w.heap.size))∧BK w' w.heap.size Nw∧Below w.heap.size w w'):=by
 have E:=@run_makeMap Tryz.prog;have m:=Nt w;have b:Below w.heap.size w (w.alloc (.map #[] 0)):=(ar _ _).alloc (ag _) _;go_enter Tryz.func22,Tryz.ntmps22;go_wp2_with (first
  |(refine dW rfl _ _ _ _ rfl _ uR w.heap.size _ rfl m _ _ rfl rfl (by rfl) ?_;intro y n c;clear m)
  |(refine dW rfl _ _ _ _ rfl _ uR w.heap.size _ rfl n _ _ rfl rfl (by rfl) ?_;intro z o d;clear n)
  |(refine dW rfl _ _ _ _ rfl _ uR w.heap.size _ rfl o _ _ rfl rfl (by rfl) ?_;intro A p h;clear o)
  |(refine dW rfl _ _ _ _ rfl _ uR w.heap.size _ rfl p _ _ rfl rfl (by rfl) ?_;intro B q i;clear p)
  |(refine dW rfl _ _ _ _ rfl _ uR w.heap.size _ rfl q _ _ rfl rfl (by rfl) ?_;intro C r j;clear q)
  |(refine dW rfl _ _ _ _ rfl _ uR w.heap.size _ rfl r _ _ rfl rfl (by rfl) ?_;intro D s k;clear r)
  |(refine dW rfl _ _ _ _ rfl _ uR w.heap.size _ rfl s _ _ rfl rfl (by rfl) ?_;intro a t l;clear s)
  |fail)
 have x:=ad (show Below w.heap.size w a from((((((b.trans (c.below (ag _))).trans (d.below (ag _))).trans (h.below (ag _))).trans (i.below (ag _))).trans (j.below (ag _))).trans (k.below (ag _))).trans (l.below (ag _)));have u:=ad (show BK a w.heap.size Nw from t);clear t b c d h i j k l;go_wp2_with fail;go_ret;exact⟨rfl,u.out,x.out⟩
end Go.Proofs.YtogchgjfialleaaGreatDoor
namespace Go.Proofs.YtogchgjfialleaaGreatDoor
open Go.Lib
structure vO (n:Nat) (t:Tok):Prop where
 src:t.src≤n
 bJ:t.bJ≤n
 sr:t.text.length≤t.bJ
 at_:∀a∈t.attrs,0≤a.place
 kd:1≤t.kind∧t.kind≤7
 al:t.attrs.length≤n+1
theorem qd{s:Bs}{n:Nat}{k:Int}{nm:Bs}{l:List bQ}{i j:Nat}(c:i≤n)(d:j≤n)(h:∀a∈l,0≤a.place)(e:1≤k∧k≤7)(b:l.length≤n+1):vO n (cS s k nm l i j):=
 ⟨c,d,by show(GO s i j).length≤j;unfold GO;rw[gu];omega,h,e,b⟩
theorem Oh{s:Bs}{tag i:Nat}{l:List bQ}{a:bQ}{t:Nat}(h:fU s tag i l=.aq a t):0≤a.place:=by
 unfold fU at h;dsimp only at h
 repeat' split at h
 all_goals first
  |(cases h;done)
  |(cases h;exact Int.natCast_nonneg _)
theorem Ay{s:Bs}{tag:Nat}:∀(f i:Nat) (l:List bQ) {d:List bQ} {j:Nat},(∀a∈l,0≤a.place)→cE s tag f i l=.aq d j→∀a∈d,0≤a.place
 |0,i,l,d,j,_,h=>by unfold cE at h;cases h
 |f+1,i,l,d,j,e,h=>by
  unfold cE at h;dsimp only at h;split at h
  ·cases h
  ·split at h
   ·cases h;exact e
   ·split at h
    ·cases h
    ·split at h
     ·cases h
     ·rename_i a t k;refine Ay f t (l++[a]) (fun b c=> ?_) h;rcases gZ.1 c with c|c
      ·exact e b c
      ·rw[fj.1 c];exact Oh k
theorem tX{s:Bs}{tag:Nat}:∀(f i:Nat) (l:List bQ) {b:List bQ} {j:Nat},cE s tag f i l=.aq b j→b.length≤l.length+f
 |0,i,l,b,j,h=>by unfold cE at h;cases h
 |f+1,i,l,b,j,h=>by
  unfold cE at h;dsimp only at h;split at h
  ·cases h
  ·split at h
   ·cases h;omega
   ·split at h
    ·cases h
    ·split at h
     ·cases h
     ·rename_i a t c;have:=tX f t (l++[a]) h;rw[bB,mF] at this;omega
theorem D1{s:Bs}{tag:Nat}{nm:Bs}{l:List bQ}{k:Int}{j:Nat}{t:Tok}{m:Nat}(n:tag≤s.length)(i:∀a∈l,0≤a.place)(e:1≤k∧k≤7)(b:l.length≤s.length+1)(h:gv s tag nm l k j=.aq t m):vO s.length t:=by
 unfold gv at h;split at h
 ·cases h
 ·rename_i c r d;split at h
  ·cases h;exact qd n (by have:=ku d;omega) i e b
  ·cases h
theorem Uj{s:Bs}{tag:Nat}{nm:Bs}{i:Nat}{t:Tok}{m:Nat}(d:tag≤s.length)(h:qw s tag nm i=.aq t m):vO s.length t:=by
 unfold qw at h;split at h
 ·cases h
 ·rename_i l j b;have c:=Ay _ _ _ (fun a h=>by cases h) b;split at h
  ·exact D1 d c (by decide) (by have:=tX _ _ _ b;simpa using this) h
  ·exact D1 d c (by decide) (by have:=tX _ _ _ b;simpa using this) h
theorem RD{s nm:Bs}{tag i:Nat}{t:Tok}{m:Nat}(d:tag≤s.length)(c:i≤s.length)(h:iU s nm tag i=.aq t m):vO s.length t:=by
 have b:=wU (nm:=nm) d c;rw[h] at b;unfold iU at h;dsimp only at h;split at h
 ·cases h
 ·split at h
  ·cases h
  ·cases h;exact qd c b.2 (fun a h=>by cases h) (by decide) (aH _)
theorem Oi{s:Bs}{tag:Nat}{b:List Tok}{m:Nat}(p:tag+5≤s.length)(h:dB s tag=.aq b m):(∀t∈b,vO s.length t)∧b.length≤2:=by
 unfold dB at h;dsimp only at h;split at h
 ·split at h
  ·cases h
  ·rename_i t j l;have c:=Uj (by omega) l;have d:oH s.length _ (qw s tag _ _):=wT (s:=s) (tag:=tag) (nm:=(s.drop (tag+5)).take (db s (tag+5))) (i:=tag+5+db s (tag+5)) (by omega) (iI s p);rw[l] at d;split at h
   ·split at h
    ·cases h
    ·rename_i r k o;have n:=RD (by omega) d.2 o;cases h;refine⟨fun u a=> ?_,by simp⟩;rcases bL.1 a with e|a
     ·rw[e];exact c
     ·rw[fj.1 a];exact n
   ·cases h;exact⟨fun u a=>by rw[fj.1 a];exact c,by simp⟩
 ·cases h
theorem K8{s:Bs}{tag:Nat}{b:List Tok}{m:Nat}(i:tag+6≤s.length)(h:de s tag=.aq b m):(∀t∈b,vO s.length t)∧b.length≤2:=by
 unfold de at h;dsimp only at h;split at h
 ·split at h
  ·cases h
  ·rename_i c r d;split at h
   ·cases h;exact⟨fun u e=>by rw[fj.1 e];exact qd (by omega) (by have:=ku d;omega) (fun a h=>by cases h) (by decide) (aH _),by simp⟩
   ·cases h
 ·cases h
theorem Oj{s:Bs}{i:Nat}{hid:Option Nat}{x:List Tok×Option Nat}{m:Nat}(k:i<s.length)(n:dw (s.drop i) hid.isSome≠0)(h:fq s (dw (s.drop i) hid.isSome) i hid=.aq x m):(∀t∈x.1,vO s.length t)∧x.1.length≤2:=by
 obtain⟨o,p,q,r⟩:=pS (hid:=hid.isSome) k;have e:=mH k n;rw[h] at e;unfold fq at h;split at h
 ·rename_i b;split at h
  ·cases h
  ·rename_i l j c;cases h;exact Oi (o b) c
 ·split at h
  ·rename_i b;split at h
   ·cases h
   ·rename_i l j c;cases h;exact K8 (p b) c
  ·split at h
   ·rename_i b;split at h
    ·cases h
    ·cases h;exact⟨fun u d=>by rw[fj.1 d];exact qd (by omega) (q b) (fun a h=>by cases h) (by decide) (aH _),by simp⟩
   ·cases h;exact⟨fun u d=>by rw[fj.1 d];exact qd (by omega) e.2 (fun a h=>by cases h) (by decide) (aH _),by simp⟩
theorem D4{s:Bs}{src i:Nat}(c:i≤s.length):(∀t∈dc s src i,vO s.length t)∧(dc s src i).length≤1:=by
 unfold dc;split
 ·exact⟨fun u b=>by rw[fj.1 b];exact qd (by omega) c (fun a h=>by cases h) (by decide) (aH _),by simp⟩
 ·exact⟨fun u b=>by simp at b,by simp⟩
theorem B5(s:Bs):∀(f src i:Nat) (hid:Option Nat) (l:List Tok) {c:List Tok} {m:Nat},i≤s.length→(∀t∈l,vO s.length t)→gS s f src i hid l=.aq c m→(∀t∈c,vO s.length t)∧c.length≤l.length+3*f
 |0,src,i,hid,l,c,m,_,_,h=>by unfold gS at h;cases h
 |f+1,src,i,hid,l,c,m,p,d,h=>by
  unfold gS at h;dsimp only at h;split at h
  ·rename_i e;split at h
   ·have:=B5 s f src (i+1) hid l e d h;exact⟨this.1,by omega⟩
   ·rename_i k;split at h
    ·cases h
    ·rename_i x j q;have n:=Oj e k q;have o:=mH e k;rw[q] at o;have b:=D4 (s:=s) (src:=src) p;have:=B5 s f j j x.2 (l++dc s src i++x.1) o.2 (fun t a=>by
      rcases gZ.1 a with a|a
      ·rcases gZ.1 a with a|a
       ·exact d t a
       ·exact b.1 t a
      ·exact n.1 t a) h
     refine⟨this.1, ?_⟩;have r:=this.2;rw[bB,bB] at r;have:=b.2;have:=n.2;omega
  ·have b:=D4 (s:=s) (src:=src) p;split at h
   ·cases h
   ·cases h;refine⟨fun t a=> ?_, ?_⟩
    ·rcases gZ.1 a with a|a
     ·exact d t a
     ·exact b.1 t a
    ·rw[bB];have:=b.2;omega
theorem Vj{s:Bs}{a:List Tok}{m:Nat}(h:lexB s=.aq a m):(∀t∈a,vO s.length t)∧a.length≤3*(s.length+1):=by have:=B5 s _ _ _ _ _ (aH _) (fun t h=>by cases h) h;exact⟨this.1,by simpa using this.2⟩
end Go.Proofs.YtogchgjfialleaaGreatDoor
namespace Go.Proofs.YtogchgjfialleaaGreatDoor
open Go.RowKit
def re(x:rf):List Nd:=x.below.reverse++[x.top]
def Q7(lo:KB)(w0 W:World)(pb:Nat):Px→Prop
 |.aq x=>gV lo w0 W pb (re x) 0 0
 |.bad p e=>e≠0∧∃st,gV lo w0 W pb st p e
structure tR (n:Nat) (x:rf):Prop where
 deep:x.below.length≤16
 kids:∀y∈x.top::x.below,y.kids.length≤n
 bot:QV x.top x.below
theorem Ak(y z:Nd):(fV y z).kids.length=y.kids.length+1:=by show(y.kids++[z]).length=_;simp
theorem Du(x:rf)(t:Tok):Dv x t=px (Gj x.top t) (if x.top.kind≠7∧x.top.kind≠10 then⟨fV x.top (.mk 2 t.src t.text [] []),x.below⟩ else x):=by
 unfold Dv Gj;split
 ·rfl
 ·cases t.text.dropWhile mE<;>rfl
theorem Q8(x:rf)(t:Tok):KJ x.below.reverse x.top t=re (if x.top.kind≠7∧x.top.kind≠10 then⟨fV x.top (.mk 2 t.src t.text [] []),x.below⟩ else x):=by unfold KJ;split<;>rfl
theorem Al(x:rf)(t:Tok):BL x t=px (Nq x.top x.below.length t) (if uQ t then⟨fV x.top (.mk (kindOf t.name) t.src [] t.attrs []),x.below⟩ else⟨.mk (kindOf t.name) t.src [] t.attrs [],x.top::x.below⟩):=rfl
theorem Nx(x:rf)(t:Tok):KH x.below.reverse x.top t=re (if uQ t then⟨fV x.top (.mk (kindOf t.name) t.src [] t.attrs []),x.below⟩ else⟨.mk (kindOf t.name) t.src [] t.attrs [],x.top::x.below⟩):=by
 unfold KH;split
 ·rfl
 ·unfold re;rw[List.reverse_cons]
theorem Dw(x:rf)(t:Tok):Jo x t=px (Jl x.top x.below.length t.src) ⟨.mk 14 t.src [] [] [],x.top::x.below⟩:=rfl
theorem Gk{n:Nat}{o:Option (Nat×Int)}{x y:rf}(h:px o x=.aq y)(a:o=none→tR n x):tR n y:=by
 cases o with
 |none=>cases h;exact a rfl
 |some p=>cases h
theorem Gl{a b:Option (Nat×Int)}(h:mD a b=none):a=none∧b=none:=by
 cases a with
 |none=>exact⟨rfl,h⟩
 |some x=>cases h
theorem Jp{n:Nat}{x:rf}{z:Nd}(h:tR n x):tR (n+1) ⟨fV x.top z,x.below⟩:=
 ⟨h.deep,fun y c=>by
  rcases bL.1 c with rfl|c
  ·rw[Ak];have:=h.kids x.top eF;omega
  ·have:=h.kids y (bY _ c);omega,BC (a:=x.top) (b:=fV x.top z) rfl h.bot⟩
theorem Ny{n m:Nat}{x:rf}(h:tR n x)(a:n≤m):tR m x:=⟨h.deep,fun y b=>bP (h.kids y b) a,h.bot⟩
theorem Dx{n:Nat}{x:rf}{z:Nd}(h:tR n x)(b:z.kids=[])(c:¬16<x.below.length+1):tR (n+1) ⟨z,x.top::x.below⟩:=
 ⟨by show(x.top::x.below).length≤16;rw[bF];omega,fun y a=>by
  rcases bL.1 a with e|a
  ·rw[e];show z.kids.length≤_;rw[b];exact aH _
  ·have:=h.kids y a;omega,h.bot⟩
theorem Jq(x:rf)(t:Tok):Q9 x t=if nw x.top (xl t)=true then .bad t.src 13 else match x.below with|[]=>.bad 0 0|y::r=>.aq ⟨fV y x.top,r⟩:=by
 by_cases a:nw x.top (xl t)=true
 ·rw[ah a];exact ah (dv a)
 ·rw[ae a];exact ae (fun h=>a (bN h))
theorem KL{n:Nat}{x y:rf}{t:Tok}(h:tR n x)(c:lM x t=.aq y):tR (n+1) y:=by
 unfold lM at c;split at c
 ·rw[Du] at c;refine Gk c fun _=> ?_;split
  ·exact Jp h
  ·exact Ny h (fB n)
 ·split at c
  ·cases c;exact⟨h.deep,fun y i=>by
    rcases bL.1 i with rfl|i
    ·have:=h.kids x.top eF;show x.top.kids.length≤_;omega
    ·have:=h.kids y (bY _ i);omega,BC (a:=x.top) (b:=vN x.top t.text) rfl h.bot⟩
  ·split at c
   ·rw[Al] at c;refine Gk c fun k=> ?_;have d:¬16<x.below.length+1:=fun d=>by have:=(Gl (Gl k).1).2;rw[ah d] at this;cases this
    split
    ·exact Jp h
    ·exact Dx h rfl d
   ·split at c
    ·rw[Dw] at c;refine Gk c fun k=> ?_;have d:¬16<x.below.length+1:=fun d=>by have:=(Gl k).2;rw[ah d] at this;cases this
     exact Dx h rfl d
    ·rw[Jq] at c;split at c
     ·cases c
     ·split at c
      ·cases c
      ·rename_i z r o;cases c;have j:=h.kids;have m:=h.deep;have l:=h.bot;rw[o] at j m l;exact⟨by rw[bF] at m;show r.length≤16;omega,fun y i=>by
        rcases bL.1 i with e|i
        ·rw[e];show(fV z x.top).kids.length≤_;rw[Ak];have:=j z (bY _ eF);omega
        ·have:=j y (bY _ (bY _ i));omega,BC (a:=z) (b:=fV z x.top) rfl l⟩
section
variable{lo:KB}{w0 W W':World}{pb:Nat}{ov:Value}{st:List Nd}{kvs ys:List Value}{place e:Int}
theorem Gm{o:Option (Nat×Int)}{x:rf}(h:gV lo w0 W pb (re x) (pE o) (eE o))(a:vX o):Q7 lo w0 W pb (px o x):=by
 cases o with
 |none=>exact h
 |some p=>exact⟨a p rfl,_,h⟩
theorem Nz(n:Nat):∀d:Bs,vX (Nr n d)
 |[]=>dI
 |_::_=>eZ (by decide)
abbrev Vi(t:Tok)(ta:Option Addr)(tc:Nat):Value:=.agg #[.int .i64 t.kind,.string ⟨t.name.toArray⟩,.slice ta t.attrs.length tc,.string ⟨t.text.toArray⟩,.int .i64 t.src,.int .i64 t.bJ]
theorem NB{x:rf}{n m:Nat}(H:PK lo w0 W pb ov (re x) kvs ys 0 0)(l:tR n x)(q:n≤1000000){t:Tok}(i:vO m t)(K:m<1000000){ta:Option Addr}{tc:Nat}(y:aP (PL lo (pb::bM (ov::kvs))) W t.attrs (.slice ta t.attrs.length tc)):
 ∃f,tQ Nw t.kind=some (Q6 f)∧(∀(vs:Array Value) (w:World),(callFunc f vs).run Tryz.prog w=.ok (.enter f vs) w)∧Calls Tryz.prog f #[.pointer (some ⟨pb,0,none⟩),Vi t ta tc] W fun b w'=>b=.returned (.tuple #[])∧Q7 lo w0 w' pb (lM x t):=by
 have J:x.below.reverse.length≤16:=by rw[zN];exact l.deep
 have k:x.top.kids.length≤1000000:=bP (l.kids _ eF) q;have u:t.attrs.length≤1000000:=by have:=i.al;omega
 obtain⟨F,G⟩:=i.kd;by_cases d:t.kind=1
 ·refine⟨39,by rw[d];rfl,fun vs w=>cP Tryz.func39 (by kernel_rfl) rfl vs w,(Ns H (by omega) k i.sr (by have:=i.bJ;omega)).mono ?_⟩;rintro b w'⟨a,h⟩;refine⟨a, ?_⟩;rw[lM,ah d,Du];rw[Q8] at h;exact Gm h (jH dI (Nz _ _))
 by_cases e:t.kind=7
 ·refine⟨40,by rw[e];rfl,fun vs w=>cP Tryz.func40 (by kernel_rfl) rfl vs w,(Q0 H (by omega) _ _ _ _ _ _ rfl).mono ?_⟩;rintro b w'⟨a,L,h⟩;refine⟨a, ?_⟩;rw[lM,ae d,ah e];exact⟨_,_,_,h⟩
 by_cases j:t.kind=2∨t.kind=3
 ·refine⟨41,by rcases j with h|h<;>rw[h]<;>rfl,fun vs w=>cP Tryz.func41 (by kernel_rfl) rfl vs w,(KI H (by omega) k y u i.at_).mono ?_⟩;rintro b w'⟨a,h⟩;refine⟨a, ?_⟩;rw[lM,ae d,ae e,ah j,Al];rw[Nx,zN] at h;exact Gm h (nv (nv (jH (eZ (by decide)) dI) (jH (eZ (by decide)) dI)) (Aj _ _))
 by_cases o:t.kind=5
 ·refine⟨42,by rw[o];rfl,fun vs w=>cP Tryz.func42 (by kernel_rfl) rfl vs w,(Nn H (by omega) (by omega) _ _ _ _ _).mono ?_⟩;rintro b w'⟨a,h⟩;refine⟨a, ?_⟩;rw[lM,ae d,ae e,ae j,ah o,Dw];rw[zN] at h;refine Gm ?_ (nv (jH dI (eZ (by decide))) (jH (eZ (by decide)) dI));rw[re,List.reverse_cons];exact h
 ·have s:t.kind=4∨t.kind=6:=by omega
  have B:=Jq x t;have D:x.below=[]→nw x.top (xl t)=true:=fun C=>by
   have c:=l.bot;rw[C] at c;have A:x.top.kind=1:=c;have I:3≤xl t:=by
    unfold xl;split
    ·exact(Kp t.name).1
    ·decide
   unfold nw;rw[A];exact bN (.inl (by omega))
  refine⟨43,by rcases s with h|h<;>rw[h]<;>rfl,fun vs w=>cP Tryz.func43 (by kernel_rfl) rfl vs w, ?_⟩;rw[lM,ae d,ae e,ae j,ae o,B];cases c:nw x.top (xl t) with
  |true=>refine(Jn (S:=re x) (E:=some (t.src,13)) H (by omega) k (fun _=>⟨rfl,rfl⟩) (fun h=>by rw[c] at h;cases h)).mono ?_;rintro b w'⟨a,h⟩;exact⟨a,by decide,_,h⟩
  |false=>
   cases p:x.below with
   |nil=>rw[D p] at c;cases c
   |cons z r=>refine(Jn (S:=re ⟨fV z x.top,r⟩) (E:=none) H (by omega) k (fun h=>by rw[c] at h;cases h) (fun _=>⟨r.reverse,z,by rw[p,List.reverse_cons],bP (l.kids z (by rw[p];simp)) q,rfl,rfl⟩)).mono ?_;rintro b w'⟨a,h⟩;exact⟨a,h⟩
end
