/- What a step of the parser does with a token. -/
import Derived.Test.YtlemddnecmmfgaaGreatDoorJan
set_option linter.unusedVariables false
set_option maxRecDepth 100000
set_option maxHeartbeats 4000000
namespace Go.Proofs.YtlemddnecmmfgaaGreatDoor
open Go.RowKit
def Nr(n:Nat):Bs→Option (Nat×Int)
 |[]=>none
 |c::r=>some (n-(c::r).length,13)
def Gj(y:Nd)(t:Tok):Option (Nat×Int):=if y.kind≠7∧y.kind≠10 then none else Nr t.bJ (t.text.dropWhile mE)
def KJ(l:List Nd)(y:Nd)(t:Tok):List Nd:=if y.kind≠7∧y.kind≠10 then l++[fV y (.mk 2 t.src t.text [] [])] else l++[y]
section
variable{lo:KB}{w0 W W':aaK}{pb:Nat}{ov:aaL}{st:List Nd}{kvs ys:List aaL}{place e:Int}
theorem Ns{l:List Nd}{y:Nd}(H:PK lo w0 W pb ov (l++[y]) kvs ys 0 0)(hl:l.length≤100)(hk:y.kids.length≤1000000){t:Tok}{ta:Option Addr}{B tc:Nat}(ht:t.text.length≤t.bJ)(am:t.bJ≤1000000):
 Calls Tryz.prog 39 #[.pointer (some ⟨pb,0,none⟩),.agg #[.int .i64 t.kind,.string ⟨t.name.toArray⟩,.slice ta B tc,.string ⟨t.text.toArray⟩,.int .i64 t.src,.int .i64 t.bJ]] W
  fun d w'=>d=.returned (.tuple #[])∧gV lo w0 w' pb (KJ l y t) (pE (Gj y t)) (eE (Gj y t)):=by
 obtain⟨g,cap,a,c,kv,xs,ks,zs,T,-⟩:=H.oM;have hA:Below W.heap.size W (W.alloc (.cells (ei t.kind t.name (.slice ta B tc) t.text t.src t.bJ).toArray 76)):=(ar _ _).alloc (ag _) _;have G:Hid (PK lo w0 _ pb ov (l++[y]) kvs ys (pE none) (eE none)):=ad (H.next hA);have J:=ad (au W (.cells (ei t.kind t.name (.slice ta B tc) t.text t.src t.bJ).toArray 76));have HO:=ad T;have HT:=ad (pX G.o T (by omega));obtain⟨S,N⟩:∃S,KJ l y t=S:=⟨_,rfl⟩;obtain⟨E,M⟩:∃E,Gj y t=E:=⟨_,rfl⟩;rw[N,M];have K:=ad N;have C:=ad M;have q:=ad (And.intro hl (And.intro hk (And.intro ht am)));clear H T hA hl hk ht am N M;go_enter Tryz.func39,Tryz.ntmps39;go_upto_region 1 with fail;generalize W.alloc (.cells (ei t.kind t.name (.slice ta B tc) t.text t.src t.bJ).toArray 76)=W1 at*;generalize W.heap.size=aU at*;go_wp2_with fail;refine HT.o.m ?_;rintro d Y⟨rfl,O⟩;have p:=ad (G.o.next O);have u:=ad ((O.block _ (aB.1 J.o).1).t J.o);obtain⟨g',aN,a',c',a1,a2,a0,a3,V,-,-,-,F,-,-⟩:=p.o.oM;have aq:g'=g:=by rw[HO.o] at V;injection V with b A q3;injection b with b;injection b with b;exact b.symm
 subst aq;have k0:=F.c0;obtain⟨x3,x4,x5⟩:=qX3 (aj u.o) 3 4 5;obtain⟨i,X⟩:∃n,y.kind=n:=⟨_,rfl⟩;have L:=ad X;rw[X] at k0;clear O G J HT F V X;by_cases e:i≠7∧i≠10
 ·have k:=ad (show l++[fV y (.mk 2 t.src t.text [] [])]=S by rw[←K.o,KJ,ah (by rw[L.o];exact e)]);have j:=ad (show none=E by rw[←C.o,Gj,ah (by rw[L.o];exact e)]);have Z:=ad (BH (z:=.mk 2 t.src t.text [] []) (za:=none) (zc:=0) (zb:=none) (zn:=0) (zd:=0) p.o (by have:=q.o.1;omega) (by have:=q.o.2.1;omega) (mJ.2 ⟨_,_,rfl,.inl ⟨rfl,none,0,rfl⟩,.inl ⟨rfl,none,0,rfl⟩⟩));have an:Hid (Calls Tryz.prog 78 #[.pointer (some ⟨pb,0,none⟩),.agg #[.int .i64 2,.int .i64 t.src,.string ⟨t.text.toArray⟩,.slice none 0 0,.slice none 0 0]] Y fun d w'=>d=.returned (.tuple #[])∧gV lo w0 w' pb S (pE E) (eE E)):=ad (by have h:=Z.o;rw[k.o,j.o] at h;refine h.m ?_;rintro d w'⟨h1,av,ay,h2⟩;exact⟨h1,ov,av,ay,h2⟩)
  have b:=eS e.1;have A:=eS e.2;have q3:(i !=7)=true:=by rw[bne,b];rfl
  have q4:(i !=10)=true:=by rw[bne,A];rfl
  clear Z k j e b A;go_wp2_with fail;refine an.o.m ?_;rintro d w7⟨rfl,h7⟩;have H7:=ad h7;clear h7;go_wp2_with fail
  (try simp only[Exit.inBlock,Exit.then])
  exact aD (results_none rfl _ _ _) rfl ⟨rfl,H7.o⟩
 ·have R:¬(y.kind≠7∧y.kind≠10):=by rw[L.o];exact e
  have k:=ad (show l++[y]=S by rw[←K.o,KJ,ae R]);obtain⟨D,w⟩:∃D,t.text.dropWhile mE=D:=⟨_,rfl⟩;have j:=ad (show Nr t.bJ D=E by rw[←C.o,Gj,ae R,w]);have af:=ad (fw ⟨t.text.toArray⟩ ⟨#[32,9,10,13]⟩ Y (by decide) Ds);rw[Dt,w] at af;have aa:=ad (show D.length≤t.bJ by rw[←w];exact bP (cB mE _) q.o.2.2.1);clear R w K C;have ai:i=7∨i=10:=by omega
  clear e;go_upto_region 2 with fail
  go_cut [16] (fun s wx=>s=.bool false∧Y=wx)
  case first=>
   rcases ai with h|h
   ·subst h;go_wp2_with fail
    go_meet
    exact⟨rfl,rfl⟩
   ·have q3:(i !=7)=true:=by rw[h];rfl
    subst h;go_wp2_with fail
    go_meet
    exact⟨rfl,rfl⟩
  case rest=>
   obtain⟨rfl,rfl⟩:=hcut;clear ai k0;go_wp2_with fail;refine af.o.m ?_;rintro d w3⟨rfl,Q⟩;have ac:=ad (p.o.next Q);have ap:=ad ((Q.block _ (aB.1 u.o).1).t u.o);clear x3 x4 x5 Q p u;have x5:=aj ap.o 5;by_cases x:D=[]
   ·subst x;have I:Hid (gV lo w0 w3 pb S (pE E) (eE E)):=ad (by rw[←k.o,←j.o];exact⟨_,_,_,ac.o⟩);go_wp2_with fail
    go_end0
    exact⟨rfl,I.o⟩
   ·have b:(D==[])=false:=aL.2 x;have A:(D !=[])=true:=by rw[bne,b];rfl
    obtain⟨n,hn⟩:∃n,D.length=n:=⟨_,rfl⟩;have ab:=ad (iK ac.o dI (t.bJ-n) 13);have ao:=ad (show mD none (some (t.bJ-n,(13:Int)))=E by
     rw[←j.o,←hn];cases D with
     |nil=>exact absurd rfl x
     |cons c r=>rfl)
    rw[ao.o,k.o,show((t.bJ-n:Nat):Int)=(t.bJ:Int)-(n:Int) by have:=aa.o;omega] at ab;have i1:(t.bJ:Int)≤1000000:=by have:=q.o.2.2.2;omega
    have i2:(n:Int)≤(t.bJ:Int):=by have:=aa.o;omega
    have i3:(0:Int)≤(n:Int):=by omega
    clear x
    go_upto_if 28 with fail
    go_wp2_with fail;refine ab.o.m ?_;rintro d w4⟨rfl,al,-⟩;have I:Hid (gV lo w0 w4 pb S (pE E) (eE E)):=ad ⟨_,_,_,al⟩;clear al;go_wp2_with fail
    go_end0
    exact⟨rfl,I.o⟩
end
variable{d M:Int}
theorem Wx(x y z:aaL)(W:aaK):(Instr.field 143 (.agg #[x,y,z]) 0).run Tryz.prog W=.ok x W:=by kernel_rfl
def xl(t:Tok):Int:=if t.kind=4 then kindOf t.name else 14
def nw(y:Nd)(k:Int):Bool:=decide (y.kind≠k∨(k=7∧Xs y≠9)∨(k=10∧Xs y=0))
theorem WZ(h:¬d=M):(d !=M)=true:=by rw[bne,eS h];rfl
theorem Vb(h:d=M):(d !=M)=false:=by rw[bne,jY h];rfl
section
variable{lo:KB}{w0 W W':aaK}{pb:Nat}{ov:aaL}{st:List Nd}{kvs ys:List aaL}{place e:Int}
theorem Jn{l:List Nd}{y:Nd}(ac:PK lo w0 W pb ov (l++[y]) kvs ys 0 0)(hl:l.length≤100)(hk:y.kids.length≤1000000){t:Tok}{ta:Option Addr}{tn tc:Nat}{S:List Nd}{E:Option (Nat×Int)}
 (X:nw y (xl t)=true→S=l++[y]∧E=some (t.src,13))(Y:nw y (xl t)=false→∃ab z,l=ab++[z]∧z.kids.length≤1000000∧S=ab++[fV z y]∧E=none):
 Calls Tryz.prog 43 #[.pointer (some ⟨pb,0,none⟩),.agg #[.int .i64 t.kind,.string ⟨t.name.toArray⟩,.slice ta tn tc,.string ⟨t.text.toArray⟩,.int .i64 t.src,.int .i64 t.bJ]] W
  fun B w'=>B=.returned (.tuple #[])∧gV lo w0 w' pb S (pE E) (eE E):=by
 obtain⟨g,cap,a,c,kv,xs,ks,zs,ho,-⟩:=ac.oM;have hA:Below W.heap.size W (W.alloc (.cells (ei t.kind t.name (.slice ta tn tc) t.text t.src t.bJ).toArray 76)):=(ar _ _).alloc (ag _) _;have r:Hid (PK lo w0 _ pb ov (l++[y]) kvs ys (pE none) (eE none)):=ad (ac.next hA);have u:=ad (au W (.cells (ei t.kind t.name (.slice ta tn tc) t.text t.src t.bJ).toArray 76));have N:=ad ho;have HG:=ad (ac.own.lt g (by rw[ho];rfl));have ap:=ad (fun w=>Nh w t.name);obtain⟨k,aU⟩:∃k,xl t=k:=⟨_,rfl⟩;rw[aU] at X Y;have ao:=ad aU;obtain⟨bad,av⟩:∃b,nw y k=b:=⟨_,rfl⟩;rw[av] at X Y;have HB:=ad av;have H1:=ad X;have H2:=ad Y;have aa:=ad (And.intro hl hk);clear ac ho hA hl hk X Y av aU;go_enter Tryz.func43,Tryz.ntmps43;go_upto_region 1 with fail;generalize W.alloc (.cells (ei t.kind t.name (.slice ta tn tc) t.text t.src t.bJ).toArray 76)=W1 at*;generalize bs:W.heap.size=d at*;clear bs;have x0:=aj u.o 0
 go_upto_if 8 with fail
 go_cut [4] (fun s wx=>s=.int .i64 k∧Hid (PK lo w0 wx pb ov (l++[y]) kvs ys (pE none) (eE none))∧Hid (wx.heap[d]? =some (.cells (ei t.kind t.name (.slice ta tn tc) t.text t.src t.bJ).toArray 76)))
 case first=>
  by_cases Z:t.kind=4
  ·have an:=ad (show kindOf t.name=k by rw[←ao.o,xl,ah Z]);have h:=jY Z;have x1:=aj u.o 1;rw[an.o] at ap;clear Z;go_wp2_with fail;refine(ap.o W1).m ?_;rintro B K⟨J,ev,rfl,-⟩;have j:=ad (r.o.next J);have G:=ad ((J.block _ (aB.1 u.o).1).t u.o);clear J x0 x1 h;have b5:=Wx;go_wp2_with fail
   go_meet
   exact⟨rfl,j,G⟩
  ·have an:=ad (show(14:Int)=k by rw[←ao.o,xl,ae Z]);have h:=eS Z;clear Z;go_wp2_with fail
   go_meet
   exact⟨by rw[an.o],r,u⟩
 case rest=>
  clear r u x0 ap ao;obtain⟨rfl,r,u⟩:=hcut;have V:=ad (pX r.o N.o (by have:=aa.o.1;omega));have ai:=ad (fun v (hb:Below _ _ v)=>Dm (r.o.next hb) (by have:=aa.o.1;omega) (by have:=aa.o.2;omega));obtain⟨lk,a0⟩:∃n,Xs y=n:=⟨_,rfl⟩;obtain⟨yk,a3⟩:∃n,y.kind=n:=⟨_,rfl⟩;rw[a0] at ai;have A:=ad (show decide (yk≠k∨(k=7∧lk≠9)∨(k=10∧lk=0))=bad by rw[←HB.o,nw,a0,a3]);have bo:=ad a3;clear a0 a3 HB;go_upto_region 4 with fail
  go_cut [37] (fun s wx=>s=.bool bad∧Hid (PK lo w0 wx pb ov (l++[y]) kvs ys (pE none) (eE none))∧Hid (wx.heap[d]? =some (.cells (ei t.kind t.name (.slice ta tn tc) t.text t.src t.bJ).toArray 76)))
  case first=>
   go_wp2_with fail;refine V.o.m ?_;rintro B K⟨rfl,J⟩;have j:=ad (r.o.next J);have G:=ad ((J.block _ (aB.1 u.o).1).t u.o);obtain⟨g',bp,a',c',bx,b1,bv,b3,R,-,-,-,F,-,-⟩:=j.o.oM;have aN:g'=g:=by rw[N.o] at R;injection R with h q2 M;injection h with h;injection h with h;exact h.symm
   subst aN;have T:=F.c0;rw[bo.o] at T;have af:=ad (ai.o K J);clear J r u V F R ai;by_cases i:yk=k
   ·by_cases x:k=7
    ·by_cases C:lk=9
     ·have H:=ad (show bad=false by rw[←A.o];simp[i,x,C]);have h:=Vb i;have q2:=jY x;have M:=Vb C;have q4:(k==10)=false:=eS (by omega);clear i x C A;go_wp2_with fail;refine af.o.m ?_;rintro B w3⟨rfl,q⟩;have D:=ad (j.o.next q);have O:=ad ((q.block _ (aB.1 G.o).1).t G.o);clear q T;go_wp2_with fail
      go_meet
      exact⟨by rw[H.o],D,O⟩
     ·have H:=ad (show bad=true by rw[←A.o];simp[i,x,C]);have h:=Vb i;have q2:=jY x;have M:=WZ C;clear i x C A;go_wp2_with fail;refine af.o.m ?_;rintro B w3⟨rfl,q⟩;have D:=ad (j.o.next q);have O:=ad ((q.block _ (aB.1 G.o).1).t G.o);clear q T;go_wp2_with fail
      go_meet
      exact⟨by rw[H.o],D,O⟩
    ·by_cases L:k=10
     ·by_cases C:lk=0
      ·have H:=ad (show bad=true by rw[←A.o];simp[i,L,C]);have h:=Vb i;have q2:=eS x;have M:=jY L;have q4:=jY C;clear i x C L A;go_wp2_with fail;refine af.o.m ?_;rintro B w3⟨rfl,q⟩;have D:=ad (j.o.next q);have O:=ad ((q.block _ (aB.1 G.o).1).t G.o);clear q T;go_wp2_with fail
       go_meet
       exact⟨by rw[H.o],D,O⟩
      ·have H:=ad (show bad=false by rw[←A.o];simp[i,L,C]);have h:=Vb i;have q2:=eS x;have M:=jY L;have q4:=eS C;clear i x C L A;go_wp2_with fail;refine af.o.m ?_;rintro B w3⟨rfl,q⟩;have D:=ad (j.o.next q);have O:=ad ((q.block _ (aB.1 G.o).1).t G.o);clear q T;go_wp2_with fail
       go_meet
       exact⟨by rw[H.o],D,O⟩
     ·have H:=ad (show bad=false by rw[←A.o];simp[i,x,L]);have h:=Vb i;have q2:=eS x;have M:=eS L;clear i x L A;go_wp2_with fail
      go_meet
      exact⟨by rw[H.o],j,G⟩
   ·have H:=ad (show bad=true by rw[←A.o];simp[i]);have h:=WZ i;clear i A;go_wp2_with fail
    go_meet
    exact⟨by rw[H.o],j,G⟩
  case rest=>
   clear r u V ai A;obtain⟨rfl,r,u⟩:=hcut;cases bad
   ·obtain⟨ab,z,Q,am,hS,hE⟩:=H2.o rfl;have V:=ad (pX r.o N.o (by have:=aa.o.1;omega));have bm:=ad (And.intro Q (And.intro am (And.intro hS hE)));clear Q am hS hE H1 H2;go_upto_region 6 with fail;go_wp2_with fail;refine V.o.m ?_;rintro B K⟨rfl,J⟩;have j:=ad (r.o.next J);obtain⟨g',bp,a',c',bx,b1,bv,b3,R,-,-,-,F,-,-⟩:=j.o.oM;have aN:g'=g:=by rw[N.o] at R;injection R with h q2 M;injection h with h;injection h with h;exact h.symm
    subst aN;obtain⟨b',d',rfl,-⟩:=mK F.own;have T:=F.c0;have k1:=F.c1;have k2:=F.c2;have k3:=F.c3;have k4:=F.c4;have hA3:Below K.heap.size K (K.alloc (.cells (eH y.kind y.place y.text (.slice a' y.attrs.length c') (.slice b' y.kids.length d')).toArray 37)):=(ar _ _).alloc (ag _) _;have D:=ad (j.o.next hA3);have a4:=ad (au K (.cells (eH y.kind y.place y.text (.slice a' y.attrs.length c') (.slice b' y.kids.length d')).toArray 37));have ay:g'<K.heap.size:=(j.o.own.lt g' (by rw[N.o];rfl)).2;have bg:=(hA3.cell (p:=⟨g',l.length*5+3,none⟩) ay).t k3;have bi:=(hA3.cell (p:=⟨g',l.length*5+4,none⟩) ay).t k4;have bn:=ad (show pb<K.heap.size from j.o.lt);clear J r u V F R hA3 ay;go_upto_region 7 with fail;generalize K.alloc (.cells #[.int .i64 y.kind,.int .i64 y.place,.string ⟨y.text.toArray⟩,.slice a' y.attrs.length c',.slice b' y.kids.length d'] 37)=I at*;generalize K.heap.size=nb at*;clear T k1 k2 k3 k4 j;obtain⟨a2,c2,b7,b6,b8,be,M,q4,bd⟩:=D.o.pop N.o;have e3:=iS (M.symm.t bg);have e4:=iS (q4.symm.t bi);injection e3 with e3 _ e5;subst e3;subst e5;subst e4;have a5:=ad (And.intro be bd);have c0:=D.o.box.c.c0;have br:=D.o.box.c.f0;rw[N.o] at c0;have i1:l.length≤1000:=by have:=aa.o.1;omega
    have i2:(0:Int)≤(l.length:Int):=by omega
    have i3:(l.length:Int)+1-1=(l.length:Int):=by omega
    have i4:IntKind.i64.wrap (l.length:Int)=(l.length:Int):=IntWalk.i64_in _ (by omega);have i5:(l.length:Int)≤(cap:Int):=by obtain⟨g5,b4,h5,-,-,-,h6,-⟩:=D.o.slice (by simp);rw[N.o] at h5;injection h5 with _ _ x;rw[show(l++[y]).length=l.length+1 by simp] at h6;omega
    clear M q4 bg bi be bd;go_region;obtain⟨Q,am,hS,hE⟩:=bm.o;have aq:Below (I.setCell ⟨pb,0,none⟩ (.slice (some ⟨g',0,none⟩) l.length cap)).heap.size (I.setCell ⟨pb,0,none⟩ (.slice (some ⟨g',0,none⟩) l.length cap)) (I.setCell ⟨pb,0,none⟩ (.slice (some ⟨g',0,none⟩) l.length cap)).drew:=ax (I.setCell ⟨pb,0,none⟩ (.slice (some ⟨g',0,none⟩) l.length cap)) 1;have bf:ak pb I (I.setCell ⟨pb,0,none⟩ (.slice (some ⟨g',0,none⟩) l.length cap)):=(ak.refl pb I).set;have bb:=(aB.1 a4.o).1;have a9:(I.setCell ⟨pb,0,none⟩ (.slice (some ⟨g',0,none⟩) l.length cap)).drew.heap[nb]? =_:=(bf.block nb bb (by intro e;injection e with e;have:=bn.o;omega)).t a4.o;have al:=a5.o.1.next aq
    have a1:=a5.o.2.next aq
    have a7:(ab++[z]).length=l.length:=by rw[Q]
    have a8:ab.length≤1000:=by rw[Q] at i1;simp at i1;omega
    have bk:Hid (Calls Tryz.prog 78 #[.pointer (some ⟨pb,0,none⟩),.agg #[.int .i64 y.kind,.int .i64 y.place,.string ⟨y.text.toArray⟩,.slice a2 y.attrs.length c2,.slice b' y.kids.length d']] (I.setCell ⟨pb,0,none⟩ (.slice (some ⟨g',0,none⟩) l.length cap)).drew fun B w'=>B=.returned (.tuple #[])∧gV lo w0 w' pb S (pE E) (eE E)):=ad (by rw[hS,hE];generalize(I.setCell ⟨pb,0,none⟩ (.slice (some ⟨g',0,none⟩) l.length cap)).drew=W4 at*;rw[←a7] at al a1;rw[Q] at al;refine(BH al a8 (by omega) a1).m ?_;rintro B w'⟨X,b0,b2,Y⟩;exact⟨X,_,b0,b2,Y⟩)
    clear aq bf bb al a1 a7 a8 Q am hS hE;generalize(I.setCell ⟨pb,0,none⟩ (.slice (some ⟨g',0,none⟩) l.length cap)).drew=W4 at*;obtain⟨n0,n1,n2,n3,n4⟩:=qX5 (aj a9) 0 1 2 3 4;clear a9 c0 br i1 i2 i3 i4 i5;go_wp2_with fail;refine bk.o.m ?_;rintro B w5⟨rfl,h5⟩;have HP:=ad h5;clear h5 n0 n1 n2 n3 n4;go_wp2_with fail
    go_end0
    exact⟨rfl,HP.o⟩
   ·obtain⟨rfl,rfl⟩:=H1.o rfl;have bl:=ad (iK r.o dI t.src 13);have x4:=aj u.o 4;go_wp2_with fail;refine bl.o.m ?_;rintro B w3⟨rfl,a6,-⟩;have HP:Hid (gV lo w0 w3 pb (l++[y]) (pE (some (t.src,13))) (eE (some (t.src,13)))):=ad ⟨_,_,_,a6⟩;clear a6;go_wp2_with fail
    (try simp only[Exit.inBlock,Exit.then])
    exact aD (results_none rfl _ _ _) rfl ⟨rfl,HP.o⟩
end
variable{G:List (Int×aaL)}{a:Nat}{d:aaK}
def TX(l:List (Int×aaL)):List (aaL×aaL):=l.map fun p=>(.int .i64 p.1,p.2)
def BK(W:aaK)(b:Nat)(l:List (Int×aaL)):Prop:=∃es clock,W.heap[b]? =some (.map es clock)∧es.toList.map (fun e=>(e.key,e.val))=TX l
def tQ(l:List (Int×aaL))(k:Int):Option aaL:=(l.find? (·.1==k)).map (·.2)
theorem Q5:Tryz.prog.underlying 3=some (.int .i64):=by kernel_rfl
theorem Nt(W:aaK):BK (W.alloc (.map #[] 0)) W.heap.size []:=⟨#[],0,(MapKept.heap_alloc W _).1,rfl⟩
theorem oN(k:Int):∀(es:List MapEntry) (l:List (Int×aaL)) (i:Nat),es.map (fun e=>(e.key,e.val))=TX l→
 ∃r,Instr.findNow (.int .i64) (.int .i64 k) es i=some r∧r.map (·.2)=tQ l k
 |[],[],i,_=>⟨none,rfl,rfl⟩
 |[],p::l,i,h=>by simp[TX] at h
 |e::es,[],i,h=>by simp[TX] at h
 |e::es,p::l,i,h=>by
  simp only[TX,kg,Xy,kj] at h;obtain⟨⟨c,m⟩,d⟩:=h;obtain⟨r,a,b⟩:=oN k es l (i+1) d;have j:Instr.sameNow (.int .i64) (.int .i64 k) e.key=some (p.1==k):=by rw[c];show(if IntKind.i64=IntKind.i64 then some (k==p.1) else none)=_;rw[ah rfl];congr 1;rw[gf];simp only[bZ];exact⟨Eq.symm,Eq.symm⟩
  unfold Instr.findNow;rw[j];unfold tQ;rw[uH];cases n:(p.1==k)
  ·exact⟨r,a,b⟩
  ·exact⟨some (i,e.val),rfl,by simp[m]⟩
theorem Nu(h:BK d a G)(T e:TypeId)(o:Tryz.prog.underlying T=some (.map 3 e))(k:Int)(v:aaL)(s:tQ G k=none):
 ∃W',(Instr.mapUpdate T (.map (some a)) (.int .i64 k) v).run Tryz.prog d=.ok () W'∧BK W' a (G++[(k,v)])∧QP a d W':=by
 obtain⟨es,clock,c,m⟩:=h;obtain⟨r,n,i⟩:=oN k es.toList G 0 m;rw[s] at i;cases r with
 |some x=>cases i
 |none=>
 have p:=MapKept.run_checkKey (P:=Tryz.prog) (w:=d) Q5 (k:=.int .i64 k) rfl false 9999;refine⟨d.putObj a (.map (es.push {key:=.int .i64 k,val:=v,born:=clock}) (clock+1)), ?_,⟨_,_,wK ((aB.1 c).1), ?_⟩, ?_⟩
 ·unfold Instr.mapUpdate;simp[run_underlying o,MapKept.run_getObj_map c,p,MapKept.run_findKey Q5 n,MapKept.run_setObj_map _ c,Result.andThen,World.putObj]
 ·rw[Array.toList_push,List.map_append,m];simp[TX]
 ·exact⟨rfl,rfl,rfl,by simp,fun j q=>Xv q⟩
theorem Nv(h:BK d a G)(T e:TypeId)(j:Tryz.prog.underlying T=some (.map 3 e))(k:Int)(v:aaL)(q:tQ G k=some v):
 (Instr.lookup T (.map (some a)) (.int .i64 k) false).run Tryz.prog d=.ok v d:=by
 obtain⟨es,clock,m,o⟩:=h;obtain⟨r,i,c⟩:=oN k es.toList G 0 o;have n:=MapKept.run_checkKey (P:=Tryz.prog) (w:=d) Q5 (k:=.int .i64 k) rfl es.isEmpty 9999;unfold Instr.lookup;rw[q] at c;have p:=MapKept.run_findKey (w:=d) (P:=Tryz.prog) Q5 i;cases r with
 |none=>cases c
 |some x=>obtain rfl:x.2=v:=iS c;simp[run_underlying j,MapKept.run_getObj_map m,n,p,Result.andThen]
theorem dW{ops:Array Oper}{rest:List Oper}{o:Oper}{a:Act}{Q:Exit→Act→aaK→Prop}(n:o.guard=none)(m x v:Operand)(T:TypeId)(r:o.op=Op.insert T m x v)
 (e:TypeId)(j:Tryz.prog.underlying T=some (.map 3 e))(b:Nat)(l:List (Int×aaL))(q:a.eval m=.map (some b))(h:BK d b l)(k:Int)(val:aaL)(u:a.eval x=.int .i64 k)(t:a.eval v=val)
 (p:tQ l k=none)
 (c:∀W',BK W' b (l++[(k,val)])→QP b d W'→wpList Tryz.prog ops Q rest (a.put o.dst undef) W'):
 wpList Tryz.prog ops Q (o::rest) a d:=by
 refine wpList_plain n fun z i=> ?_;obtain⟨W',s,w,y⟩:=Nu h T e j k val p;unfold Oper.wp;simp[execOp,r,q,u,t,s,Result.andThen];exact i _ _ (c W' w y)
def Q6(f:FuncId):aaL:=.agg #[.func (.func f) #[] #[]]
def Nw:List (Int×aaL):=[(1,Q6 39),(7,Q6 40),(2,Q6 41),(3,Q6 41),(5,Q6 42),(4,Q6 43),(6,Q6 43)]
theorem uR:Tryz.prog.underlying 73=some (.map 3 79):=by kernel_rfl
theorem KK(w:aaK):Calls Tryz.prog 22 #[] w (fun e w'=>e=.returned (.map (some w.heap.size))∧BK w' w.heap.size Nw∧Below w.heap.size w w'):=by
 have G:=@run_makeMap Tryz.prog;have m:=Nt w;have b:Below w.heap.size w (w.alloc (.map #[] 0)):=(ar _ _).alloc (ag _) _;go_enter Tryz.func22,Tryz.ntmps22;go_wp2_with (first
  |(refine dW rfl _ _ _ _ rfl _ uR w.heap.size _ rfl m _ _ rfl rfl (by rfl) ?_;intro A n c;clear m)
  |(refine dW rfl _ _ _ _ rfl _ uR w.heap.size _ rfl n _ _ rfl rfl (by rfl) ?_;intro B p d;clear n)
  |(refine dW rfl _ _ _ _ rfl _ uR w.heap.size _ rfl p _ _ rfl rfl (by rfl) ?_;intro C q h;clear p)
  |(refine dW rfl _ _ _ _ rfl _ uR w.heap.size _ rfl q _ _ rfl rfl (by rfl) ?_;intro D r i;clear q)
  |(refine dW rfl _ _ _ _ rfl _ uR w.heap.size _ rfl r _ _ rfl rfl (by rfl) ?_;intro E s j;clear r)
  |(refine dW rfl _ _ _ _ rfl _ uR w.heap.size _ rfl s _ _ rfl rfl (by rfl) ?_;intro F u k;clear s)
  |(refine dW rfl _ _ _ _ rfl _ uR w.heap.size _ rfl u _ _ rfl rfl (by rfl) ?_;intro a x l;clear u)
  |fail)
 have z:=ad (show Below w.heap.size w a from((((((b.t (c.below (ag _))).t (d.below (ag _))).t (h.below (ag _))).t (i.below (ag _))).t (j.below (ag _))).t (k.below (ag _))).t (l.below (ag _)));have y:=ad (show BK a w.heap.size Nw from x);clear x b c d h i j k l;go_wp2_with fail;go_ret;exact⟨rfl,y.o,z.out⟩
end Go.Proofs.YtlemddnecmmfgaaGreatDoor
namespace Go.Proofs.YtlemddnecmmfgaaGreatDoor
open Go.Lib
variable{d e:Bs}{p:Int}{l:List Tok}{y:List bQ}{b n k:Nat}{B:Tok}
structure vO (n:Nat) (t:Tok):Prop where
 src:t.src≤n
 bJ:t.bJ≤n
 sr:t.text.length≤t.bJ
 at_:∀a∈t.attrs,0≤a.place
 kd:1≤t.kind∧t.kind≤7
 al:t.attrs.length≤n+1
theorem qd{i j:Nat}(h:i≤b)(m:j≤b)(q:∀a∈y,0≤a.place)(o:1≤p∧p≤7)(c:y.length≤b+1):vO b (cS d p e y i j):=
 ⟨h,m,by show(GO d i j).length≤j;unfold GO;rw[gu];omega,q,o,c⟩
theorem Oh{a:bQ}(h:fU d b n y=.aq a k):0≤a.place:=by
 unfold fU at h;dsimp only at h
 repeat' split at h
 all_goals first
  |(cases h;done)
  |(cases h;exact Int.natCast_nonneg _)
theorem Ay{s:Bs}{tag:Nat}:∀(f i:Nat) (l:List bQ) {d:List bQ} {j:Nat},(∀a∈l,0≤a.place)→cE s tag f i l=.aq d j→∀a∈d,0≤a.place
 |0,i,l,d,j,_,h=>by unfold cE at h;cases h
 |f+1,i,l,d,j,e,h=>by
  unfold cE at h;dsimp only at h;split at h
  ·cases h
  ·split at h
   ·cases h;exact e
   ·split at h
    ·cases h
    ·split at h
     ·cases h
     ·rename_i a t k;refine Ay f t (l++[a]) (fun b c=> ?_) h;rcases gZ.1 c with c|c
      ·exact e b c
      ·rw[fj.1 c];exact Oh k
theorem tX{s:Bs}{tag:Nat}:∀(f i:Nat) (l:List bQ) {b:List bQ} {j:Nat},cE s tag f i l=.aq b j→b.length≤l.length+f
 |0,i,l,b,j,h=>by unfold cE at h;cases h
 |f+1,i,l,b,j,h=>by
  unfold cE at h;dsimp only at h;split at h
  ·cases h
  ·split at h
   ·cases h;omega
   ·split at h
    ·cases h
    ·split at h
     ·cases h
     ·rename_i a t c;have:=tX f t (l++[a]) h;rw[bB,mF] at this;omega
theorem D1{j:Nat}(w:b≤d.length)(u:∀a∈y,0≤a.place)(q:1≤p∧p≤7)(i:y.length≤d.length+1)(h:gv d b e y p j=.aq B n):vO d.length B:=by
 unfold gv at h;split at h
 ·cases h
 ·rename_i c r o;split at h
  ·cases h;exact qd w (by have:=ku o;omega) u q i
  ·cases h
theorem Uj(p:b≤d.length)(h:qw d b e n=.aq B k):vO d.length B:=by
 unfold qw at h;split at h
 ·cases h
 ·rename_i l j c;have o:=Ay _ _ _ (fun a h=>by cases h) c;split at h
  ·exact D1 p o (by decide) (by have:=tX _ _ _ c;simpa using this) h
  ·exact D1 p o (by decide) (by have:=tX _ _ _ c;simpa using this) h
theorem RD(l:b≤d.length)(j:n≤d.length)(h:iU d e b n=.aq B k):vO d.length B:=by
 have c:=wU (nm:=e) l j;rw[h] at c;unfold iU at h;dsimp only at h;split at h
 ·cases h
 ·split at h
  ·cases h
  ·cases h;exact qd j c.2 (fun a h=>by cases h) (by decide) (aH _)
theorem Oi(x:b+5≤d.length)(h:dB d b=.aq l n):(∀t∈l,vO d.length t)∧l.length≤2:=by
 unfold dB at h;dsimp only at h;split at h
 ·split at h
  ·cases h
  ·rename_i t j p;have c:=Uj (by omega) p;have o:oH d.length _ (qw d b _ _):=wT (s:=d) (tag:=b) (nm:=(d.drop (b+5)).take (db d (b+5))) (i:=b+5+db d (b+5)) (by omega) (iI d x);rw[p] at o;split at h
   ·split at h
    ·cases h
    ·rename_i r k w;have q:=RD (by omega) o.2 w;cases h;refine⟨fun u a=> ?_,by simp⟩;rcases bL.1 a with e|a
     ·rw[e];exact c
     ·rw[fj.1 a];exact q
   ·cases h;exact⟨fun u a=>by rw[fj.1 a];exact c,by simp⟩
 ·cases h
theorem K8(j:b+6≤d.length)(h:de d b=.aq l n):(∀t∈l,vO d.length t)∧l.length≤2:=by
 unfold de at h;dsimp only at h;split at h
 ·split at h
  ·cases h
  ·rename_i c r e;split at h
   ·cases h;exact⟨fun u i=>by rw[fj.1 i];exact qd (by omega) (by have:=ku e;omega) (fun a h=>by cases h) (by decide) (aH _),by simp⟩
   ·cases h
 ·cases h
theorem Oj{hid:Option Nat}{x:List Tok×Option Nat}(p:b<d.length)(q:dw (d.drop b) hid.isSome≠0)(h:fq d (dw (d.drop b) hid.isSome) b hid=.aq x n):(∀t∈x.1,vO d.length t)∧x.1.length≤2:=by
 obtain⟨r,w,y,z⟩:=pS (hid:=hid.isSome) p;have o:=mH p q;rw[h] at o;unfold fq at h;split at h
 ·rename_i c;split at h
  ·cases h
  ·rename_i l j e;cases h;exact Oi (r c) e
 ·split at h
  ·rename_i c;split at h
   ·cases h
   ·rename_i l j e;cases h;exact K8 (w c) e
  ·split at h
   ·rename_i c;split at h
    ·cases h
    ·cases h;exact⟨fun u k=>by rw[fj.1 k];exact qd (by omega) (y c) (fun a h=>by cases h) (by decide) (aH _),by simp⟩
   ·cases h;exact⟨fun u k=>by rw[fj.1 k];exact qd (by omega) o.2 (fun a h=>by cases h) (by decide) (aH _),by simp⟩
theorem D4{s:Bs}{src i:Nat}(c:i≤s.length):(∀t∈dc s src i,vO s.length t)∧(dc s src i).length≤1:=by
 unfold dc;split
 ·exact⟨fun u b=>by rw[fj.1 b];exact qd (by omega) c (fun a h=>by cases h) (by decide) (aH _),by simp⟩
 ·exact⟨fun u b=>by simp at b,by simp⟩
theorem B5(s:Bs):∀(f src i:Nat) (hid:Option Nat) (l:List Tok) {c:List Tok} {m:Nat},i≤s.length→(∀t∈l,vO s.length t)→gS s f src i hid l=.aq c m→(∀t∈c,vO s.length t)∧c.length≤l.length+3*f
 |0,src,i,hid,l,c,m,_,_,h=>by unfold gS at h;cases h
 |f+1,src,i,hid,l,c,m,p,d,h=>by
  unfold gS at h;dsimp only at h;split at h
  ·rename_i e;split at h
   ·have:=B5 s f src (i+1) hid l e d h;exact⟨this.1,by omega⟩
   ·rename_i k;split at h
    ·cases h
    ·rename_i x j q;have n:=Oj e k q;have o:=mH e k;rw[q] at o;have b:=D4 (s:=s) (src:=src) p;have:=B5 s f j j x.2 (l++dc s src i++x.1) o.2 (fun t a=>by
      rcases gZ.1 a with a|a
      ·rcases gZ.1 a with a|a
       ·exact d t a
       ·exact b.1 t a
      ·exact n.1 t a) h
     refine⟨this.1, ?_⟩;have r:=this.2;rw[bB,bB] at r;have:=b.2;have:=n.2;omega
  ·have b:=D4 (s:=s) (src:=src) p;split at h
   ·cases h
   ·cases h;refine⟨fun t a=> ?_, ?_⟩
    ·rcases gZ.1 a with a|a
     ·exact d t a
     ·exact b.1 t a
    ·rw[bB];have:=b.2;omega
theorem Vj(h:lexB d=.aq l b):(∀t∈l,vO d.length t)∧l.length≤3*(d.length+1):=by have:=B5 d _ _ _ _ _ (aH _) (fun t h=>by cases h) h;exact⟨this.1,by simpa using this.2⟩
end Go.Proofs.YtlemddnecmmfgaaGreatDoor
namespace Go.Proofs.YtlemddnecmmfgaaGreatDoor
open Go.RowKit
variable{j a:Nat}{k:Nd}{d:Option (Nat×Int)}{B:Tok}{i H:rf}
def re(x:rf):List Nd:=x.below.reverse++[x.top]
def Q7(lo:KB)(w0 W:aaK)(pb:Nat):Px→Prop
 |.aq x=>gV lo w0 W pb (re x) 0 0
 |.bad p e=>e≠0∧∃st,gV lo w0 W pb st p e
structure tR (n:Nat) (x:rf):Prop where
 deep:x.below.length≤16
 kids:∀y∈x.top::x.below,y.kids.length≤n
 bot:QV x.top x.below
theorem Ak(y z:Nd):(fV y z).kids.length=y.kids.length+1:=by show(y.kids++[z]).length=_;simp
theorem Du(x:rf)(t:Tok):Dv x t=px (Gj x.top t) (if x.top.kind≠7∧x.top.kind≠10 then⟨fV x.top (.mk 2 t.src t.text [] []),x.below⟩ else x):=by
 unfold Dv Gj;split
 ·rfl
 ·cases t.text.dropWhile mE<;>rfl
theorem Q8(x:rf)(t:Tok):KJ x.below.reverse x.top t=re (if x.top.kind≠7∧x.top.kind≠10 then⟨fV x.top (.mk 2 t.src t.text [] []),x.below⟩ else x):=by unfold KJ;split<;>rfl
theorem Al(x:rf)(t:Tok):BL x t=px (Nq x.top x.below.length t) (if uQ t then⟨fV x.top (.mk (kindOf t.name) t.src [] t.attrs []),x.below⟩ else⟨.mk (kindOf t.name) t.src [] t.attrs [],x.top::x.below⟩):=rfl
theorem Nx(x:rf)(t:Tok):KH x.below.reverse x.top t=re (if uQ t then⟨fV x.top (.mk (kindOf t.name) t.src [] t.attrs []),x.below⟩ else⟨.mk (kindOf t.name) t.src [] t.attrs [],x.top::x.below⟩):=by
 unfold KH;split
 ·rfl
 ·unfold re;rw[List.reverse_cons]
theorem Dw(x:rf)(t:Tok):Jo x t=px (Jl x.top x.below.length t.src) ⟨.mk 14 t.src [] [] [],x.top::x.below⟩:=rfl
theorem Gk(h:px d i=.aq H)(a:d=none→tR j i):tR j H:=by
 cases d with
 |none=>cases h;exact a rfl
 |some p=>cases h
theorem Gl{b:Option (Nat×Int)}(h:mD d b=none):d=none∧b=none:=by
 cases d with
 |none=>exact⟨rfl,h⟩
 |some x=>cases h
theorem Jp(h:tR j i):tR (j+1) ⟨fV i.top k,i.below⟩:=
 ⟨h.deep,fun y c=>by
  rcases bL.1 c with rfl|c
  ·rw[Ak];have:=h.kids i.top eF;omega
  ·have:=h.kids y (bY _ c);omega,BC (a:=i.top) (b:=fV i.top k) rfl h.bot⟩
theorem Ny(h:tR j i)(b:j≤a):tR a i:=⟨h.deep,fun y c=>bP (h.kids y c) b,h.bot⟩
theorem Dx(h:tR j i)(b:k.kids=[])(c:¬16<i.below.length+1):tR (j+1) ⟨k,i.top::i.below⟩:=
 ⟨by show(i.top::i.below).length≤16;rw[bF];omega,fun y a=>by
  rcases bL.1 a with e|a
  ·rw[e];show k.kids.length≤_;rw[b];exact aH _
  ·have:=h.kids y a;omega,h.bot⟩
theorem Jq(x:rf)(t:Tok):Q9 x t=if nw x.top (xl t)=true then .bad t.src 13 else match x.below with|[]=>.bad 0 0|y::r=>.aq ⟨fV y x.top,r⟩:=by
 by_cases a:nw x.top (xl t)=true
 ·rw[ah a];exact ah (dv a)
 ·rw[ae a];exact ae (fun h=>a (bN h))
theorem KL(h:tR j i)(c:lM i B=.aq H):tR (j+1) H:=by
 unfold lM at c;split at c
 ·rw[Du] at c;refine Gk c fun _=> ?_;split
  ·exact Jp h
  ·exact Ny h (fB j)
 ·split at c
  ·cases c;exact⟨h.deep,fun H k=>by
    rcases bL.1 k with rfl|k
    ·have:=h.kids i.top eF;show i.top.kids.length≤_;omega
    ·have:=h.kids H (bY _ k);omega,BC (a:=i.top) (b:=vN i.top B.text) rfl h.bot⟩
  ·split at c
   ·rw[Al] at c;refine Gk c fun m=> ?_;have d:¬16<i.below.length+1:=fun d=>by have:=(Gl (Gl m).1).2;rw[ah d] at this;cases this
    split
    ·exact Jp h
    ·exact Dx h rfl d
   ·split at c
    ·rw[Dw] at c;refine Gk c fun m=> ?_;have d:¬16<i.below.length+1:=fun d=>by have:=(Gl m).2;rw[ah d] at this;cases this
     exact Dx h rfl d
    ·rw[Jq] at c;split at c
     ·cases c
     ·split at c
      ·cases c
      ·rename_i z r q;cases c;have l:=h.kids;have p:=h.deep;have o:=h.bot;rw[q] at l p o;exact⟨by rw[bF] at p;show r.length≤16;omega,fun H k=>by
        rcases bL.1 k with e|k
        ·rw[e];show(fV z i.top).kids.length≤_;rw[Ak];have:=l z (bY _ eF);omega
        ·have:=l H (bY _ (bY _ k));omega,BC (a:=z) (b:=fV z i.top) rfl o⟩
section
variable{lo:KB}{w0 W W':aaK}{pb:Nat}{ov:aaL}{st:List Nd}{kvs ys:List aaL}{place e:Int}
theorem Gm(h:gV lo w0 W pb (re i) (pE d) (eE d))(a:vX d):Q7 lo w0 W pb (px d i):=by
 cases d with
 |none=>exact h
 |some p=>exact⟨a p rfl,_,h⟩
theorem Nz(n:Nat):∀d:Bs,vX (Nr n d)
 |[]=>dI
 |_::_=>eZ (by decide)
abbrev Vi(t:Tok)(ta:Option Addr)(tc:Nat):aaL:=.agg #[.int .i64 t.kind,.string ⟨t.name.toArray⟩,.slice ta t.attrs.length tc,.string ⟨t.text.toArray⟩,.int .i64 t.src,.int .i64 t.bJ]
theorem NB(H:PK lo w0 W pb ov (re i) kvs ys 0 0)(q:tR j i)(y:j≤1000000)(l:vO a B)(O:a<1000000){ta:Option Addr}{tc:Nat}(D:aP (PL lo (pb::bM (ov::kvs))) W B.attrs (.slice ta B.attrs.length tc)):
 ∃f,tQ Nw B.kind=some (Q6 f)∧(∀(vs:Array aaL) (w:aaK),(callFunc f vs).run Tryz.prog w=.ok (.enter f vs) w)∧Calls Tryz.prog f #[.pointer (some ⟨pb,0,none⟩),Vi B ta tc] W fun c w'=>c=.returned (.tuple #[])∧Q7 lo w0 w' pb (lM i B):=by
 have N:i.below.reverse.length≤16:=by rw[zN];exact q.deep
 have p:i.top.kids.length≤1000000:=bP (q.kids _ eF) y;have C:B.attrs.length≤1000000:=by have:=l.al;omega
 obtain⟨K,L⟩:=l.kd;by_cases e:B.kind=1
 ·refine⟨39,by rw[e];rfl,fun vs w=>cP Tryz.func39 (by kernel_rfl) rfl vs w,(Ns H (by omega) p l.sr (by have:=l.bJ;omega)).m ?_⟩;rintro c w'⟨b,h⟩;refine⟨b, ?_⟩;rw[lM,ah e,Du];rw[Q8] at h;exact Gm h (jH dI (Nz _ _))
 by_cases k:B.kind=7
 ·refine⟨40,by rw[k];rfl,fun vs w=>cP Tryz.func40 (by kernel_rfl) rfl vs w,(Q0 H (by omega) _ _ _ _ _ _ rfl).m ?_⟩;rintro c w'⟨b,Q,h⟩;refine⟨b, ?_⟩;rw[lM,ae e,ah k];exact⟨_,_,_,h⟩
 by_cases o:B.kind=2∨B.kind=3
 ·refine⟨41,by rcases o with h|h<;>rw[h]<;>rfl,fun vs w=>cP Tryz.func41 (by kernel_rfl) rfl vs w,(KI H (by omega) p D C l.at_).m ?_⟩;rintro c w'⟨b,h⟩;refine⟨b, ?_⟩;rw[lM,ae e,ae k,ah o,Al];rw[Nx,zN] at h;exact Gm h (nv (nv (jH (eZ (by decide)) dI) (jH (eZ (by decide)) dI)) (Aj _ _))
 by_cases s:B.kind=5
 ·refine⟨42,by rw[s];rfl,fun vs w=>cP Tryz.func42 (by kernel_rfl) rfl vs w,(Nn H (by omega) (by omega) _ _ _ _ _).m ?_⟩;rintro c w'⟨b,h⟩;refine⟨b, ?_⟩;rw[lM,ae e,ae k,ae o,ah s,Dw];rw[zN] at h;refine Gm ?_ (nv (jH dI (eZ (by decide))) (jH (eZ (by decide)) dI));rw[re,List.reverse_cons];exact h
 ·have A:B.kind=4∨B.kind=6:=by omega
  have G:=Jq i B;have J:i.below=[]→nw i.top (xl B)=true:=fun I=>by
   have d:=q.bot;rw[I] at d;have F:i.top.kind=1:=d;have M:3≤xl B:=by
    unfold xl;split
    ·exact(Kp B.name).1
    ·decide
   unfold nw;rw[F];exact bN (.inl (by omega))
  refine⟨43,by rcases A with h|h<;>rw[h]<;>rfl,fun vs w=>cP Tryz.func43 (by kernel_rfl) rfl vs w, ?_⟩;rw[lM,ae e,ae k,ae o,ae s,G];cases d:nw i.top (xl B) with
  |true=>refine(Jn (S:=re i) (E:=some (B.src,13)) H (by omega) p (fun _=>⟨rfl,rfl⟩) (fun h=>by rw[d] at h;cases h)).m ?_;rintro c w'⟨b,h⟩;exact⟨b,by decide,_,h⟩
  |false=>
   cases u:i.below with
   |nil=>rw[J u] at d;cases d
   |cons z r=>refine(Jn (S:=re ⟨fV z i.top,r⟩) (E:=none) H (by omega) p (fun h=>by rw[d] at h;cases h) (fun _=>⟨r.reverse,z,by rw[u,List.reverse_cons],bP (q.kids z (by rw[u];simp)) y,rfl,rfl⟩)).m ?_;rintro c w'⟨b,h⟩;exact⟨b,h⟩
end
