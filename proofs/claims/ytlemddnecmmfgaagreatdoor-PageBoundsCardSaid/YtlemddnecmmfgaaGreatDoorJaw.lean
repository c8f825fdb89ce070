/- The walk of ask. -/
import Derived.Test.YtlemddnecmmfgaaGreatDoorJav
set_option linter.unusedVariables false
set_option maxRecDepth 100000
set_option maxHeartbeats 8000000
namespace Go.Proofs.YtlemddnecmmfgaaGreatDoor
open Go.RowKit
variable{b a:Bs}{r:List aaL}{w:List dQ}{l p s E u:Nat}{C:Obj}{d:Option Addr}{x y z:aaK}{i R:aaL}{S K:aaM}
theorem Qe{u:iZ}(c:(dK b a w u.name u.key u.hk).2=true):jD b a w u=dK b a w u.name u.key u.hk:=by unfold jD;rw[c];rfl
theorem Qf{u:iZ}(c:(dK b a w u.name u.key u.hk).2=false)(d:u.hd=true):jD b a w u=(u.cK,true):=by unfold jD;rw[c,d];rfl
theorem SQ{u:iZ}(c:(dK b a w u.name u.key u.hk).2=false)(d:u.hd=false):jD b a w u=([],false):=by unfold jD;rw[c,d];rfl
theorem IQ(u:bc)(h t:aaM)(a:Option Addr)(n c:Nat)(fs:List dQ)(w:aaK)(C:Good w)(hF:aZ w (.slice a n c) fs)(S:rX fs)(T:t.size≤100000)(Y:u.key.length≤100000):
 Calls Tryz.prog 162 #[VW u,.agg #[.string h,.string t,.slice a n c]] w (cN w (.tuple #[.string ⟨(gr h.data.toList t.data.toList fs u).1.toArray⟩,.bool (gr h.data.toList t.data.toList fs u).2])):=by
 obtain⟨V,q⟩:∃V,gr h.data.toList t.data.toList fs u=V:=⟨_,rfl⟩;have j:=ad q;unfold gr at j;have b:=ad (jG w (.cells #[.int .i64 u.src,.int .i64 u.bJ,.string ⟨u.name.toArray⟩,.string ⟨u.key.toArray⟩,.string ⟨u.cK.toArray⟩,.bool u.hk,.bool u.hd] 168) (.cells #[.string h,.string t,.slice a n c] 47));have y:=ad C;have x:=ad hF;rw[q];clear C hF q;go_enter Tryz.func162,Tryz.ntmps162;go_wp2_with fail;generalize(w.alloc (.cells #[.int .i64 u.src,.int .i64 u.bJ,.string ⟨u.name.toArray⟩,.string ⟨u.key.toArray⟩,.string ⟨u.cK.toArray⟩,.bool u.hk,.bool u.hd] 168)).alloc (.cells #[.string h,.string t,.slice a n c] 47)=W0 at*;have D:=y.o.next b.o.below;have B:=x.o.below b.o.below;have l:=ad b.o.below;have p:=ad b.o.b1;clear b y x;refine(E3 h t ⟨u.name.toArray⟩ ⟨u.key.toArray⟩ a n c fs u.hk _ D B S T (by simp[ByteArray.size];omega)).m ?_;rintro e Z⟨rfl,r⟩;have z:dK h.data.toList t.data.toList fs (⟨u.name.toArray⟩:aaM).data.toList (⟨u.key.toArray⟩:aaM).data.toList u.hk=dK h.data.toList t.data.toList fs u.name u.key u.hk:=rfl;rw[z];clear z D B;have E:=ad ((r.block _ (aB.1 p.o).1).t p.o);obtain⟨K,L,M,N,O,Q,R,F,G,H,I,W,J,X⟩:=eg E.o;have k:=ad (l.o.t (r.m l.o.size));clear r l p F G H I J K L M N O Q R;rcases i:(dK h.data.toList t.data.toList fs u.name u.key u.hk).2 with _|_
 ·have s:=ad i;rcases A:u.hd with _|_
  ·have d:=ad (show V=([],false) from j.o▸SQ (u:=⟨0,0,u.name,u.key,u.cK,u.hk,u.hd⟩) i A);go_wp2;go_ret2;rw[d.o];exact⟨rfl,k.o⟩
  ·have d:=ad (show V=(u.cK,true) from j.o▸Qf (u:=⟨0,0,u.name,u.key,u.cK,u.hk,u.hd⟩) i A);go_wp2;go_ret2;rw[d.o];exact⟨rfl,k.o⟩
 ·have d:=ad (show V=dK h.data.toList t.data.toList fs u.name u.key u.hk from j.o▸Qe (u:=⟨0,0,u.name,u.key,u.cK,u.hk,u.hd⟩) i);have s:=ad i;go_wp2;go_ret2;rw[d.o,s.o];exact⟨rfl,k.o⟩
mutual
def tE:Ex→Prop
 |.mk _ t u l=>t.length≤100000∧u.name.length≤100000∧u.key.length≤100000∧u.cK.length≤100000∧QR l
def QR:List Ex→Prop
 |[]=>True
 |x::r=>tE x∧QR r
end
mutual
def cC:Ex→Nat
 |.mk _ _ _ l=>1+j6 l
def j6:List Ex→Nat
 |[]=>0
 |x::r=>cC x+j6 r
end
theorem xw:∀{l:List Ex} {x:Ex},QR l→x∈l→tE x
 |[],_,_,h=>by cases h
 |y::r,x,h,a=>by
  unfold QR at h;rcases bL.1 a with e|a
  ·rw[e];exact h.1
  ·exact xw h.2 a
theorem Me(val:bc→Bs×Bool)(x:Ex):(iy val x).2≤cC x:=by
 refine Ex.ind (P:=fun x=>(iy val x).2≤cC x) (fun k t u l h=> ?_) x;rw[Kd,cC];unfold Bi;rw[Fv];by_cases c:fG k≠(l.length:Int)
 ·rw[ah c];exact aH _
 ·rw[ae c];by_cases d:k=10∨k=11
  ·rw[ah d];exact aH _
  ·rw[ae d];by_cases e:k=12
   ·rw[ah e];show 1≤_;omega
   ·rw[ae e]
    match l with
    |[]=>rw[XV];exact aH _
    |a::r=>
     have i:=h a (by simp);rw[XV,j6];show(if k=3 then((.yes (!oz (iy val a).1),(iy val a).2):TV×Nat) else if k=1∧oz (iy val a).1=true then(.yes true,(iy val a).2) else if k=2∧oz (iy val a).1=false then(.yes false,(iy val a).2) else match XV val r with
      |[]=>(.none,0)
      |B::_=>if k=1∨k=2 then(.yes (oz B.1),(iy val a).2+B.2) else(.yes (fQ k (iy val a).1 B.1),(iy val a).2+B.2)).2≤_
     split
     ·show(iy val a).2≤_;omega
     ·split
      ·show(iy val a).2≤_;omega
      ·split
       ·show(iy val a).2≤_;omega
       ·match r with
        |[]=>rw[XV];exact aH _
        |b::m=>
         have j:=h b (by simp);rw[XV,j6];show(if k=1∨k=2 then((.yes (oz (iy val b).1),(iy val a).2+(iy val b).2):TV×Nat) else(.yes (fQ k (iy val a).1 (iy val b).1),(iy val a).2+(iy val b).2)).2≤_;split
         ·show(iy val a).2+(iy val b).2≤_;omega
         ·show(iy val a).2+(iy val b).2≤_;omega
theorem Mf(d:rX w)(c:b.length≤100002000)(i:a.length≤100000)(x:Ex):tE x→nW (iy (gr b a w) x).1:=by
 refine Ex.ind (P:=fun x=>tE x→nW (iy (gr b a w) x).1) (fun k j u l m e=> ?_) x;unfold tE at e;rw[Kd];unfold Bi;split
 ·trivial
 ·split
  ·show j.length≤_;omega
  ·split
   ·show nW (bif(gr b a w u).2 then TV.sr (gr b a w u).1 else TV.none);cases(gr b a w u).2
    ·trivial
    ·show(gr b a w u).1.length≤_;have:=O9 (h:=b) (t:=a) (fs:=w) ⟨0,0,u.name,u.key,u.cK,u.hk,u.hd⟩ d c i (by show u.cK.length≤_;omega);show(jD b a w ⟨0,0,u.name,u.key,u.cK,u.hk,u.hd⟩).1.length≤_;omega
   ·split
    ·trivial
    ·split
     ·trivial
     ·split
      ·trivial
      ·split
       ·trivial
       ·split
        ·trivial
        ·split<;>trivial
structure AK (w0 W:aaK) (b:Nat) (h t:aaM) (a:Option Addr) (n c:Nat) (m:Nat) (av:aaL) (xs:List aaL):Prop where
 up:Below w0.heap.size w0 W
 box:W.heap[b]? =some (.cells #[.string h,.string t,.slice a n c,av] 205)
 own:W.ownsRow w0.heap.size 168 7 av m xs
 far:w0.heap.size≤b
 ne:some b≠av.ownBlock
theorem AK.next{j W W':aaK}(H:AK j W l S K d p s E i r)(e:Below W.heap.size W W'):AK j W' l S K d p s E i r:=
 ⟨H.up.t (e.m H.up.size),(e.block _ (aB.1 H.box).1).t H.box,cp H.own e,H.far,H.ne⟩
theorem dX.row{w':aaK}(j:AK x y l S K d s E u i r)(w:y.heap.size≤p)(k:z.heap[p]? =some C)(H:dX z w' l i R):w'.heap[p]? =some C:=by have q:=(aB.1 j.box).1;refine(H.block p (aB.1 k).1 (by omega) ?_).t k;intro e;have:=(j.own.lt p e.symm).2;omega
theorem IT{w':aaK}(k:AK x y l S K d s E u i r)(q:z.heap[p]? =some C)(H:dX z w' l i R)(A:y.heap.size≤p:=by exact ag _):some p≠R.ownBlock:=by
 have w:=(aB.1 q).1;intro e;rcases H.own with j|⟨g,j,B⟩
 ·rw[j] at e;have:=(k.own.lt p e.symm).2;omega
 ·rw[j] at e;cases e;omega
theorem SR{o:Nat}{J:List aaL}(H:AK x y l S K d E u o i r)
 (T:z.ownsRow x.heap.size 168 7 (.slice (some ⟨p,0,none⟩) (o+1) s) (o+1) (r++J))(A:(y.alloc C).grownBy z i.ownBlock)(G:some p=i.ownBlock∨y.heap.size+1≤p):
 AK x (z.setCell ⟨l,3,none⟩ (.slice (some ⟨p,0,none⟩) (o+1) s)) l S K d E u (o+1) (.slice (some ⟨p,0,none⟩) (o+1) s) (r++J)∧dX y (z.setCell ⟨l,3,none⟩ (.slice (some ⟨p,0,none⟩) (o+1) s)) l i (.slice (some ⟨p,0,none⟩) (o+1) s)∧z.heap[l]? =some (.cells #[.string S,.string K,.slice d E u,i] 205):=by
 have w:Below y.heap.size y (y.alloc C):=(ar _ _).alloc (ag _) _;have R:=(aB.1 H.box).1;have X:=w.size;have Y:=A.size;have D:z.heap[l]? =some (.cells #[.string S,.string K,.slice d E u,i] 205):=((A.block l (by omega) H.ne).t (w.block l R)).t H.box;have B:ak l z (z.setCell ⟨l,3,none⟩ (.slice (some ⟨p,0,none⟩) (o+1) s)):=(ak.refl _ _).set;have Z:=B.size;have V:∀q,i.ownBlock=some q→x.heap.size≤q∧q<y.heap.size:=fun q hq=>H.own.lt q hq;have F:p≠l:=by
  rcases G with e|e
  ·intro L;subst L;exact H.ne e
  ·omega
 have I:=((H.up.t (w.m H.up.size))).grown A (by have:=H.up.size;omega) (fun q hq=>(V q hq).1);refine⟨⟨I.t (B.below H.far (by have:=I.size;omega)),aw (j:=3) D,T.kept B (.inr ?_),H.far, ?_⟩,⟨by omega,fun k M N Q=> ?_, ?_⟩,D⟩
 ·intro e;simp[Value.ownBlock] at e;exact F e
 ·intro e;simp[Value.ownBlock] at e;exact F e.symm
 ·exact(B.block k (by omega) (by intro e;cases e;exact N rfl)).t ((A.block k (by omega) Q).t (w.block k M))
 ·rcases G with e|e
  ·exact .inl (by simpa[Value.ownBlock] using e)
  ·exact .inr ⟨p,rfl,by omega⟩
theorem Mg(val:bc→Bs×Bool)(k:Int)(t:Bs)(u:bc)(L:List (TV×List bc)):Bi val k t u (L.map fun p=>(p.1,p.2.length))=((qI val k t u L).1,(qI val k t u L).2.length):=by
 unfold Bi qI;rw[jo];by_cases a:fG k≠(L.length:Int)
 ·rw[ah a,ah a];rfl
 rw[ae a,ae a];by_cases b:k=10∨k=11
 ·rw[ah b,ah b];rfl
 rw[ae b,ae b];by_cases c:k=12
 ·rw[ah c,ah c];rfl
 rw[ae c,ae c]
 match L with
 |[]=>rfl
 |A::R=>
  simp only[kg];by_cases d:k=3
  ·rw[ah d,ah d]
  rw[ae d,ae d];by_cases e:k=1∧oz A.1=true
  ·rw[ah e,ah e]
  rw[ae e,ae e];by_cases h:k=2∧oz A.1=false
  ·rw[ah h,ah h]
  rw[ae h,ae h]
  match R with
  |[]=>rfl
  |B::_=>
   simp only[kg];by_cases i:k=1∨k=2
   ·rw[ah i,ah i,bB]
   ·rw[ae i,ae i,bB]
mutual
theorem yP (val:bc→Bs×Bool):∀x:Ex,iy val x=((bt val x).1,(bt val x).2.length)
 |.mk k t u l=>by rw[iy,bt,Bm val l];exact Mg val k t u _
theorem Bm (val:bc→Bs×Bool):∀l:List Ex,XV val l=(ig val l).map fun p=>(p.1,p.2.length)
 |[]=>by rw[XV,ig];rfl
 |x::r=>by rw[XV,ig,kg,yP val x,Bm val r]
end
theorem nG(val:bc→Bs×Bool)(x:Ex):(bt val x).2.length≤cC x:=by have h:=Me val x;rw[yP] at h;exact h
theorem IU(d:rX w)(c:b.length≤100002000)(i:a.length≤100000)(x:Ex)(e:tE x):nW (bt (gr b a w) x).1:=by have b:=Mf d c i x e;rw[yP] at b;exact b
theorem Bn(val:bc→Bs×Bool):∀l,(ig val l).length=l.length
 |[]=>by rw[ig];rfl
 |x::r=>by rw[ig,bF,Bn val r];rfl
theorem kz(val:bc→Bs×Bool)(k:Int)(t:Bs)(u:bc)(l:List Ex):bt val (.mk k t u l)=qI val k t u (ig val l):=by rw[bt]
theorem Mh(val:bc→Bs×Bool)(a:Ex):ig val [a]=[bt val a]:=by rw[ig,ig]
theorem uy(val:bc→Bs×Bool)(a b:Ex):ig val [a,b]=[bt val a,bt val b]:=by rw[ig,ig,ig]
abbrev Qg(u:bc):List aaL:=[.int .i64 u.src,.int .i64 u.bJ,.string ⟨u.name.toArray⟩,.string ⟨u.key.toArray⟩,.string ⟨u.cK.toArray⟩,.bool u.hk,.bool u.hd]
def XW:List bc→List aaL
 |[]=>[]
 |u::r=>Qg u++XW r
theorem Fx:∀l m:List bc,XW (l++m)=XW l++XW m
 |[],m=>rfl
 |u::r,m=>by rw[di,XW,XW,Fx r m,jl]
theorem yQ(xs:List aaL)(l m:List bc):(xs++XW l)++XW m=xs++XW (l++m):=by rw[Fx,jl]
def nX(j W:aaK)(b:Nat)(h t:aaM)(a:Option Addr)(n c m:Nat)(av:aaL)(xs:List aaL)(r:TV×List bc):Ending→aaK→Prop:=fun e w'=>∃d i,e=.returned (Wg r.1)∧Hid (AK j w' b h t a n c (m+r.2.length) d i∧dX W w' b av d)∧Hid (i=xs++XW r.2)
def qR(d:aaK)(b:Nat)(h t:aaM)(a:Option Addr)(n c:Nat)(val:bc→Bs×Bool)(y:Ex):Prop:=
 ∀(v:aaL) (W:aaK) (m:Nat) (av:aaL) (xs:List aaL),dR (fun _=>True) d y v→AK d W b h t a n c m av xs→m+cC y≤1000000000→Calls Tryz.prog 143 #[.pointer (some ⟨b,0,none⟩),v] W (nX d W b h t a n c m av xs (bt val y))
theorem U2:(Tryz.prog.info? 168).map (fun i=>(i.zero,i.size,i.bytes))=some (some (.agg #[.int .i64 0,.int .i64 0,.string ⟨#[]⟩,.string ⟨#[]⟩,.string ⟨#[]⟩,.bool false,.bool false]),7,72):=by kernel_rfl
theorem SS:Tryz.prog.underlying 175=some (.slice 168):=by kernel_rfl
theorem U3(k:Int)(l:List Ex)(x:aaK)(X:Good x)(b:Nat)(h E:aaM)(a:Option Addr)(n c:Nat)(val:bc→Bs×Bool)(t:Bs)(u:bc)(ka:Option Addr)(kc:Nat)(W:aaK)(D:Nat)(av:aaL)(xs:List aaL)(C:AK x W b h E a n c D av xs)(i:fG k≠(l.length:Int)):
 Calls Tryz.prog 143 #[.pointer (some ⟨b,0,none⟩),dY k t u (.slice ka l.length kc)] W (nX x W b h E a n c D av xs (bt val (.mk k t u l))):=by
 have A:Below W.heap.size W (W.alloc (.cells (dC k t u (.slice ka l.length kc)).toArray 171)):=(ar _ _).alloc (ag _) _;have G:=ad C;have y:=ad A;have p:=ad (au W (.cells (dC k t u (.slice ka l.length kc)).toArray 171));have j:=ad (show bt val (.mk k t u l)=(.none,[]) by rw[kz];unfold qI;rw[Bn,ah i])
 obtain⟨q,hq⟩:∃q,fG k=q:=⟨_,rfl⟩;rw[hq] at i;have Y:((l.length:Int)!=q)=true:=by rw[bne,aL.2 (eo i)];rfl
 have H:=ad (fun(w:aaK)=>hq▸mg k w);clear i hq;clear C A;go_enter Tryz.func143,Tryz.ntmps143;go_upto_region 1 with fail;generalize W.alloc (.cells (dC k t u (.slice ka l.length kc)).toArray 171)=d at*;obtain⟨r,s⟩:=qX2 (bwX p.o) 0 9
 haveI:Nonempty (BW d):=⟨⟨d,ar _ _⟩⟩
 refine aY 6 (fun B:BW d=>B.val) ⟨d.drew,cw (ar _ _)⟩ rfl (by kernel_rfl) (by rfl) (by rfl) (by kernel_rfl) (by kernel_rfl) (by kernel_rfl) ?_;simp only[ki,kL];repeat(quiet_step ((go_at_call 177;refine(H.o _).m ?_;rintro e v1⟨rfl,K⟩;exact⟨rfl,⟨v1,BW.next _ K⟩,rfl⟩)))
 refine wpQuiet_nil ?_;rintro w'⟨B,rfl⟩;rw[ah (by rfl)];have z:=ad (y.o.t (B.below.m y.o.size));have J:=ad ((B.below.block _ (aB.1 p.o).1).t p.o);have F:=ad (G.o.next z.o);have I:=ad ((dX.refl W b av).next z.o);clear r s;go_simp;generalize B.val=V at*;obtain⟨r,L,M,N,O,Q,R,S,T,s⟩:=aM J.o;clear r L M N O Q R S T s;go_wp2_with fail;go_ret;exact⟨av,xs,(by rw[j.o];rfl),ad ⟨by rw[j.o];exact F.o,I.o⟩,ad (by rw[j.o];exact(jm xs).symm)⟩
theorem U4(d:Int)(p:d=10∨d=11)(q:aaK)(L:Good q)(b:Nat)(h D:aaM)(a:Option Addr)(n c:Nat)(val:bc→Bs×Bool)(t:Bs)(u:bc)(ka:Option Addr)(kc:Nat)(W:aaK)(z:Nat)(av:aaL)(xs:List aaL)(x:AK q W b h D a n c z av xs):
 Calls Tryz.prog 143 #[.pointer (some ⟨b,0,none⟩),dY d t u (.slice ka 0 kc)] W (nX q W b h D a n c z av xs (bt val (.mk d t u []))):=by
 have s:Below W.heap.size W (W.alloc (.cells (dC d t u (.slice ka 0 kc)).toArray 171)):=(ar _ _).alloc (ag _) _;have F:=ad x;have k:=ad s;have j:=ad (au W (.cells (dC d t u (.slice ka 0 kc)).toArray 171));have l:=ad (show bt val (.mk d t u [])=(.sr t,[]) by rcases p with rfl|rfl<;>(rw[kz];rfl));have G:=ad (fun(w:aaK)=>(show Calls Tryz.prog 177 #[.int .i64 d] w (cN w (.int .i64 0)) by have:=mg d w;rcases p with rfl|rfl<;>exact this))
 clear x s;obtain⟨i,y⟩:∃i,W.alloc (.cells (dC d t u (.slice ka 0 kc)).toArray 171)=i:=⟨_,rfl⟩;rw[y] at k j;rcases p with rfl|rfl;all_goals
  go_enter Tryz.func143,Tryz.ntmps143;go_upto_region 1 with fail;clear y;obtain⟨A,C⟩:=qX2 (bwX j.o) 0 9
  haveI:Nonempty (BW i):=⟨⟨i,ar _ _⟩⟩
  refine aY 6 (fun B:BW i=>B.val) ⟨i.drew,cw (ar _ _)⟩ rfl (by kernel_rfl) (by rfl) (by rfl) (by kernel_rfl) (by kernel_rfl) (by kernel_rfl) ?_;simp only[ki,kL];repeat(quiet_step ((go_at_call 177;refine(G.o _).m ?_;rintro e v1⟨rfl,J⟩;exact⟨rfl,⟨v1,BW.next _ J⟩,rfl⟩)))
  refine wpQuiet_nil ?_;rintro w'⟨B,rfl⟩;rw[ah (by rfl)];have r:=ad (k.o.t (B.below.m k.o.size));have I:=ad ((B.below.block _ (aB.1 j.o).1).t j.o);have E:=ad (F.o.next r.o);have H:=ad ((dX.refl W b av).next r.o);clear A C;go_simp;generalize B.val=K at*;obtain⟨A,M,N,O,Q,R,S,T,V,C⟩:=aM I.o;go_wp2_with fail;go_ret;exact⟨av,xs,(by rw[l.o];rfl),ad ⟨by rw[l.o];exact E.o,H.o⟩,ad (by rw[l.o];exact(jm xs).symm)⟩
theorem U6(fs:List dQ)(i:aaK)(hG:Good i)(b:Nat)(h p:aaM)(a:Option Addr)(n c:Nat)(val:bc→Bs×Bool)(t:Bs)(u:bc)(ka:Option Addr)(kc:Nat)(W:aaK)(l:Nat)(av:aaL)(xs:List aaL)(R:AK i W b h p a n c l av xs)(hF:aZ i (.slice a n c) fs)(Y:rX fs)(ht:p.size≤100000)(X:u.key.length≤100000)(Z:l≤1000000000)(ac:val=gr h.data.toList p.data.toList fs):
 Calls Tryz.prog 143 #[.pointer (some ⟨b,0,none⟩),dY 12 t u (.slice ka 0 kc)] W (nX i W b h p a n c l av xs (bt val (.mk 12 t u []))):=by
 have Q:Below W.heap.size W (W.alloc (.cells (dC 12 t u (.slice ka 0 kc)).toArray 171)):=(ar _ _).alloc (ag _) _;have K:=ad R;have H:=ad Q;have z:=ad (au W (.cells (dC 12 t u (.slice ka 0 kc)).toArray 171));have r:=ad (show bt val (.mk 12 t u [])=(bif(val u).2 then .sr (val u).1 else .none,[u]) by rw[kz];rfl);have A:=ad (fun(w:aaK) (hw:Below i.heap.size i w)=>IQ u h p a n c fs w (hG.next hw) (hF.below hw) Y ht X);have L:=ad Z;rw[←ac] at A;obtain⟨V,q,S⟩:∃V q,val u=(V,q):=⟨(val u).1,(val u).2,rfl⟩;rw[S] at A r;clear hF Y ht X ac S Z;have ai:=ad (fun(w:aaK)=>(show Calls Tryz.prog 177 #[.int .i64 12] w (cN w (.int .i64 0)) by have:=mg 12 w;rw[show fG 12=0 from rfl] at this;exact this))
 clear R Q;go_enter Tryz.func143,Tryz.ntmps143;go_upto_region 1 with fail;generalize W.alloc (.cells (dC 12 t u (.slice ka 0 kc)).toArray 171)=s at*;obtain⟨E,F⟩:=qX2 (bwX z.o) 0 9
 haveI:Nonempty (BW s):=⟨⟨s,ar _ _⟩⟩
 refine aY 6 (fun B:BW s=>B.val) ⟨s.drew,cw (ar _ _)⟩ rfl (by kernel_rfl) (by rfl) (by rfl) (by kernel_rfl) (by kernel_rfl) (by kernel_rfl) ?_;simp only[ki,kL];repeat(quiet_step ((go_at_call 177;refine(ai.o _).m ?_;rintro e v1⟨rfl,C⟩;exact⟨rfl,⟨v1,BW.next _ C⟩,rfl⟩)))
 refine wpQuiet_nil ?_;rintro w'⟨B,rfl⟩;rw[ah (by rfl)];have I:=ad (H.o.t (B.below.m H.o.size));have M:=ad ((B.below.block _ (aB.1 z.o).1).t z.o);have J:=ad (K.o.next I.o);have HS:=ad ((dX.refl W b av).next I.o);clear E F;go_simp;generalize B.val=x at*;obtain⟨E,p1,p2,p3,p4,p5,p6,p7,p8,F⟩:=aM M.o;go_upto_region 8 with fail;have y:=ad (J.o.next (cw (ar _ _)));have al:=ad (HS.o.next (cw (ar _ _)));have N:=ad (show x.drew.heap[W.heap.size]? =_ from M.o);obtain⟨x0,x1,x2,x3,x4,x5,x6,x7,x8,x9⟩:=aM N.o;have b3:x.cell? ⟨b,3,none⟩=some av:=tH _ _ 3 _ _ _ J.o.box;have ap:∀O,(x.alloc O).cell? ⟨b,3,none⟩=some av:=fun O=>vD b3 O;clear E p1 p2 p3 p4 p5 p6 p7 p8 F;go_region_law
  (refine gM (by rfl) _ _ 175 (by rfl) 168 (.agg #[.int .i64 0,.int .i64 0,.string ⟨#[]⟩,.string ⟨#[]⟩,.string ⟨#[]⟩,.bool false,.bool false]) 7 72 SS U2 (by rfl) (by decide) i.heap.size x.drew av l xs (by rfl) y.o.own [.int .i64 u.src,.int .i64 u.bJ,.string ⟨u.name.toArray⟩,.string ⟨u.key.toArray⟩,.string ⟨u.cK.toArray⟩,.bool u.hk,.bool u.hd] (by rfl) (by rfl) (by rfl) (by simp[Value.oneCell']) (by have:=L.o;omega) (by have:=L.o;omega) (by exact y.o.up.size) ?_;intro g cap w5 ab T aa;have k:=SR y.o ab T aa;have j:=ad k.1;have an:=ad (al.o.t k.2.1);have ao:=ad (dX.row K.o (ag _) N.o k.2.1);have D:=k.2.2;have g3:=tH _ _ 3 _ _ _ D;have f3:=aF _ _ 3 _ _ D;clear k ab T aa D)
 all_goals
  clear x0 x1 x2 x3 x4 x5 x6 x7 x8 x9 b3 ap g3 f3;generalize w5.setCell ⟨b,3,none⟩ (.slice (some ⟨g,0,none⟩) (l+1) cap)=d at*;obtain⟨q2,q3,q4,q5,q6,q7,q8⟩:=qX7 (bwX ao.o) 2 3 4 5 6 7 8;have b0:∀B:BW d,B.val.cell? ⟨b,0,none⟩=_:=fun B=>tH _ _ 0 _ _ _ (j.o.next B.below).box;have b1:∀B:BW d,B.val.cell? ⟨b,1,none⟩=_:=fun B=>tH _ _ 1 _ _ _ (j.o.next B.below).box;have b2:∀B:BW d,B.val.cell? ⟨b,2,none⟩=_:=fun B=>tH _ _ 2 _ _ _ (j.o.next B.below).box
  haveI:Nonempty (BW d):=⟨⟨d,ar _ _⟩⟩
  go_upto_region 9 with fail;refine aY 11 (fun B:BW d=>B.val) ⟨d.drew,cw (ar _ _)⟩ rfl (by kernel_rfl) (by rfl) (by rfl) (by kernel_rfl) (by kernel_rfl) (by kernel_rfl) ?_;simp only[ki,kL];repeat(quiet_step ((go_at_call 162;refine(A.o _ (j.o.next (BW.below _)).up).m ?_;rintro e v1⟨rfl,C⟩;exact⟨rfl,⟨v1,BW.next _ C⟩,rfl⟩)))
  refine wpQuiet_nil ?_;rintro w'⟨G,rfl⟩;rw[ah (by rfl)];have af:=ad (j.o.next G.below);have am:=ad (an.o.next G.below);clear q2 q3 q4 q5 q6 q7 q8 b0 b1 b2;go_simp;cases q;all_goals
   go_wp2_with fail;go_ret;exact⟨_,_,by rw[r.o];rfl,ad ⟨by rw[r.o];exact af.o,am.o⟩,ad (by rw[r.o];rfl)⟩
theorem V6(d:Ex)(p:aaK)(hG:Good p)(b:Nat)(h C:aaM)(a:Option Addr)(n c:Nat)(val:bc→Bs×Bool)(t:Bs)(u:bc)(r q:Nat)(kc:Nat)(W:aaK)(l:Nat)(av:aaL)(xs:List aaL)(hK:AK p W b h C a n c l av xs)(ai:r<p.heap.size)(am:gn (fun _=>True) p [d] r q)(af:qR p b h C a n c val d)(al:l+(1+cC d)≤1000000000):
 Calls Tryz.prog 143 #[.pointer (some ⟨b,0,none⟩),dY 3 t u (.slice (some ⟨r,q,none⟩) 1 kc)] W (nX p W b h C a n c l av xs (bt val (.mk 3 t u [d]))):=by
 have A:Below W.heap.size W (W.alloc (.cells (dC 3 t u (.slice (some ⟨r,q,none⟩) 1 kc)).toArray 171)):=(ar _ _).alloc (ag _) _;have ac:=ad hK;have HB:=ad A;have D:=ad (au W (.cells (dC 3 t u (.slice (some ⟨r,q,none⟩) 1 kc)).toArray 171));have y:=ad (show bt val (.mk 3 t u [d])=(.yes (!oz (bt val d).1),(bt val d).2) by rw[kz,Mh];rfl);have aU:=ad af;have aq:=ad al;have ay:=ad am;have ao:=ad ai;obtain⟨a6,a9,bb,a7,a8,a5,F⟩:=nS ay.o (show[d][0]? =some d from rfl) (ar _ _) ao.o;have ab:=ad (fun(W:aaK) (l:Nat) (av:aaL) (xs:List aaL) (A:AK p W b h C a n c l av xs) (hm:l+cC d≤1000000000)=>aU.o _ W l av xs (F.ex ⟨p,ar _ _⟩) A hm);have k:=ad F;clear F;obtain⟨O,m1,an⟩:∃O m1,bt val d=(O,m1):=⟨(bt val d).1,(bt val d).2,rfl⟩;rw[an] at ab y;clear af al ai am an;have ap:=ad (fun(w:aaK)=>(show Calls Tryz.prog 177 #[.int .i64 3] w (cN w (.int .i64 1)) by have:=mg 3 w;rw[show fG 3=1 from rfl] at this;exact this))
 clear hK A;go_enter Tryz.func143,Tryz.ntmps143;go_upto_region 1 with fail;generalize W.alloc (.cells (dC 3 t u (.slice (some ⟨r,q,none⟩) 1 kc)).toArray 171)=z at*;obtain⟨s,x⟩:=qX2 (bwX D.o) 0 9
 haveI:Nonempty (BW z):=⟨⟨z,ar _ _⟩⟩
 refine aY 6 (fun B:BW z=>B.val) ⟨z.drew,cw (ar _ _)⟩ rfl (by kernel_rfl) (by rfl) (by rfl) (by kernel_rfl) (by kernel_rfl) (by kernel_rfl) ?_;simp only[ki,kL];repeat(quiet_step ((go_at_call 177;refine(ap.o _).m ?_;rintro e v1⟨rfl,a3⟩;exact⟨rfl,⟨v1,BW.next _ a3⟩,rfl⟩)))
 refine wpQuiet_nil ?_;rintro w'⟨B,rfl⟩;rw[ah (by rfl)];have aa:=ad (HB.o.t (B.below.m HB.o.size));have HX:=ad ((B.below.block _ (aB.1 D.o).1).t D.o);have i:=ad (ac.o.next aa.o);have HS:=ad ((dX.refl W b av).next aa.o);clear s x;go_simp;generalize B.val=j at*;obtain⟨s,G,H,I,J,K,L,M,N,x⟩:=aM HX.o;have Q:=k.o.c0 ⟨j,i.o.up⟩;have R:=k.o.c1 ⟨j,i.o.up⟩;have S:=k.o.c2 ⟨j,i.o.up⟩;have T:=k.o.c3 ⟨j,i.o.up⟩;have V:=k.o.c4 ⟨j,i.o.up⟩;have X:=k.o.c5 ⟨j,i.o.up⟩;have Y:=k.o.c6 ⟨j,i.o.up⟩;have Z:=k.o.c7 ⟨j,i.o.up⟩;have z8:=k.o.c8 ⟨j,i.o.up⟩;have z9:=k.o.c9 ⟨j,i.o.up⟩;dsimp only at Q R S T V X Y Z z8 z9;rw[show q+0*10=q from by omega] at Q R S T V X Y Z z8 z9;go_wp2_with fail;refine(ab.o j l av xs i.o (by have:=aq.o;omega)).m ?_;rintro e w3⟨a2,a4,rfl,E,a1⟩;have a0:=ad (dX.row ac.o (ag _) HX.o E.o.2);have aN:=ad (HS.o.t E.o.2);clear Q R S T V X Y Z z8 z9 s G H I J K L M N x;obtain⟨s,G,H,I,J,K,L,M,N,x⟩:=aM a0.o;go_upto_region 15 with fail;go_wp2_with fail;refine(Bk O w3).m ?_;rintro e w4⟨rfl,rfl⟩;clear s G H I J K L M N x;go_wp2_with fail;go_ret;exact⟨a2,a4,(by rw[y.o];rfl),ad ⟨by rw[y.o];exact E.o.1,aN.o⟩,ad (by rw[y.o];exact a1.o)⟩
theorem V7(p:Int)(d e:Bool)(aa:p=1∧d=true∧e=false∨p=2∧d=false∧e=true)(i j:Ex)(r:aaK)(hG:Good r)(b:Nat)(h I:aaM)(a:Option Addr)(n c:Nat)(val:bc→Bs×Bool)(t:Bs)(u:bc)(Y C:Nat)(kc:Nat)(W:aaK)(l:Nat)(av:aaL)(xs:List aaL)(hK:AK r W b h I a n c l av xs)(a9:Y<r.heap.size)(bd:gn (fun _=>True) r [i,j] Y C)(a6:qR r b h I a n c val i)(a7:qR r b h I a n c val j)(bb:l+(1+(cC i+cC j))≤1000000000):
 Calls Tryz.prog 143 #[.pointer (some ⟨b,0,none⟩),dY p t u (.slice (some ⟨Y,C,none⟩) 2 kc)] W (nX r W b h I a n c l av xs (bt val (.mk p t u [i,j]))):=by
 have X:Below W.heap.size W (W.alloc (.cells (dC p t u (.slice (some ⟨Y,C,none⟩) 2 kc)).toArray 171)):=(ar _ _).alloc (ag _) _;have ab:=ad hK;have HB:=ad X;have HN:=ad (au W (.cells (dC p t u (.slice (some ⟨Y,C,none⟩) 2 kc)).toArray 171));have Z:=ad (show bt val (.mk p t u [i,j])=(if oz (bt val i).1=d then(.yes d,(bt val i).2) else(.yes (oz (bt val j).1),(bt val i).2++(bt val j).2)) by rw[kz,uy];unfold qI;rcases aa with⟨rfl,rfl,-⟩|⟨rfl,rfl,-⟩<;>simp[fG])
 have bm:=ad (fun(w:aaK)=>(show Calls Tryz.prog 177 #[.int .i64 p] w (cN w (.int .i64 2)) by have:=mg p w;rcases aa with⟨rfl,-⟩|⟨rfl,-⟩<;>exact this))
 have bn:=ad (show∀q,q=e∨q=d by rcases aa with⟨-,rfl,rfl⟩|⟨-,rfl,rfl⟩<;>decide);have ay:=ad (show¬e=d by rcases aa with⟨-,rfl,rfl⟩|⟨-,rfl,rfl⟩<;>decide);have br:=ad a6;have a0:=ad bb;have bs:=ad a7;have aU:=ad (nG val i);have a1:=ad bd;have ao:=ad a9;obtain⟨b2,b8,ca,b4,b6,b0,ai⟩:=nS a1.o (show[i,j][0]? =some i from rfl) (ar _ _) ao.o;have ap:=ad (fun(W:aaK) (l:Nat) (av:aaL) (xs:List aaL) (X:AK r W b h I a n c l av xs) (hm:l+cC i≤1000000000)=>br.o _ W l av xs (ai.ex ⟨r,ar _ _⟩) X hm);have z:=ad ai;clear ai;obtain⟨b3,b9,cb,b5,b7,b1,al⟩:=nS a1.o (show[i,j][1]? =some j from rfl) (ar _ _) ao.o;have aq:=ad (fun(W:aaK) (l:Nat) (av:aaL) (xs:List aaL) (X:AK r W b h I a n c l av xs) (hm:l+cC j≤1000000000)=>bs.o _ W l av xs (al.ex ⟨r,ar _ _⟩) X hm);have A:=ad al;clear al;obtain⟨E,D,be⟩:∃E D,bt val i=(E,D):=⟨(bt val i).1,(bt val i).2,rfl⟩;obtain⟨x2,m2,bf⟩:∃x2 m2,bt val j=(x2,m2):=⟨(bt val j).1,(bt val j).2,rfl⟩;rw[be] at ap Z aU;rw[bf] at aq Z;clear a6 a7 bb a9 bd be bf;have bk:=ad (fun h:oz E=e=>show bt val (.mk p t u [i,j])=(.yes (oz x2),D++m2) by rw[Z.o];show(if oz E=d then _ else _)=_;rw[h,ae ay.o]);have bl:=ad (fun h:oz E=d=>show bt val (.mk p t u [i,j])=(.yes d,D) by rw[Z.o];show(if oz E=d then _ else _)=_;rw[ah h]);clear hK X Z ay;obtain⟨V,a8⟩:∃V,W.alloc (.cells (dC p t u (.slice (some ⟨Y,C,none⟩) 2 kc)).toArray 171)=V:=⟨_,rfl⟩;rw[a8] at HB HN;rcases aa with⟨rfl,rfl,rfl⟩|⟨rfl,rfl,rfl⟩;all_goals
  go_enter Tryz.func143,Tryz.ntmps143;go_upto_region 1 with fail;clear a8;obtain⟨G,H⟩:=qX2 (bwX HN.o) 0 9
  haveI:Nonempty (BW V):=⟨⟨V,ar _ _⟩⟩
  refine aY 6 (fun B:BW V=>B.val) ⟨V.drew,cw (ar _ _)⟩ rfl (by kernel_rfl) (by rfl) (by rfl) (by kernel_rfl) (by kernel_rfl) (by kernel_rfl) ?_;simp only[ki,kL];repeat(quiet_step ((go_at_call 177;refine(bm.o _).m ?_;rintro e v1⟨rfl,bJ⟩;exact⟨rfl,⟨v1,BW.next _ bJ⟩,rfl⟩)))
  refine wpQuiet_nil ?_;rintro w'⟨B,rfl⟩;rw[ah (by rfl)];have an:=ad (HB.o.t (B.below.m HB.o.size));have HX:=ad ((B.below.block _ (aB.1 HN.o).1).t HN.o);have s:=ad (ab.o.next an.o);have HS:=ad ((dX.refl W b av).next an.o);clear G H;go_simp;generalize B.val=x at*;obtain⟨G,p1,p2,p3,p4,p5,p6,p7,p8,H⟩:=aM HX.o;have J:=z.o.c0 ⟨x,s.o.up⟩;have K:=z.o.c1 ⟨x,s.o.up⟩;have L:=z.o.c2 ⟨x,s.o.up⟩;have M:=z.o.c3 ⟨x,s.o.up⟩;have N:=z.o.c4 ⟨x,s.o.up⟩;have O:=z.o.c5 ⟨x,s.o.up⟩;have Q:=z.o.c6 ⟨x,s.o.up⟩;have R:=z.o.c7 ⟨x,s.o.up⟩;have S:=z.o.c8 ⟨x,s.o.up⟩;have T:=z.o.c9 ⟨x,s.o.up⟩;dsimp only at J K L M N O Q R S T;rw[show C+0*10=C from by omega] at J K L M N O Q R S T;go_wp2_with fail;refine(ap.o x l av xs s.o (by have:=a0.o;omega)).m ?_;rintro e w3⟨a4,bg,rfl,k,a3⟩;have af:=ad (dX.row ab.o (ag _) HX.o k.o.2);have a2:=ad (HS.o.t k.o.2);clear J K L M N O Q R S T G p1 p2 p3 p4 p5 p6 p7 p8 H;obtain⟨G,p1,p2,p3,p4,p5,p6,p7,p8,H⟩:=aM af.o;obtain⟨q1,am⟩:∃q1,oz E=q1:=⟨_,rfl⟩;have bp:=ad (am▸Bk E w3);have aN:=ad am;clear am;go_upto_region 16 with fail;go_wp2_with fail;refine bp.o.m ?_;rintro e y⟨rfl,rfl⟩;rcases bn.o q1 with rfl|rfl
  ·have F:=ad (bk.o aN.o);go_upto_region 19 with fail;have J:=A.o.c0 ⟨y,k.o.1.up⟩;have K:=A.o.c1 ⟨y,k.o.1.up⟩;have L:=A.o.c2 ⟨y,k.o.1.up⟩;have M:=A.o.c3 ⟨y,k.o.1.up⟩;have N:=A.o.c4 ⟨y,k.o.1.up⟩;have O:=A.o.c5 ⟨y,k.o.1.up⟩;have Q:=A.o.c6 ⟨y,k.o.1.up⟩;have R:=A.o.c7 ⟨y,k.o.1.up⟩;have S:=A.o.c8 ⟨y,k.o.1.up⟩;have T:=A.o.c9 ⟨y,k.o.1.up⟩;dsimp only at J K L M N O Q R S T;rw[show C+1*10=C+10 from by omega] at J K L M N O Q R S T;go_wp2_with fail;refine(aq.o y (l+D.length) a4 bg k.o.1 (by have:=a0.o;have:D.length≤cC i:=aU.o;omega)).m ?_;rintro e w5⟨a5,bi,rfl,ac,bx⟩;have bv:=ad ((ac.o.2.block _ (aB.1 af.o).1 (by have:=(aB.1 ab.o.box).1;omega) (IT ab.o HX.o k.o.2)).t af.o);have bo:=ad (a2.o.t ac.o.2);clear J K L M N O Q R S T G p1 p2 p3 p4 p5 p6 p7 p8 H;obtain⟨G,p1,p2,p3,p4,p5,p6,p7,p8,H⟩:=aM bv.o;go_upto_region 21 with fail;go_wp2_with fail;refine(Bk x2 w5).m ?_;rintro e w6⟨rfl,rfl⟩;clear G p1 p2 p3 p4 p5 p6 p7 p8 H;go_wp2_with fail;go_ret;exact⟨a5,bi,(by rw[F.o];rfl),ad ⟨by rw[F.o];show AK r w6 b h I a n c (l+(D++m2).length) a5 bi;rw[bB,←oh];exact ac.o.1,bo.o⟩,ad (by rw[F.o,bx.o,a3.o];exact yQ xs D m2)⟩
  ·have F:=ad (bl.o aN.o);go_wp2_with fail;go_ret;exact⟨a4,bg,(by rw[F.o];rfl),ad ⟨by rw[F.o];exact k.o.1,a2.o⟩,ad (by rw[F.o];exact a3.o)⟩
theorem SU(k:Int)(h4:4≤k)(h9:k≤9)(d i:Ex)(p:aaK)(hG:Good p)(b:Nat)(h E:aaM)(a:Option Addr)(n c:Nat)(val:bc→Bs×Bool)(t:Bs)(u:bc)(R z:Nat)(kc:Nat)(W:aaK)(l:Nat)(av:aaL)(xs:List aaL)(hK:AK p W b h E a n c l av xs)(a7:R<p.heap.size)(a9:gn (fun _=>True) p [d,i] R z)(a5:qR p b h E a n c val d)(a6:qR p b h E a n c val i)(a8:l+(1+(cC d+cC i))≤1000000000)(ai:nW (bt val d).1)(al:nW (bt val i).1):
 Calls Tryz.prog 143 #[.pointer (some ⟨b,0,none⟩),dY k t u (.slice (some ⟨R,z,none⟩) 2 kc)] W (nX p W b h E a n c l av xs (bt val (.mk k t u [d,i]))):=by
 have Q:Below W.heap.size W (W.alloc (.cells (dC k t u (.slice (some ⟨R,z,none⟩) 2 kc)).toArray 171)):=(ar _ _).alloc (ag _) _;have aa:=ad hK;have HB:=ad Q;have HN:=ad (au W (.cells (dC k t u (.slice (some ⟨R,z,none⟩) 2 kc)).toArray 171));have HE:=ad (show bt val (.mk k t u [d,i])=(.yes (fQ k (bt val d).1 (bt val i).1),(bt val d).2++(bt val i).2) by rw[kz,uy];unfold qI;rw[ae (by rcases nV k with h|h|h|h<;>simp only[bF,lH]<;>omega),ae (by omega),ae (by omega)];show(if k=3 then _ else if k=1∧_ then _ else if k=2∧_ then _ else if k=1∨k=2 then _ else _)=_;rw[ae (by omega),ae (by omega),ae (by omega),ae (by omega)])
 have be:=ad (fun(w:aaK)=>(show Calls Tryz.prog 177 #[.int .i64 k] w (cN w (.int .i64 2)) by have:=mg k w;rw[show fG k=2 by rcases nV k with h|h|h|h<;>omega] at this;exact this))
 have e1:(k==1)=false:=aL.2 (by omega);have e2:(k==2)=false:=aL.2 (by omega);have e3:(k==3)=false:=aL.2 (by omega);have bJ:(k==10)=false:=aL.2 (by omega);have b0:(k==11)=false:=aL.2 (by omega);have b1:(k==12)=false:=aL.2 (by omega);clear h4 h9;have bm:=ad a5;have a2:=ad a8;have bn:=ad a6;have a1:=ad (nG val d);have a3:=ad a9;have aN:=ad a7;obtain⟨b4,ca,cc,b6,b8,b2,an⟩:=nS a3.o (show[d,i][0]? =some d from rfl) (ar _ _) aN.o;have aU:=ad (fun(W:aaK) (l:Nat) (av:aaL) (xs:List aaL) (Q:AK p W b h E a n c l av xs) (hm:l+cC d≤1000000000)=>bm.o _ W l av xs (an.ex ⟨p,ar _ _⟩) Q hm);have x:=ad an;clear an;obtain⟨b5,cb,cd,b7,b9,b3,ao⟩:=nS a3.o (show[d,i][1]? =some i from rfl) (ar _ _) aN.o;have a0:=ad (fun(W:aaK) (l:Nat) (av:aaL) (xs:List aaL) (Q:AK p W b h E a n c l av xs) (hm:l+cC i≤1000000000)=>bn.o _ W l av xs (ao.ex ⟨p,ar _ _⟩) Q hm);have y:=ad ao;clear ao;obtain⟨x1,A,ap⟩:∃x1 A,bt val d=(x1,A):=⟨(bt val d).1,(bt val d).2,rfl⟩;obtain⟨x2,S,aq⟩:∃x2 S,bt val i=(x2,S):=⟨(bt val i).1,(bt val i).2,rfl⟩;rw[ap] at aU HE a1;rw[aq] at a0 HE;rw[ap] at ai;rw[aq] at al;have bk:=ad ai;have bl:=ad al;clear ai al;clear a5 a6 a8 a7 a9 ap aq;clear hK Q;go_enter Tryz.func143,Tryz.ntmps143;go_upto_region 1 with fail;generalize W.alloc (.cells (dC k t u (.slice (some ⟨R,z,none⟩) 2 kc)).toArray 171)=W1 at*;obtain⟨C,D⟩:=qX2 (bwX HN.o) 0 9
 haveI:Nonempty (BW W1):=⟨⟨W1,ar _ _⟩⟩
 refine aY 6 (fun B:BW W1=>B.val) ⟨W1.drew,cw (ar _ _)⟩ rfl (by kernel_rfl) (by rfl) (by rfl) (by kernel_rfl) (by kernel_rfl) (by kernel_rfl) ?_;simp only[ki,kL];repeat(quiet_step ((go_at_call 177;refine(be.o _).m ?_;rintro e v1⟨rfl,bv⟩;exact⟨rfl,⟨v1,BW.next _ bv⟩,rfl⟩)))
 refine wpQuiet_nil ?_;rintro w'⟨B,rfl⟩;rw[ah (by rfl)];have ay:=ad (HB.o.t (B.below.m HB.o.size));have HX:=ad ((B.below.block _ (aB.1 HN.o).1).t HN.o);have q:=ad (aa.o.next ay.o);have HS:=ad ((dX.refl W b av).next ay.o);clear C D;go_simp;generalize B.val=r at*;obtain⟨C,T,V,X,Y,Z,p6,p7,p8,D⟩:=aM HX.o;have F:=x.o.c0 ⟨r,q.o.up⟩;have G:=x.o.c1 ⟨r,q.o.up⟩;have H:=x.o.c2 ⟨r,q.o.up⟩;have I:=x.o.c3 ⟨r,q.o.up⟩;have J:=x.o.c4 ⟨r,q.o.up⟩;have K:=x.o.c5 ⟨r,q.o.up⟩;have L:=x.o.c6 ⟨r,q.o.up⟩;have M:=x.o.c7 ⟨r,q.o.up⟩;have N:=x.o.c8 ⟨r,q.o.up⟩;have O:=x.o.c9 ⟨r,q.o.up⟩;dsimp only at F G H I J K L M N O;rw[show z+0*10=z from by omega] at F G H I J K L M N O;go_wp2_with fail;refine(aU.o r l av xs q.o (by have:=a2.o;omega)).m ?_;rintro e s⟨bs,bx,rfl,j,bp⟩;have af:=ad (dX.row aa.o (ag _) HX.o j.o.2);have bf:=ad (HS.o.t j.o.2);clear F G H I J K L M N O C T V X Y Z p6 p7 p8 D;obtain⟨C,T,V,X,Y,Z,p6,p7,p8,D⟩:=aM af.o;go_upto_region 19 with fail;have F:=y.o.c0 ⟨s,j.o.1.up⟩;have G:=y.o.c1 ⟨s,j.o.1.up⟩;have H:=y.o.c2 ⟨s,j.o.1.up⟩;have I:=y.o.c3 ⟨s,j.o.1.up⟩;have J:=y.o.c4 ⟨s,j.o.1.up⟩;have K:=y.o.c5 ⟨s,j.o.1.up⟩;have L:=y.o.c6 ⟨s,j.o.1.up⟩;have M:=y.o.c7 ⟨s,j.o.1.up⟩;have N:=y.o.c8 ⟨s,j.o.1.up⟩;have O:=y.o.c9 ⟨s,j.o.1.up⟩;dsimp only at F G H I J K L M N O;rw[show z+1*10=z+10 from by omega] at F G H I J K L M N O;go_wp2_with fail;refine(a0.o s (l+A.length) bs bx j.o.1 (by have:=a2.o;have:A.length≤cC d:=a1.o;omega)).m ?_;rintro e w5⟨a4,bb,rfl,ac,br⟩;have bo:=ad ((ac.o.2.block _ (aB.1 af.o).1 (by have:=(aB.1 aa.o.box).1;omega) (IT aa.o HX.o j.o.2)).t af.o);have bg:=ad (bf.o.t ac.o.2);clear F G H I J K L M N O C T V X Y Z p6 p7 p8 D;obtain⟨C,T,V,X,Y,Z,p6,p7,p8,D⟩:=aM bo.o;have ab:=ad (show bt val (.mk k t u [d,i])=(.yes (fQ k x1 x2),A++S) from HE.o);go_upto_region 22 with fail;go_wp2_with fail;refine(Fw k x1 x2 bk.o bl.o w5).m ?_;rintro e w6⟨rfl,am⟩;have bd:=ad (ac.o.1.next am);have bi:=ad (bg.o.next am);clear C T V X Y Z p6 p7 p8 D am;go_wp2_with fail;go_ret;exact⟨a4,bb,(by rw[ab.o];rfl),ad ⟨by rw[ab.o];show AK p w6 b h E a n c (l+(A++S).length) a4 bb;rw[bB,←oh];exact bd.o,bi.o⟩,ad (by rw[ab.o,br.o,bp.o];exact yQ xs A S)⟩
theorem Qh(e:aaK)(p:Good e)(b:Nat)(h d:aaM)(a:Option Addr)(n c:Nat)(fs:List dQ)(hF:aZ e (.slice a n c) fs)(L:rX fs)(V:h.size≤100002000)(O:d.size≤100000)(x:Ex):tE x→qR e b h d a n c (gr h.data.toList d.data.toList fs) x:=by
 refine Ex.ind (P:=fun x=>tE x→qR e b h d a n c (gr h.data.toList d.data.toList fs) x) (fun k t u l ih N v W m av xs Z q E=> ?_) x;have H:∀y,tE y→nW (bt (gr h.data.toList d.data.toList fs) y).1:=fun y G=>IU L (by rw[bj];exact V) (by rw[bj];exact O) y G;obtain⟨kv,rfl,J⟩:=pH.1 Z;have X:∃a c,kv=.slice a l.length c:=by rcases J with⟨rfl,a,c,rfl⟩|⟨b,o,c,rfl,_⟩<;>exact⟨_,_,rfl⟩
 obtain⟨ka,kc,rfl⟩:=X;rw[cC] at E;unfold tE at N;obtain⟨o1,o2,o3,o4,o5⟩:=N;have A:∀B,B∈l→qR e b h d a n c (gr h.data.toList d.data.toList fs) B:=fun B Q=>ih B Q (xw o5 Q);by_cases M:fG k≠(l.length:Int)
 ·exact U3 k l e p b h d a n c _ t u ka kc W m av xs q M
 ·have I:fG k=(l.length:Int):=Decidable.not_not.1 M;have K:∀y,l[0]? =some y→∃j r,ka=some ⟨j,r,none⟩∧j<e.heap.size∧gn (fun _=>True) e l j r:=fun y G=>by obtain⟨b,o,c',I,_,w,z⟩:=PG J G;injection I with R h2 h3;exact⟨b,o,R,w,z⟩
  rcases nV k with⟨C,D⟩|⟨C,rfl⟩|⟨C,D⟩|⟨C,_⟩
  ·have Y:l.length=0:=by omega
   obtain rfl:=List.length_eq_zero_iff.1 Y;rcases D with rfl|rfl|rfl
   ·exact U4 10 (Or.inl rfl) e p b h d a n c _ t u ka kc W m av xs q
   ·exact U4 11 (Or.inr rfl) e p b h d a n c _ t u ka kc W m av xs q
   ·exact U6 fs e p b h d a n c _ t u ka kc W m av xs q hF L O o3 (by omega) rfl
  ·obtain⟨i,rfl⟩:=SE (l:=l) (by omega);obtain⟨j,r,rfl,w,z⟩:=K i rfl;exact V6 i e p b h d a n c _ t u j r kc W m av xs q w z (A i (by simp)) (by rw[j6,j6] at E;omega)
  ·obtain⟨i,s,rfl⟩:=SF (l:=l) (by omega);obtain⟨j,r,rfl,w,z⟩:=K i rfl;have F:m+(1+(cC i+cC s))≤1000000000:=by rw[j6,j6,j6] at E;omega
   rcases D with rfl|rfl|⟨S,T⟩
   ·exact V7 1 true false (Or.inl ⟨rfl,rfl,rfl⟩) i s e p b h d a n c _ t u j r kc W m av xs q w z (A i (by simp)) (A s (by simp)) F
   ·exact V7 2 false true (Or.inr ⟨rfl,rfl,rfl⟩) i s e p b h d a n c _ t u j r kc W m av xs q w z (A i (by simp)) (A s (by simp)) F
   ·exact SU k S T i s e p b h d a n c _ t u j r kc W m av xs q w z (A i (by simp)) (A s (by simp)) F (H i (xw o5 (by simp))) (H s (xw o5 (by simp)))
  ·omega
