/- The walk of ask: an expression's value, and which uses were asked for it. -/
import Derived.Test.YtogchgjfialleaaGreatDoorKax
import Derived.Test.YtogchgjfialleaaGreatDoorKbf
set_option linter.unusedVariables false
set_option maxRecDepth 100000
set_option maxHeartbeats 8000000
namespace Go.Proofs.YtogchgjfialleaaGreatDoor
open Go.RowKit
theorem Qe{h t:Bs}{fs:List dQ}{u:iZ}(a:(dK h t fs u.name u.key u.hk).2=true):jD h t fs u=dK h t fs u.name u.key u.hk:=by unfold jD;rw[a];rfl
theorem Qf{h t:Bs}{fs:List dQ}{u:iZ}(a:(dK h t fs u.name u.key u.hk).2=false)(b:u.hd=true):jD h t fs u=(u.cK,true):=by unfold jD;rw[a,b];rfl
theorem SQ{h t:Bs}{fs:List dQ}{u:iZ}(a:(dK h t fs u.name u.key u.hk).2=false)(b:u.hd=false):jD h t fs u=([],false):=by unfold jD;rw[a,b];rfl
theorem IQ(u:bc)(h t:ByteArray)(a:Option Addr)(n c:Nat)(fs:List dQ)(w:World)(A:Good w)(hF:aZ w (.slice a n c) fs)(Q:rX fs)(R:t.size≤100000)(W:u.key.length≤100000):
 Calls Tryz.prog 140 #[VW u,.agg #[.string h,.string t,.slice a n c]] w (cN w (.tuple #[.string ⟨(gr h.data.toList t.data.toList fs u).1.toArray⟩,.bool (gr h.data.toList t.data.toList fs u).2])):=by
 obtain⟨V,o⟩:∃V,gr h.data.toList t.data.toList fs u=V:=⟨_,rfl⟩;have j:=ad o;unfold gr at j;have b:=ad (jG w (.cells #[.int .i64 u.src,.int .i64 u.bJ,.string ⟨u.name.toArray⟩,.string ⟨u.key.toArray⟩,.string ⟨u.cK.toArray⟩,.bool u.hk,.bool u.hd] 133) (.cells #[.string h,.string t,.slice a n c] 47));have s:=ad A;have r:=ad hF;rw[o];clear A hF o;go_enter Tryz.func140,Tryz.ntmps140;go_wp2_with fail;generalize(w.alloc (.cells #[.int .i64 u.src,.int .i64 u.bJ,.string ⟨u.name.toArray⟩,.string ⟨u.key.toArray⟩,.string ⟨u.cK.toArray⟩,.bool u.hk,.bool u.hd] 133)).alloc (.cells #[.string h,.string t,.slice a n c] 47)=W0 at*;have B:=s.out.next b.out.below;have z:=r.out.below b.out.below;have l:=ad b.out.below;have m:=ad b.out.b1;clear b s r;refine(E3 h t ⟨u.name.toArray⟩ ⟨u.key.toArray⟩ a n c fs u.hk _ B z Q R (by simp[ByteArray.size];omega)).mono ?_;rintro e X⟨rfl,p⟩;have x:dK h.data.toList t.data.toList fs (⟨u.name.toArray⟩:ByteArray).data.toList (⟨u.key.toArray⟩:ByteArray).data.toList u.hk=dK h.data.toList t.data.toList fs u.name u.key u.hk:=rfl;rw[x];clear x B z;have C:=ad ((p.block _ (aB.1 m.out).1).trans m.out);obtain⟨I,J,K,L,M,N,O,D,E,F,G,S,H,T⟩:=eg C.out;have k:=ad (l.out.trans (p.mono l.out.size));clear p l m D E F G H I J K L M N O;rcases i:(dK h.data.toList t.data.toList fs u.name u.key u.hk).2 with _|_
 ·have q:=ad i;rcases y:u.hd with _|_
  ·have d:=ad (show V=([],false) from j.out▸SQ (u:=⟨0,0,u.name,u.key,u.cK,u.hk,u.hd⟩) i y);go_wp2;go_ret2;rw[d.out];exact⟨rfl,k.out⟩
  ·have d:=ad (show V=(u.cK,true) from j.out▸Qf (u:=⟨0,0,u.name,u.key,u.cK,u.hk,u.hd⟩) i y);go_wp2;go_ret2;rw[d.out];exact⟨rfl,k.out⟩
 ·have d:=ad (show V=dK h.data.toList t.data.toList fs u.name u.key u.hk from j.out▸Qe (u:=⟨0,0,u.name,u.key,u.cK,u.hk,u.hd⟩) i);have q:=ad i;go_wp2;go_ret2;rw[d.out,q.out];exact⟨rfl,k.out⟩
mutual
def tE:Ex→Prop
 |.mk _ t u l=>t.length≤100000∧u.name.length≤100000∧u.key.length≤100000∧u.cK.length≤100000∧QR l
def QR:List Ex→Prop
 |[]=>True
 |x::r=>tE x∧QR r
end
mutual
def cC:Ex→Nat
 |.mk _ _ _ l=>1+j6 l
def j6:List Ex→Nat
 |[]=>0
 |x::r=>cC x+j6 r
end
theorem xw:∀{l:List Ex} {x:Ex},QR l→x∈l→tE x
 |[],_,_,h=>by cases h
 |y::r,x,h,a=>by
  unfold QR at h;rcases bL.1 a with e|a
  ·rw[e];exact h.1
  ·exact xw h.2 a
theorem Me(val:bc→Bs×Bool)(x:Ex):(iy val x).2≤cC x:=by
 refine Ex.ind (P:=fun x=>(iy val x).2≤cC x) (fun k t u l h=> ?_) x;rw[Kd,cC];unfold Bi;rw[Fv];by_cases c:fG k≠(l.length:Int)
 ·rw[ah c];exact aH _
 ·rw[ae c];by_cases d:k=10∨k=11
  ·rw[ah d];exact aH _
  ·rw[ae d];by_cases e:k=12
   ·rw[ah e];show 1≤_;omega
   ·rw[ae e]
    match l with
    |[]=>rw[th];exact aH _
    |a::r=>
     have i:=h a (by simp);rw[th,j6];show(if k=3 then((.yes (!oz (iy val a).1),(iy val a).2):TV×Nat) else if k=1∧oz (iy val a).1=true then(.yes true,(iy val a).2) else if k=2∧oz (iy val a).1=false then(.yes false,(iy val a).2) else match th val r with
      |[]=>(.none,0)
      |B::_=>if k=1∨k=2 then(.yes (oz B.1),(iy val a).2+B.2) else(.yes (fQ k (iy val a).1 B.1),(iy val a).2+B.2)).2≤_
     split
     ·show(iy val a).2≤_;omega
     ·split
      ·show(iy val a).2≤_;omega
      ·split
       ·show(iy val a).2≤_;omega
       ·match r with
        |[]=>rw[th];exact aH _
        |b::m=>
         have j:=h b (by simp);rw[th,j6];show(if k=1∨k=2 then((.yes (oz (iy val b).1),(iy val a).2+(iy val b).2):TV×Nat) else(.yes (fQ k (iy val a).1 (iy val b).1),(iy val a).2+(iy val b).2)).2≤_;split
         ·show(iy val a).2+(iy val b).2≤_;omega
         ·show(iy val a).2+(iy val b).2≤_;omega
theorem Mf{h t:Bs}{fs:List dQ}(b:rX fs)(a:h.length≤100002000)(d:t.length≤100000)(x:Ex):tE x→nW (iy (gr h t fs) x).1:=by
 refine Ex.ind (P:=fun x=>tE x→nW (iy (gr h t fs) x).1) (fun k e u l i c=> ?_) x;unfold tE at c;rw[Kd];unfold Bi;split
 ·trivial
 ·split
  ·show e.length≤_;omega
  ·split
   ·show nW (bif(gr h t fs u).2 then TV.sr (gr h t fs u).1 else TV.none);cases(gr h t fs u).2
    ·trivial
    ·show(gr h t fs u).1.length≤_;have:=O9 (h:=h) (t:=t) (fs:=fs) ⟨0,0,u.name,u.key,u.cK,u.hk,u.hd⟩ b a d (by show u.cK.length≤_;omega);show(jD h t fs ⟨0,0,u.name,u.key,u.cK,u.hk,u.hd⟩).1.length≤_;omega
   ·split
    ·trivial
    ·split
     ·trivial
     ·split
      ·trivial
      ·split
       ·trivial
       ·split
        ·trivial
        ·split<;>trivial
structure AK (w0 W:World) (b:Nat) (h t:ByteArray) (a:Option Addr) (n c:Nat) (m:Nat) (av:Value) (xs:List Value):Prop where
 up:Below w0.heap.size w0 W
 box:W.heap[b]? =some (.cells #[.string h,.string t,.slice a n c,av] 184)
 own:W.ownsRow w0.heap.size 133 7 av m xs
 far:w0.heap.size≤b
 ne:some b≠av.ownBlock
theorem AK.next{e W W':World}{b:Nat}{h t:ByteArray}{a:Option Addr}{n c m:Nat}{av:Value}{xs:List Value}(H:AK e W b h t a n c m av xs)(d:Below W.heap.size W W'):AK e W' b h t a n c m av xs:=
 ⟨H.up.trans (d.mono H.up.size),(d.block _ (aB.1 H.box).1).trans H.box,cp H.own d,H.far,H.ne⟩
theorem dX.row{p W i w':World}{b d:Nat}{h t:ByteArray}{a:Option Addr}{n c m:Nat}{av l:Value}{xs:List Value}{o:Obj}(j:AK p W b h t a n c m av xs)(r:W.heap.size≤d)(k:i.heap[d]? =some o)(H:dX i w' b av l):w'.heap[d]? =some o:=by have q:=(aB.1 j.box).1;refine(H.block d (aB.1 k).1 (by omega) ?_).trans k;intro e;have:=(j.own.lt d e.symm).2;omega
theorem IT{q W j w':World}{b d:Nat}{h t:ByteArray}{a:Option Addr}{n c m:Nat}{av k:Value}{xs:List Value}{o:Obj}(l:AK q W b h t a n c m av xs)(p:j.heap[d]? =some o)(H:dX j w' b av k)(s:W.heap.size≤d:=by exact ag _):some d≠k.ownBlock:=by
 have r:=(aB.1 p).1;intro e;rcases H.own with i|⟨g,i,u⟩
 ·rw[i] at e;have:=(l.own.lt d e.symm).2;omega
 ·rw[i] at e;cases e;omega
theorem SR{p W d:World}{b g cap:Nat}{h t:ByteArray}{a:Option Addr}{n c m:Nat}{av:Value}{xs x:List Value}{O:Obj}(H:AK p W b h t a n c m av xs)
 (D:d.ownsRow p.heap.size 133 7 (.slice (some ⟨g,0,none⟩) (m+1) cap) (m+1) (xs++x))(l:(W.alloc O).grownBy d av.ownBlock)(u:some g=av.ownBlock∨W.heap.size+1≤g):
 AK p (d.setCell ⟨b,3,none⟩ (.slice (some ⟨g,0,none⟩) (m+1) cap)) b h t a n c (m+1) (.slice (some ⟨g,0,none⟩) (m+1) cap) (xs++x)∧dX W (d.setCell ⟨b,3,none⟩ (.slice (some ⟨g,0,none⟩) (m+1) cap)) b av (.slice (some ⟨g,0,none⟩) (m+1) cap)∧d.heap[b]? =some (.cells #[.string h,.string t,.slice a n c,av] 184):=by
 have i:Below W.heap.size W (W.alloc O):=(ar _ _).alloc (ag _) _;have C:=(aB.1 H.box).1;have F:=i.size;have G:=l.size;have r:d.heap[b]? =some (.cells #[.string h,.string t,.slice a n c,av] 184):=((l.block b (by omega) H.ne).trans (i.block b C)).trans H.box;have o:ak b d (d.setCell ⟨b,3,none⟩ (.slice (some ⟨g,0,none⟩) (m+1) cap)):=(ak.refl _ _).set;have I:=o.size;have E:∀q,av.ownBlock=some q→p.heap.size≤q∧q<W.heap.size:=fun q hq=>H.own.lt q hq;have s:g≠b:=by
  rcases u with e|e
  ·intro y;subst y;exact H.ne e
  ·omega
 have w:=((H.up.trans (i.mono H.up.size))).grown l (by have:=H.up.size;omega) (fun q hq=>(E q hq).1);refine⟨⟨w.trans (o.below H.far (by have:=w.size;omega)),aw (j:=3) r,D.kept o (.inr ?_),H.far, ?_⟩,⟨by omega,fun k z A B=> ?_, ?_⟩,r⟩
 ·intro e;simp[Value.ownBlock] at e;exact s e
 ·intro e;simp[Value.ownBlock] at e;exact s e.symm
 ·exact(o.block k (by omega) (by intro e;cases e;exact A rfl)).trans ((l.block k (by omega) B).trans (i.block k z))
 ·rcases u with e|e
  ·exact .inl (by simpa[Value.ownBlock] using e)
  ·exact .inr ⟨g,rfl,by omega⟩
theorem Mg(val:bc→Bs×Bool)(k:Int)(t:Bs)(u:bc)(L:List (TV×List bc)):Bi val k t u (L.map fun p=>(p.1,p.2.length))=((qI val k t u L).1,(qI val k t u L).2.length):=by
 unfold Bi qI;rw[jo];by_cases a:fG k≠(L.length:Int)
 ·rw[ah a,ah a];rfl
 rw[ae a,ae a];by_cases b:k=10∨k=11
 ·rw[ah b,ah b];rfl
 rw[ae b,ae b];by_cases c:k=12
 ·rw[ah c,ah c];rfl
 rw[ae c,ae c]
 match L with
 |[]=>rfl
 |A::R=>
  simp only[kg];by_cases d:k=3
  ·rw[ah d,ah d]
  rw[ae d,ae d];by_cases e:k=1∧oz A.1=true
  ·rw[ah e,ah e]
  rw[ae e,ae e];by_cases h:k=2∧oz A.1=false
  ·rw[ah h,ah h]
  rw[ae h,ae h]
  match R with
  |[]=>rfl
  |B::_=>
   simp only[kg];by_cases i:k=1∨k=2
   ·rw[ah i,ah i,bB]
   ·rw[ae i,ae i,bB]
mutual
theorem yP (val:bc→Bs×Bool):∀x:Ex,iy val x=((bt val x).1,(bt val x).2.length)
 |.mk k t u l=>by rw[iy,bt,Bm val l];exact Mg val k t u _
theorem Bm (val:bc→Bs×Bool):∀l:List Ex,th val l=(ig val l).map fun p=>(p.1,p.2.length)
 |[]=>by rw[th,ig];rfl
 |x::r=>by rw[th,ig,kg,yP val x,Bm val r]
end
theorem nG(val:bc→Bs×Bool)(x:Ex):(bt val x).2.length≤cC x:=by have h:=Me val x;rw[yP] at h;exact h
theorem IU{h t:Bs}{fs:List dQ}(b:rX fs)(a:h.length≤100002000)(d:t.length≤100000)(x:Ex)(c:tE x):nW (bt (gr h t fs) x).1:=by have h:=Mf b a d x c;rw[yP] at h;exact h
theorem Bn(val:bc→Bs×Bool):∀l,(ig val l).length=l.length
 |[]=>by rw[ig];rfl
 |x::r=>by rw[ig,bF,Bn val r];rfl
theorem kz(val:bc→Bs×Bool)(k:Int)(t:Bs)(u:bc)(l:List Ex):bt val (.mk k t u l)=qI val k t u (ig val l):=by rw[bt]
theorem Mh(val:bc→Bs×Bool)(a:Ex):ig val [a]=[bt val a]:=by rw[ig,ig]
theorem uy(val:bc→Bs×Bool)(a b:Ex):ig val [a,b]=[bt val a,bt val b]:=by rw[ig,ig,ig]
abbrev Qg(u:bc):List Value:=[.int .i64 u.src,.int .i64 u.bJ,.string ⟨u.name.toArray⟩,.string ⟨u.key.toArray⟩,.string ⟨u.cK.toArray⟩,.bool u.hk,.bool u.hd]
def ti:List bc→List Value
 |[]=>[]
 |u::r=>Qg u++ti r
theorem Fx:∀l m:List bc,ti (l++m)=ti l++ti m
 |[],m=>rfl
 |u::r,m=>by rw[di,ti,ti,Fx r m,jl]
theorem yQ(xs:List Value)(l m:List bc):(xs++ti l)++ti m=xs++ti (l++m):=by rw[Fx,jl]
def nX(j W:World)(b:Nat)(h t:ByteArray)(a:Option Addr)(n c m:Nat)(av:Value)(xs:List Value)(r:TV×List bc):Ending→World→Prop:=fun e w'=>∃d i,e=.returned (Wg r.1)∧Hid (AK j w' b h t a n c (m+r.2.length) d i∧dX W w' b av d)∧Hid (i=xs++ti r.2)
def qR(d:World)(b:Nat)(h t:ByteArray)(a:Option Addr)(n c:Nat)(val:bc→Bs×Bool)(y:Ex):Prop:=
 ∀(v:Value) (W:World) (m:Nat) (av:Value) (xs:List Value),dR (fun _=>True) d y v→AK d W b h t a n c m av xs→m+cC y≤1000000000→Calls Tryz.prog 116 #[.pointer (some ⟨b,0,none⟩),v] W (nX d W b h t a n c m av xs (bt val y))
theorem U2:(Tryz.prog.info? 133).map (fun i=>(i.zero,i.size,i.bytes))=some (some (.agg #[.int .i64 0,.int .i64 0,.string ⟨#[]⟩,.string ⟨#[]⟩,.string ⟨#[]⟩,.bool false,.bool false]),7,72):=by kernel_rfl
theorem SS:Tryz.prog.underlying 140=some (.slice 133):=by kernel_rfl
theorem U3(k:Int)(l:List Ex)(s:World)(T:Good s)(b:Nat)(h C:ByteArray)(a:Option Addr)(n c:Nat)(val:bc→Bs×Bool)(t:Bs)(u:bc)(ka:Option Addr)(kc:Nat)(W:World)(m:Nat)(av:Value)(xs:List Value)(A:AK s W b h C a n c m av xs)(j:fG k≠(l.length:Int)):
 Calls Tryz.prog 116 #[.pointer (some ⟨b,0,none⟩),dY k t u (.slice ka l.length kc)] W (nX s W b h C a n c m av xs (bt val (.mk k t u l))):=by
 have z:Below W.heap.size W (W.alloc (.cells (dC k t u (.slice ka l.length kc)).toArray 136)):=(ar _ _).alloc (ag _) _;have E:=ad A;have x:=ad z;have d:=ad (au W (.cells (dC k t u (.slice ka l.length kc)).toArray 136));have o:=ad (show bt val (.mk k t u l)=(.none,[]) by rw[kz];unfold qI;rw[Bn,ah j])
 obtain⟨q,hq⟩:∃q,fG k=q:=⟨_,rfl⟩;rw[hq] at j;have V:((l.length:Int)!=q)=true:=by rw[bne,aL.2 (eo j)];rfl
 have F:=ad (fun(w:World)=>hq▸mg k w);clear j hq;clear A z;go_enter Tryz.func116,Tryz.ntmps116;go_upto_region 1 with fail;generalize W.alloc (.cells (dC k t u (.slice ka l.length kc)).toArray 136)=i at*;have p:∀B:BW i,B.val.cell? ⟨W.heap.size,0,none⟩=_:=fun B=>aj 0 ((B.below.block _ (aB.1 d.out).1).trans d.out);have r:∀B:BW i,B.val.cell? ⟨W.heap.size,9,none⟩=_:=fun B=>aj 9 ((B.below.block _ (aB.1 d.out).1).trans d.out)
 haveI:Nonempty (BW i):=⟨⟨i,ar _ _⟩⟩
 refine aY 6 (fun B:BW i=>B.val) ⟨i.drew,cw (ar _ _)⟩ rfl (by kernel_rfl) (by rfl) (by rfl) (by kernel_rfl) (by kernel_rfl) (by kernel_rfl) ?_;simp only[ki,kL];repeat(quiet_step ((go_at_call 160;refine(F.out _).mono ?_;rintro e v1⟨rfl,I⟩;exact⟨rfl,⟨v1,BW.next _ I⟩,rfl⟩)))
 refine wpQuiet_nil ?_;rintro w'⟨B,rfl⟩;rw[ah (by rfl)];have y:=ad (x.out.trans (B.below.mono x.out.size));have H:=ad ((B.below.block _ (aB.1 d.out).1).trans d.out);have D:=ad (E.out.next y.out);have G:=ad ((dX.refl W b av).next y.out);clear p r;go_simp;generalize B.val=S at*;obtain⟨p,J,K,L,M,N,O,Q,R,r⟩:=aM H.out;clear p J K L M N O Q R r;go_wp2_with fail;go_ret;exact⟨av,xs,(by rw[o.out];rfl),ad ⟨by rw[o.out];exact D.out,G.out⟩,ad (by rw[o.out];exact(jm xs).symm)⟩
theorem U4(k:World)(G:Good k)(b:Nat)(h x:ByteArray)(a:Option Addr)(n c:Nat)(val:bc→Bs×Bool)(t:Bs)(u:bc)(ka:Option Addr)(kc:Nat)(W:World)(m:Nat)(av:Value)(xs:List Value)(q:AK k W b h x a n c m av xs):
 Calls Tryz.prog 116 #[.pointer (some ⟨b,0,none⟩),dY 10 t u (.slice ka 0 kc)] W (nX k W b h x a n c m av xs (bt val (.mk 10 t u []))):=by
 have p:Below W.heap.size W (W.alloc (.cells (dC 10 t u (.slice ka 0 kc)).toArray 136)):=(ar _ _).alloc (ag _) _;have z:=ad q;have l:=ad p;have d:=ad (au W (.cells (dC 10 t u (.slice ka 0 kc)).toArray 136));have j:=ad (show bt val (.mk 10 t u [])=(.sr t,[]) by rw[kz];rfl);have A:=ad (fun(w:World)=>(show Calls Tryz.prog 160 #[.int .i64 10] w (cN w (.int .i64 0)) by have:=mg 10 w;rw[show fG 10=0 from rfl] at this;exact this))
 clear q p;go_enter Tryz.func116,Tryz.ntmps116;go_upto_region 1 with fail;generalize W.alloc (.cells (dC 10 t u (.slice ka 0 kc)).toArray 136)=i at*;have r:∀B:BW i,B.val.cell? ⟨W.heap.size,0,none⟩=_:=fun B=>aj 0 ((B.below.block _ (aB.1 d.out).1).trans d.out);have s:∀B:BW i,B.val.cell? ⟨W.heap.size,9,none⟩=_:=fun B=>aj 9 ((B.below.block _ (aB.1 d.out).1).trans d.out)
 haveI:Nonempty (BW i):=⟨⟨i,ar _ _⟩⟩
 refine aY 6 (fun B:BW i=>B.val) ⟨i.drew,cw (ar _ _)⟩ rfl (by kernel_rfl) (by rfl) (by rfl) (by kernel_rfl) (by kernel_rfl) (by kernel_rfl) ?_;simp only[ki,kL];repeat(quiet_step ((go_at_call 160;refine(A.out _).mono ?_;rintro e v1⟨rfl,E⟩;exact⟨rfl,⟨v1,BW.next _ E⟩,rfl⟩)))
 refine wpQuiet_nil ?_;rintro w'⟨B,rfl⟩;rw[ah (by rfl)];have o:=ad (l.out.trans (B.below.mono l.out.size));have D:=ad ((B.below.block _ (aB.1 d.out).1).trans d.out);have y:=ad (z.out.next o.out);have C:=ad ((dX.refl W b av).next o.out);clear r s;go_simp;generalize B.val=F at*;obtain⟨r,H,I,J,K,L,M,N,O,s⟩:=aM D.out;go_wp2_with fail;go_ret;exact⟨av,xs,(by rw[j.out];rfl),ad ⟨by rw[j.out];exact y.out,C.out⟩,ad (by rw[j.out];exact(jm xs).symm)⟩
theorem U5(k:World)(G:Good k)(b:Nat)(h x:ByteArray)(a:Option Addr)(n c:Nat)(val:bc→Bs×Bool)(t:Bs)(u:bc)(ka:Option Addr)(kc:Nat)(W:World)(m:Nat)(av:Value)(xs:List Value)(q:AK k W b h x a n c m av xs):
 Calls Tryz.prog 116 #[.pointer (some ⟨b,0,none⟩),dY 11 t u (.slice ka 0 kc)] W (nX k W b h x a n c m av xs (bt val (.mk 11 t u []))):=by
 have p:Below W.heap.size W (W.alloc (.cells (dC 11 t u (.slice ka 0 kc)).toArray 136)):=(ar _ _).alloc (ag _) _;have z:=ad q;have l:=ad p;have d:=ad (au W (.cells (dC 11 t u (.slice ka 0 kc)).toArray 136));have j:=ad (show bt val (.mk 11 t u [])=(.sr t,[]) by rw[kz];rfl);have A:=ad (fun(w:World)=>(show Calls Tryz.prog 160 #[.int .i64 11] w (cN w (.int .i64 0)) by have:=mg 11 w;rw[show fG 11=0 from rfl] at this;exact this))
 clear q p;go_enter Tryz.func116,Tryz.ntmps116;go_upto_region 1 with fail;generalize W.alloc (.cells (dC 11 t u (.slice ka 0 kc)).toArray 136)=i at*;have r:∀B:BW i,B.val.cell? ⟨W.heap.size,0,none⟩=_:=fun B=>aj 0 ((B.below.block _ (aB.1 d.out).1).trans d.out);have s:∀B:BW i,B.val.cell? ⟨W.heap.size,9,none⟩=_:=fun B=>aj 9 ((B.below.block _ (aB.1 d.out).1).trans d.out)
 haveI:Nonempty (BW i):=⟨⟨i,ar _ _⟩⟩
 refine aY 6 (fun B:BW i=>B.val) ⟨i.drew,cw (ar _ _)⟩ rfl (by kernel_rfl) (by rfl) (by rfl) (by kernel_rfl) (by kernel_rfl) (by kernel_rfl) ?_;simp only[ki,kL];repeat(quiet_step ((go_at_call 160;refine(A.out _).mono ?_;rintro e v1⟨rfl,E⟩;exact⟨rfl,⟨v1,BW.next _ E⟩,rfl⟩)))
 refine wpQuiet_nil ?_;rintro w'⟨B,rfl⟩;rw[ah (by rfl)];have o:=ad (l.out.trans (B.below.mono l.out.size));have D:=ad ((B.below.block _ (aB.1 d.out).1).trans d.out);have y:=ad (z.out.next o.out);have C:=ad ((dX.refl W b av).next o.out);clear r s;go_simp;generalize B.val=F at*;obtain⟨r,H,I,J,K,L,M,N,O,s⟩:=aM D.out;go_wp2_with fail;go_ret;exact⟨av,xs,(by rw[j.out];rfl),ad ⟨by rw[j.out];exact y.out,C.out⟩,ad (by rw[j.out];exact(jm xs).symm)⟩
theorem U6(fs:List dQ)(j:World)(hG:Good j)(b:Nat)(h r:ByteArray)(a:Option Addr)(n c:Nat)(val:bc→Bs×Bool)(t:Bs)(u:bc)(ka:Option Addr)(kc:Nat)(W:World)(m:Nat)(av:Value)(xs:List Value)(Q:AK j W b h r a n c m av xs)(hF:aZ j (.slice a n c) fs)(X:rX fs)(ht:r.size≤100000)(T:u.key.length≤100000)(Y:m≤1000000000)(ab:val=gr h.data.toList r.data.toList fs):
 Calls Tryz.prog 116 #[.pointer (some ⟨b,0,none⟩),dY 12 t u (.slice ka 0 kc)] W (nX j W b h r a n c m av xs (bt val (.mk 12 t u []))):=by
 have N:Below W.heap.size W (W.alloc (.cells (dC 12 t u (.slice ka 0 kc)).toArray 136)):=(ar _ _).alloc (ag _) _;have J:=ad Q;have G:=ad N;have k:=ad (au W (.cells (dC 12 t u (.slice ka 0 kc)).toArray 136));have s:=ad (show bt val (.mk 12 t u [])=(bif(val u).2 then .sr (val u).1 else .none,[u]) by rw[kz];rfl);have z:=ad (fun(w:World) (hw:Below j.heap.size j w)=>IQ u h r a n c fs w (hG.next hw) (hF.below hw) X ht T);have K:=ad Y;rw[←ab] at z;obtain⟨V,q,R⟩:∃V q,val u=(V,q):=⟨(val u).1,(val u).2,rfl⟩;rw[R] at z s;clear hF X ht T ab R Y;have af:=ad (fun(w:World)=>(show Calls Tryz.prog 160 #[.int .i64 12] w (cN w (.int .i64 0)) by have:=mg 12 w;rw[show fG 12=0 from rfl] at this;exact this))
 clear Q N;go_enter Tryz.func116,Tryz.ntmps116;go_upto_region 1 with fail;generalize W.alloc (.cells (dC 12 t u (.slice ka 0 kc)).toArray 136)=l at*;have D:∀B:BW l,B.val.cell? ⟨W.heap.size,0,none⟩=_:=fun B=>aj 0 ((B.below.block _ (aB.1 k.out).1).trans k.out);have E:∀B:BW l,B.val.cell? ⟨W.heap.size,9,none⟩=_:=fun B=>aj 9 ((B.below.block _ (aB.1 k.out).1).trans k.out)
 haveI:Nonempty (BW l):=⟨⟨l,ar _ _⟩⟩
 refine aY 6 (fun B:BW l=>B.val) ⟨l.drew,cw (ar _ _)⟩ rfl (by kernel_rfl) (by rfl) (by rfl) (by kernel_rfl) (by kernel_rfl) (by kernel_rfl) ?_;simp only[ki,kL];repeat(quiet_step ((go_at_call 160;refine(af.out _).mono ?_;rintro e v1⟨rfl,A⟩;exact⟨rfl,⟨v1,BW.next _ A⟩,rfl⟩)))
 refine wpQuiet_nil ?_;rintro w'⟨B,rfl⟩;rw[ah (by rfl)];have H:=ad (G.out.trans (B.below.mono G.out.size));have L:=ad ((B.below.block _ (aB.1 k.out).1).trans k.out);have I:=ad (J.out.next H.out);have HS:=ad ((dX.refl W b av).next H.out);clear D E;go_simp;generalize B.val=x at*;obtain⟨D,p1,p2,p3,p4,p5,p6,p7,p8,E⟩:=aM L.out;go_upto_region 8 with fail;have y:=ad (I.out.next (cw (ar _ _)));have ai:=ad (HS.out.next (cw (ar _ _)));have M:=ad (show x.drew.heap[W.heap.size]? =_ from L.out);obtain⟨x0,x1,x2,x3,x4,x5,x6,x7,x8,x9⟩:=aM M.out;have b3:x.cell? ⟨b,3,none⟩=some av:=aj 3 I.out.box;have an:∀O,(x.alloc O).cell? ⟨b,3,none⟩=some av:=fun O=>vD b3 O;clear D p1 p2 p3 p4 p5 p6 p7 p8 E;go_region_law
  (refine gM (by rfl) _ _ 140 (by rfl) 133 (.agg #[.int .i64 0,.int .i64 0,.string ⟨#[]⟩,.string ⟨#[]⟩,.string ⟨#[]⟩,.bool false,.bool false]) 7 72 SS U2 (by rfl) (by decide) j.heap.size x.drew av m xs (by rfl) y.out.own [.int .i64 u.src,.int .i64 u.bJ,.string ⟨u.name.toArray⟩,.string ⟨u.key.toArray⟩,.string ⟨u.cK.toArray⟩,.bool u.hk,.bool u.hd] (by rfl) (by rfl) (by rfl) (by simp[Value.oneCell']) (by have:=K.out;omega) (by have:=K.out;omega) (by exact y.out.up.size) ?_;intro g cap w5 aa S Z;have p:=SR y.out aa S Z;have o:=ad p.1;have am:=ad (ai.out.trans p.2.1);have d:=ad (dX.row J.out (ag _) M.out p.2.1);have C:=p.2.2;have g3:=aj 3 C;have f3:=aF _ _ 3 _ _ C;clear p aa S Z C)
 all_goals
  clear x0 x1 x2 x3 x4 x5 x6 x7 x8 x9 b3 an g3 f3;generalize w5.setCell ⟨b,3,none⟩ (.slice (some ⟨g,0,none⟩) (m+1) cap)=i at*;have q2:∀B:BW i,B.val.cell? ⟨W.heap.size,2,none⟩=_:=fun B=>aj 2 ((B.below.block _ (aB.1 d.out).1).trans d.out);have q3:∀B:BW i,B.val.cell? ⟨W.heap.size,3,none⟩=_:=fun B=>aj 3 ((B.below.block _ (aB.1 d.out).1).trans d.out);have q4:∀B:BW i,B.val.cell? ⟨W.heap.size,4,none⟩=_:=fun B=>aj 4 ((B.below.block _ (aB.1 d.out).1).trans d.out);have q5:∀B:BW i,B.val.cell? ⟨W.heap.size,5,none⟩=_:=fun B=>aj 5 ((B.below.block _ (aB.1 d.out).1).trans d.out);have q6:∀B:BW i,B.val.cell? ⟨W.heap.size,6,none⟩=_:=fun B=>aj 6 ((B.below.block _ (aB.1 d.out).1).trans d.out);have q7:∀B:BW i,B.val.cell? ⟨W.heap.size,7,none⟩=_:=fun B=>aj 7 ((B.below.block _ (aB.1 d.out).1).trans d.out);have q8:∀B:BW i,B.val.cell? ⟨W.heap.size,8,none⟩=_:=fun B=>aj 8 ((B.below.block _ (aB.1 d.out).1).trans d.out);have b0:∀B:BW i,B.val.cell? ⟨b,0,none⟩=_:=fun B=>aj 0 (o.out.next B.below).box;have b1:∀B:BW i,B.val.cell? ⟨b,1,none⟩=_:=fun B=>aj 1 (o.out.next B.below).box;have b2:∀B:BW i,B.val.cell? ⟨b,2,none⟩=_:=fun B=>aj 2 (o.out.next B.below).box
  haveI:Nonempty (BW i):=⟨⟨i,ar _ _⟩⟩
  go_upto_region 9 with fail;refine aY 11 (fun B:BW i=>B.val) ⟨i.drew,cw (ar _ _)⟩ rfl (by kernel_rfl) (by rfl) (by rfl) (by kernel_rfl) (by kernel_rfl) (by kernel_rfl) ?_;simp only[ki,kL];repeat(quiet_step ((go_at_call 140;refine(z.out _ (o.out.next (BW.below _)).up).mono ?_;rintro e v1⟨rfl,A⟩;exact⟨rfl,⟨v1,BW.next _ A⟩,rfl⟩)))
  refine wpQuiet_nil ?_;rintro w'⟨F,rfl⟩;rw[ah (by rfl)];have ac:=ad (o.out.next F.below);have al:=ad (am.out.next F.below);clear q2 q3 q4 q5 q6 q7 q8 b0 b1 b2;go_simp;cases q;all_goals
   go_wp2_with fail;go_ret;exact⟨_,_,by rw[s.out];rfl,ad ⟨by rw[s.out];exact ac.out,al.out⟩,ad (by rw[s.out];rfl)⟩
theorem V6(d:Ex)(l:World)(hG:Good l)(b:Nat)(h A:ByteArray)(a:Option Addr)(n c:Nat)(val:bc→Bs×Bool)(t:Bs)(u:bc)(r o:Nat)(kc:Nat)(W:World)(m:Nat)(av:Value)(xs:List Value)(hK:AK l W b h A a n c m av xs)(ai:r<l.heap.size)(am:gn (fun _=>True) l [d] r o)(af:qR l b h A a n c val d)(al:m+(1+cC d)≤1000000000):
 Calls Tryz.prog 116 #[.pointer (some ⟨b,0,none⟩),dY 3 t u (.slice (some ⟨r,o,none⟩) 1 kc)] W (nX l W b h A a n c m av xs (bt val (.mk 3 t u [d]))):=by
 have z:Below W.heap.size W (W.alloc (.cells (dC 3 t u (.slice (some ⟨r,o,none⟩) 1 kc)).toArray 136)):=(ar _ _).alloc (ag _) _;have ac:=ad hK;have HB:=ad z;have p:=ad (au W (.cells (dC 3 t u (.slice (some ⟨r,o,none⟩) 1 kc)).toArray 136));have y:=ad (show bt val (.mk 3 t u [d])=(.yes (!oz (bt val d).1),(bt val d).2) by rw[kz,Mh];rfl);have aU:=ad af;have aq:=ad al;have ay:=ad am;have ao:=ad ai;obtain⟨a6,a9,bb,a7,a8,a5,D⟩:=nS ay.out (show[d][0]? =some d from rfl) (ar _ _) ao.out;have ab:=ad (fun(W:World) (m:Nat) (av:Value) (xs:List Value) (z:AK l W b h A a n c m av xs) (hm:m+cC d≤1000000000)=>aU.out _ W m av xs (D.ex ⟨l,ar _ _⟩) z hm);have k:=ad D;clear D;obtain⟨M,m1,an⟩:∃M m1,bt val d=(M,m1):=⟨(bt val d).1,(bt val d).2,rfl⟩;rw[an] at ab y;clear af al ai am an;have ap:=ad (fun(w:World)=>(show Calls Tryz.prog 160 #[.int .i64 3] w (cN w (.int .i64 1)) by have:=mg 3 w;rw[show fG 3=1 from rfl] at this;exact this))
 clear hK z;go_enter Tryz.func116,Tryz.ntmps116;go_upto_region 1 with fail;generalize W.alloc (.cells (dC 3 t u (.slice (some ⟨r,o,none⟩) 1 kc)).toArray 136)=q at*;have s:∀B:BW q,B.val.cell? ⟨W.heap.size,0,none⟩=_:=fun B=>aj 0 ((B.below.block _ (aB.1 p.out).1).trans p.out);have x:∀B:BW q,B.val.cell? ⟨W.heap.size,9,none⟩=_:=fun B=>aj 9 ((B.below.block _ (aB.1 p.out).1).trans p.out)
 haveI:Nonempty (BW q):=⟨⟨q,ar _ _⟩⟩
 refine aY 6 (fun B:BW q=>B.val) ⟨q.drew,cw (ar _ _)⟩ rfl (by kernel_rfl) (by rfl) (by rfl) (by kernel_rfl) (by kernel_rfl) (by kernel_rfl) ?_;simp only[ki,kL];repeat(quiet_step ((go_at_call 160;refine(ap.out _).mono ?_;rintro e v1⟨rfl,a3⟩;exact⟨rfl,⟨v1,BW.next _ a3⟩,rfl⟩)))
 refine wpQuiet_nil ?_;rintro w'⟨B,rfl⟩;rw[ah (by rfl)];have aa:=ad (HB.out.trans (B.below.mono HB.out.size));have HX:=ad ((B.below.block _ (aB.1 p.out).1).trans p.out);have i:=ad (ac.out.next aa.out);have HS:=ad ((dX.refl W b av).next aa.out);clear s x;go_simp;generalize B.val=j at*;obtain⟨s,E,F,G,H,I,J,K,L,x⟩:=aM HX.out;have N:=k.out.c0 ⟨j,i.out.up⟩;have O:=k.out.c1 ⟨j,i.out.up⟩;have Q:=k.out.c2 ⟨j,i.out.up⟩;have R:=k.out.c3 ⟨j,i.out.up⟩;have S:=k.out.c4 ⟨j,i.out.up⟩;have T:=k.out.c5 ⟨j,i.out.up⟩;have V:=k.out.c6 ⟨j,i.out.up⟩;have X:=k.out.c7 ⟨j,i.out.up⟩;have Y:=k.out.c8 ⟨j,i.out.up⟩;have Z:=k.out.c9 ⟨j,i.out.up⟩;dsimp only at N O Q R S T V X Y Z;rw[show o+0*10=o from by omega] at N O Q R S T V X Y Z;go_wp2_with fail;refine(ab.out j m av xs i.out (by have:=aq.out;omega)).mono ?_;rintro e w3⟨a2,a4,rfl,C,a1⟩;have a0:=ad (dX.row ac.out (ag _) HX.out C.out.2);have aN:=ad (HS.out.trans C.out.2);clear N O Q R S T V X Y Z s E F G H I J K L x;obtain⟨s,E,F,G,H,I,J,K,L,x⟩:=aM a0.out;go_upto_region 15 with fail;go_wp2_with fail;refine(Bk M w3).mono ?_;rintro e w4⟨rfl,rfl⟩;clear s E F G H I J K L x;go_wp2_with fail;go_ret;exact⟨a2,a4,(by rw[y.out];rfl),ad ⟨by rw[y.out];exact C.out.1,aN.out⟩,ad (by rw[y.out];exact a1.out)⟩
theorem V7(d i:Ex)(k:World)(hG:Good k)(b:Nat)(h C:ByteArray)(a:Option Addr)(n c:Nat)(val:bc→Bs×Bool)(t:Bs)(u:bc)(R s:Nat)(kc:Nat)(W:World)(m:Nat)(av:Value)(xs:List Value)(hK:AK k W b h C a n c m av xs)(a6:R<k.heap.size)(a8:gn (fun _=>True) k [d,i] R s)(a4:qR k b h C a n c val d)(a5:qR k b h C a n c val i)(a7:m+(1+(cC d+cC i))≤1000000000):
 Calls Tryz.prog 116 #[.pointer (some ⟨b,0,none⟩),dY 1 t u (.slice (some ⟨R,s,none⟩) 2 kc)] W (nX k W b h C a n c m av xs (bt val (.mk 1 t u [d,i]))):=by
 have Q:Below W.heap.size W (W.alloc (.cells (dC 1 t u (.slice (some ⟨R,s,none⟩) 2 kc)).toArray 136)):=(ar _ _).alloc (ag _) _;have aa:=ad hK;have HB:=ad Q;have N:=ad (au W (.cells (dC 1 t u (.slice (some ⟨R,s,none⟩) 2 kc)).toArray 136));have HE:=ad (show bt val (.mk 1 t u [d,i])=(if oz (bt val d).1=true then(.yes true,(bt val d).2) else(.yes (oz (bt val i).1),(bt val d).2++(bt val i).2)) by rw[kz,uy];unfold qI;simp[fG])
 have bf:=ad (fun(w:World)=>(show Calls Tryz.prog 160 #[.int .i64 1] w (cN w (.int .i64 2)) by have:=mg 1 w;rw[show fG 1=2 from rfl] at this;exact this))
 have bk:=ad a4;have aN:=ad a7;have bl:=ad a5;have ay:=ad (nG val d);have aU:=ad a8;have an:=ad a6;obtain⟨bs,b2,b4,bx,b0,bp,af⟩:=nS aU.out (show[d,i][0]? =some d from rfl) (ar _ _) an.out;have ao:=ad (fun(W:World) (m:Nat) (av:Value) (xs:List Value) (Q:AK k W b h C a n c m av xs) (hm:m+cC d≤1000000000)=>bk.out _ W m av xs (af.ex ⟨k,ar _ _⟩) Q hm);have q:=ad af;clear af;obtain⟨bv,b3,b5,bJ,b1,br,ai⟩:=nS aU.out (show[d,i][1]? =some i from rfl) (ar _ _) an.out;have ap:=ad (fun(W:World) (m:Nat) (av:Value) (xs:List Value) (Q:AK k W b h C a n c m av xs) (hm:m+cC i≤1000000000)=>bl.out _ W m av xs (ai.ex ⟨k,ar _ _⟩) Q hm);have r:=ad ai;clear ai;obtain⟨S,x,a9⟩:∃S x,bt val d=(S,x):=⟨(bt val d).1,(bt val d).2,rfl⟩;obtain⟨x2,T,bb⟩:∃x2 T,bt val i=(x2,T):=⟨(bt val i).1,(bt val i).2,rfl⟩;rw[a9] at ao HE ay;rw[bb] at ap HE;clear a4 a5 a7 a6 a8 a9 bb;clear hK Q;go_enter Tryz.func116,Tryz.ntmps116;go_upto_region 1 with fail;generalize W.alloc (.cells (dC 1 t u (.slice (some ⟨R,s,none⟩) 2 kc)).toArray 136)=O at*;have z:∀B:BW O,B.val.cell? ⟨W.heap.size,0,none⟩=_:=fun B=>aj 0 ((B.below.block _ (aB.1 N.out).1).trans N.out);have A:∀B:BW O,B.val.cell? ⟨W.heap.size,9,none⟩=_:=fun B=>aj 9 ((B.below.block _ (aB.1 N.out).1).trans N.out)
 haveI:Nonempty (BW O):=⟨⟨O,ar _ _⟩⟩
 refine aY 6 (fun B:BW O=>B.val) ⟨O.drew,cw (ar _ _)⟩ rfl (by kernel_rfl) (by rfl) (by rfl) (by kernel_rfl) (by kernel_rfl) (by kernel_rfl) ?_;simp only[ki,kL];repeat(quiet_step ((go_at_call 160;refine(bf.out _).mono ?_;rintro e v1⟨rfl,bo⟩;exact⟨rfl,⟨v1,BW.next _ bo⟩,rfl⟩)))
 refine wpQuiet_nil ?_;rintro w'⟨B,rfl⟩;rw[ah (by rfl)];have am:=ad (HB.out.trans (B.below.mono HB.out.size));have HX:=ad ((B.below.block _ (aB.1 N.out).1).trans N.out);have l:=ad (aa.out.next am.out);have HS:=ad ((dX.refl W b av).next am.out);clear z A;go_simp;generalize B.val=o at*;obtain⟨z,V,X,Y,Z,p5,p6,p7,p8,A⟩:=aM HX.out;have D:=q.out.c0 ⟨o,l.out.up⟩;have E:=q.out.c1 ⟨o,l.out.up⟩;have F:=q.out.c2 ⟨o,l.out.up⟩;have G:=q.out.c3 ⟨o,l.out.up⟩;have H:=q.out.c4 ⟨o,l.out.up⟩;have I:=q.out.c5 ⟨o,l.out.up⟩;have J:=q.out.c6 ⟨o,l.out.up⟩;have K:=q.out.c7 ⟨o,l.out.up⟩;have L:=q.out.c8 ⟨o,l.out.up⟩;have M:=q.out.c9 ⟨o,l.out.up⟩;dsimp only at D E F G H I J K L M;rw[show s+0*10=s from by omega] at D E F G H I J K L M;go_wp2_with fail;refine(ao.out o m av xs l.out (by have:=aN.out;omega)).mono ?_;rintro e w3⟨a2,bd,rfl,j,a1⟩;have ac:=ad (dX.row aa.out (ag _) HX.out j.out.2);have a0:=ad (HS.out.trans j.out.2);clear D E F G H I J K L M z V X Y Z p5 p6 p7 p8 A;obtain⟨z,V,X,Y,Z,p5,p6,p7,p8,A⟩:=aM ac.out;obtain⟨q1,al⟩:∃q1,oz S=q1:=⟨_,rfl⟩;have bi:=ad (al▸Bk S w3);have aq:=ad al;clear al;go_upto_region 16 with fail;go_wp2_with fail;refine bi.out.mono ?_;rintro e p⟨rfl,rfl⟩;rcases q1 with _|_
 ·have y:=ad (show bt val (.mk 1 t u [d,i])=(.yes (oz x2),x++T) by rw[HE.out];show(if oz S=true then _ else _)=_;rw[aq.out];rfl);go_upto_region 19 with fail;have D:=r.out.c0 ⟨p,j.out.1.up⟩;have E:=r.out.c1 ⟨p,j.out.1.up⟩;have F:=r.out.c2 ⟨p,j.out.1.up⟩;have G:=r.out.c3 ⟨p,j.out.1.up⟩;have H:=r.out.c4 ⟨p,j.out.1.up⟩;have I:=r.out.c5 ⟨p,j.out.1.up⟩;have J:=r.out.c6 ⟨p,j.out.1.up⟩;have K:=r.out.c7 ⟨p,j.out.1.up⟩;have L:=r.out.c8 ⟨p,j.out.1.up⟩;have M:=r.out.c9 ⟨p,j.out.1.up⟩;dsimp only at D E F G H I J K L M;rw[show s+1*10=s+10 from by omega] at D E F G H I J K L M;go_wp2_with fail;refine(ap.out p (m+x.length) a2 bd j.out.1 (by have:=aN.out;have:x.length≤cC d:=ay.out;omega)).mono ?_;rintro e w5⟨a3,be,rfl,ab,bn⟩;have bm:=ad ((ab.out.2.block _ (aB.1 ac.out).1 (by have:=(aB.1 aa.out.box).1;omega) (IT aa.out HX.out j.out.2)).trans ac.out);have bg:=ad (a0.out.trans ab.out.2);clear D E F G H I J K L M z V X Y Z p5 p6 p7 p8 A;obtain⟨z,V,X,Y,Z,p5,p6,p7,p8,A⟩:=aM bm.out;go_upto_region 21 with fail;go_wp2_with fail;refine(Bk x2 w5).mono ?_;rintro e w6⟨rfl,rfl⟩;clear z V X Y Z p5 p6 p7 p8 A;go_wp2_with fail;go_ret;exact⟨a3,be,(by rw[y.out];rfl),ad ⟨by rw[y.out];show AK k w6 b h C a n c (m+(x++T).length) a3 be;rw[bB,←oh];exact ab.out.1,bg.out⟩,ad (by rw[y.out,bn.out,a1.out];exact yQ xs x T)⟩
 ·have y:=ad (show bt val (.mk 1 t u [d,i])=(.yes true,x) by rw[HE.out];show(if oz S=true then _ else _)=_;rw[aq.out];rfl);go_wp2_with fail;go_ret;exact⟨a2,bd,(by rw[y.out];rfl),ad ⟨by rw[y.out];exact j.out.1,a0.out⟩,ad (by rw[y.out];exact a1.out)⟩
theorem V8(d i:Ex)(k:World)(hG:Good k)(b:Nat)(h C:ByteArray)(a:Option Addr)(n c:Nat)(val:bc→Bs×Bool)(t:Bs)(u:bc)(R s:Nat)(kc:Nat)(W:World)(m:Nat)(av:Value)(xs:List Value)(hK:AK k W b h C a n c m av xs)(a6:R<k.heap.size)(a8:gn (fun _=>True) k [d,i] R s)(a4:qR k b h C a n c val d)(a5:qR k b h C a n c val i)(a7:m+(1+(cC d+cC i))≤1000000000):
 Calls Tryz.prog 116 #[.pointer (some ⟨b,0,none⟩),dY 2 t u (.slice (some ⟨R,s,none⟩) 2 kc)] W (nX k W b h C a n c m av xs (bt val (.mk 2 t u [d,i]))):=by
 have Q:Below W.heap.size W (W.alloc (.cells (dC 2 t u (.slice (some ⟨R,s,none⟩) 2 kc)).toArray 136)):=(ar _ _).alloc (ag _) _;have aa:=ad hK;have HB:=ad Q;have N:=ad (au W (.cells (dC 2 t u (.slice (some ⟨R,s,none⟩) 2 kc)).toArray 136));have HE:=ad (show bt val (.mk 2 t u [d,i])=(if oz (bt val d).1=false then(.yes false,(bt val d).2) else(.yes (oz (bt val i).1),(bt val d).2++(bt val i).2)) by rw[kz,uy];unfold qI;simp[fG])
 have bf:=ad (fun(w:World)=>(show Calls Tryz.prog 160 #[.int .i64 2] w (cN w (.int .i64 2)) by have:=mg 2 w;rw[show fG 2=2 from rfl] at this;exact this))
 have bk:=ad a4;have aN:=ad a7;have bl:=ad a5;have ay:=ad (nG val d);have aU:=ad a8;have an:=ad a6;obtain⟨bs,b2,b4,bx,b0,bp,af⟩:=nS aU.out (show[d,i][0]? =some d from rfl) (ar _ _) an.out;have ao:=ad (fun(W:World) (m:Nat) (av:Value) (xs:List Value) (Q:AK k W b h C a n c m av xs) (hm:m+cC d≤1000000000)=>bk.out _ W m av xs (af.ex ⟨k,ar _ _⟩) Q hm);have q:=ad af;clear af;obtain⟨bv,b3,b5,bJ,b1,br,ai⟩:=nS aU.out (show[d,i][1]? =some i from rfl) (ar _ _) an.out;have ap:=ad (fun(W:World) (m:Nat) (av:Value) (xs:List Value) (Q:AK k W b h C a n c m av xs) (hm:m+cC i≤1000000000)=>bl.out _ W m av xs (ai.ex ⟨k,ar _ _⟩) Q hm);have r:=ad ai;clear ai;obtain⟨S,x,a9⟩:∃S x,bt val d=(S,x):=⟨(bt val d).1,(bt val d).2,rfl⟩;obtain⟨x2,T,bb⟩:∃x2 T,bt val i=(x2,T):=⟨(bt val i).1,(bt val i).2,rfl⟩;rw[a9] at ao HE ay;rw[bb] at ap HE;clear a4 a5 a7 a6 a8 a9 bb;clear hK Q;go_enter Tryz.func116,Tryz.ntmps116;go_upto_region 1 with fail;generalize W.alloc (.cells (dC 2 t u (.slice (some ⟨R,s,none⟩) 2 kc)).toArray 136)=O at*;have z:∀B:BW O,B.val.cell? ⟨W.heap.size,0,none⟩=_:=fun B=>aj 0 ((B.below.block _ (aB.1 N.out).1).trans N.out);have A:∀B:BW O,B.val.cell? ⟨W.heap.size,9,none⟩=_:=fun B=>aj 9 ((B.below.block _ (aB.1 N.out).1).trans N.out)
 haveI:Nonempty (BW O):=⟨⟨O,ar _ _⟩⟩
 refine aY 6 (fun B:BW O=>B.val) ⟨O.drew,cw (ar _ _)⟩ rfl (by kernel_rfl) (by rfl) (by rfl) (by kernel_rfl) (by kernel_rfl) (by kernel_rfl) ?_;simp only[ki,kL];repeat(quiet_step ((go_at_call 160;refine(bf.out _).mono ?_;rintro e v1⟨rfl,bo⟩;exact⟨rfl,⟨v1,BW.next _ bo⟩,rfl⟩)))
 refine wpQuiet_nil ?_;rintro w'⟨B,rfl⟩;rw[ah (by rfl)];have am:=ad (HB.out.trans (B.below.mono HB.out.size));have HX:=ad ((B.below.block _ (aB.1 N.out).1).trans N.out);have l:=ad (aa.out.next am.out);have HS:=ad ((dX.refl W b av).next am.out);clear z A;go_simp;generalize B.val=o at*;obtain⟨z,V,X,Y,Z,p5,p6,p7,p8,A⟩:=aM HX.out;have D:=q.out.c0 ⟨o,l.out.up⟩;have E:=q.out.c1 ⟨o,l.out.up⟩;have F:=q.out.c2 ⟨o,l.out.up⟩;have G:=q.out.c3 ⟨o,l.out.up⟩;have H:=q.out.c4 ⟨o,l.out.up⟩;have I:=q.out.c5 ⟨o,l.out.up⟩;have J:=q.out.c6 ⟨o,l.out.up⟩;have K:=q.out.c7 ⟨o,l.out.up⟩;have L:=q.out.c8 ⟨o,l.out.up⟩;have M:=q.out.c9 ⟨o,l.out.up⟩;dsimp only at D E F G H I J K L M;rw[show s+0*10=s from by omega] at D E F G H I J K L M;go_wp2_with fail;refine(ao.out o m av xs l.out (by have:=aN.out;omega)).mono ?_;rintro e w3⟨a2,bd,rfl,j,a1⟩;have ac:=ad (dX.row aa.out (ag _) HX.out j.out.2);have a0:=ad (HS.out.trans j.out.2);clear D E F G H I J K L M z V X Y Z p5 p6 p7 p8 A;obtain⟨z,V,X,Y,Z,p5,p6,p7,p8,A⟩:=aM ac.out;obtain⟨q1,al⟩:∃q1,oz S=q1:=⟨_,rfl⟩;have bi:=ad (al▸Bk S w3);have aq:=ad al;clear al;go_upto_region 17 with fail;go_wp2_with fail;refine bi.out.mono ?_;rintro e p⟨rfl,rfl⟩;rcases q1 with _|_
 ·have y:=ad (show bt val (.mk 2 t u [d,i])=(.yes false,x) by rw[HE.out];show(if oz S=false then _ else _)=_;rw[aq.out];rfl);go_wp2_with fail;go_ret;exact⟨a2,bd,(by rw[y.out];rfl),ad ⟨by rw[y.out];exact j.out.1,a0.out⟩,ad (by rw[y.out];exact a1.out)⟩
 ·have y:=ad (show bt val (.mk 2 t u [d,i])=(.yes (oz x2),x++T) by rw[HE.out];show(if oz S=false then _ else _)=_;rw[aq.out];rfl);go_upto_region 19 with fail;have D:=r.out.c0 ⟨p,j.out.1.up⟩;have E:=r.out.c1 ⟨p,j.out.1.up⟩;have F:=r.out.c2 ⟨p,j.out.1.up⟩;have G:=r.out.c3 ⟨p,j.out.1.up⟩;have H:=r.out.c4 ⟨p,j.out.1.up⟩;have I:=r.out.c5 ⟨p,j.out.1.up⟩;have J:=r.out.c6 ⟨p,j.out.1.up⟩;have K:=r.out.c7 ⟨p,j.out.1.up⟩;have L:=r.out.c8 ⟨p,j.out.1.up⟩;have M:=r.out.c9 ⟨p,j.out.1.up⟩;dsimp only at D E F G H I J K L M;rw[show s+1*10=s+10 from by omega] at D E F G H I J K L M;go_wp2_with fail;refine(ap.out p (m+x.length) a2 bd j.out.1 (by have:=aN.out;have:x.length≤cC d:=ay.out;omega)).mono ?_;rintro e w5⟨a3,be,rfl,ab,bn⟩;have bm:=ad ((ab.out.2.block _ (aB.1 ac.out).1 (by have:=(aB.1 aa.out.box).1;omega) (IT aa.out HX.out j.out.2)).trans ac.out);have bg:=ad (a0.out.trans ab.out.2);clear D E F G H I J K L M z V X Y Z p5 p6 p7 p8 A;obtain⟨z,V,X,Y,Z,p5,p6,p7,p8,A⟩:=aM bm.out;go_upto_region 21 with fail;go_wp2_with fail;refine(Bk x2 w5).mono ?_;rintro e w6⟨rfl,rfl⟩;clear z V X Y Z p5 p6 p7 p8 A;go_wp2_with fail;go_ret;exact⟨a3,be,(by rw[y.out];rfl),ad ⟨by rw[y.out];show AK k w6 b h C a n c (m+(x++T).length) a3 be;rw[bB,←oh];exact ab.out.1,bg.out⟩,ad (by rw[y.out,bn.out,a1.out];exact yQ xs x T)⟩
theorem SU(k:Int)(h4:4≤k)(h9:k≤9)(d i:Ex)(l:World)(hG:Good l)(b:Nat)(h C:ByteArray)(a:Option Addr)(n c:Nat)(val:bc→Bs×Bool)(t:Bs)(u:bc)(R x:Nat)(kc:Nat)(W:World)(m:Nat)(av:Value)(xs:List Value)(hK:AK l W b h C a n c m av xs)(a7:R<l.heap.size)(a9:gn (fun _=>True) l [d,i] R x)(a5:qR l b h C a n c val d)(a6:qR l b h C a n c val i)(a8:m+(1+(cC d+cC i))≤1000000000)(ai:nW (bt val d).1)(al:nW (bt val i).1):
 Calls Tryz.prog 116 #[.pointer (some ⟨b,0,none⟩),dY k t u (.slice (some ⟨R,x,none⟩) 2 kc)] W (nX l W b h C a n c m av xs (bt val (.mk k t u [d,i]))):=by
 have Q:Below W.heap.size W (W.alloc (.cells (dC k t u (.slice (some ⟨R,x,none⟩) 2 kc)).toArray 136)):=(ar _ _).alloc (ag _) _;have aa:=ad hK;have HB:=ad Q;have N:=ad (au W (.cells (dC k t u (.slice (some ⟨R,x,none⟩) 2 kc)).toArray 136));have HE:=ad (show bt val (.mk k t u [d,i])=(.yes (fQ k (bt val d).1 (bt val i).1),(bt val d).2++(bt val i).2) by rw[kz,uy];unfold qI;rw[ae (by rcases nV k with h|h|h|h<;>simp only[bF,lH]<;>omega),ae (by omega),ae (by omega)];show(if k=3 then _ else if k=1∧_ then _ else if k=2∧_ then _ else if k=1∨k=2 then _ else _)=_;rw[ae (by omega),ae (by omega),ae (by omega),ae (by omega)])
 have be:=ad (fun(w:World)=>(show Calls Tryz.prog 160 #[.int .i64 k] w (cN w (.int .i64 2)) by have:=mg k w;rw[show fG k=2 by rcases nV k with h|h|h|h<;>omega] at this;exact this))
 have e1:(k==1)=false:=aL.2 (by omega);have e2:(k==2)=false:=aL.2 (by omega);have e3:(k==3)=false:=aL.2 (by omega);have bJ:(k==10)=false:=aL.2 (by omega);have b0:(k==11)=false:=aL.2 (by omega);have b1:(k==12)=false:=aL.2 (by omega);clear h4 h9;have bm:=ad a5;have a2:=ad a8;have bn:=ad a6;have a1:=ad (nG val d);have a3:=ad a9;have aN:=ad a7;obtain⟨b4,ca,cc,b6,b8,b2,an⟩:=nS a3.out (show[d,i][0]? =some d from rfl) (ar _ _) aN.out;have aU:=ad (fun(W:World) (m:Nat) (av:Value) (xs:List Value) (Q:AK l W b h C a n c m av xs) (hm:m+cC d≤1000000000)=>bm.out _ W m av xs (an.ex ⟨l,ar _ _⟩) Q hm);have r:=ad an;clear an;obtain⟨b5,cb,cd,b7,b9,b3,ao⟩:=nS a3.out (show[d,i][1]? =some i from rfl) (ar _ _) aN.out;have a0:=ad (fun(W:World) (m:Nat) (av:Value) (xs:List Value) (Q:AK l W b h C a n c m av xs) (hm:m+cC i≤1000000000)=>bn.out _ W m av xs (ao.ex ⟨l,ar _ _⟩) Q hm);have s:=ad ao;clear ao;obtain⟨x1,y,ap⟩:∃x1 y,bt val d=(x1,y):=⟨(bt val d).1,(bt val d).2,rfl⟩;obtain⟨x2,S,aq⟩:∃x2 S,bt val i=(x2,S):=⟨(bt val i).1,(bt val i).2,rfl⟩;rw[ap] at aU HE a1;rw[aq] at a0 HE;rw[ap] at ai;rw[aq] at al;have bk:=ad ai;have bl:=ad al;clear ai al;clear a5 a6 a8 a7 a9 ap aq;clear hK Q;go_enter Tryz.func116,Tryz.ntmps116;go_upto_region 1 with fail;generalize W.alloc (.cells (dC k t u (.slice (some ⟨R,x,none⟩) 2 kc)).toArray 136)=O at*;have z:∀B:BW O,B.val.cell? ⟨W.heap.size,0,none⟩=_:=fun B=>aj 0 ((B.below.block _ (aB.1 N.out).1).trans N.out);have A:∀B:BW O,B.val.cell? ⟨W.heap.size,9,none⟩=_:=fun B=>aj 9 ((B.below.block _ (aB.1 N.out).1).trans N.out)
 haveI:Nonempty (BW O):=⟨⟨O,ar _ _⟩⟩
 refine aY 6 (fun B:BW O=>B.val) ⟨O.drew,cw (ar _ _)⟩ rfl (by kernel_rfl) (by rfl) (by rfl) (by kernel_rfl) (by kernel_rfl) (by kernel_rfl) ?_;simp only[ki,kL];repeat(quiet_step ((go_at_call 160;refine(be.out _).mono ?_;rintro e v1⟨rfl,bv⟩;exact⟨rfl,⟨v1,BW.next _ bv⟩,rfl⟩)))
 refine wpQuiet_nil ?_;rintro w'⟨B,rfl⟩;rw[ah (by rfl)];have ay:=ad (HB.out.trans (B.below.mono HB.out.size));have HX:=ad ((B.below.block _ (aB.1 N.out).1).trans N.out);have o:=ad (aa.out.next ay.out);have HS:=ad ((dX.refl W b av).next ay.out);clear z A;go_simp;generalize B.val=p at*;obtain⟨z,T,V,X,Y,Z,p6,p7,p8,A⟩:=aM HX.out;have D:=r.out.c0 ⟨p,o.out.up⟩;have E:=r.out.c1 ⟨p,o.out.up⟩;have F:=r.out.c2 ⟨p,o.out.up⟩;have G:=r.out.c3 ⟨p,o.out.up⟩;have H:=r.out.c4 ⟨p,o.out.up⟩;have I:=r.out.c5 ⟨p,o.out.up⟩;have J:=r.out.c6 ⟨p,o.out.up⟩;have K:=r.out.c7 ⟨p,o.out.up⟩;have L:=r.out.c8 ⟨p,o.out.up⟩;have M:=r.out.c9 ⟨p,o.out.up⟩;dsimp only at D E F G H I J K L M;rw[show x+0*10=x from by omega] at D E F G H I J K L M;go_wp2_with fail;refine(aU.out p m av xs o.out (by have:=a2.out;omega)).mono ?_;rintro e q⟨bs,bx,rfl,j,bp⟩;have af:=ad (dX.row aa.out (ag _) HX.out j.out.2);have bf:=ad (HS.out.trans j.out.2);clear D E F G H I J K L M z T V X Y Z p6 p7 p8 A;obtain⟨z,T,V,X,Y,Z,p6,p7,p8,A⟩:=aM af.out;go_upto_region 19 with fail;have D:=s.out.c0 ⟨q,j.out.1.up⟩;have E:=s.out.c1 ⟨q,j.out.1.up⟩;have F:=s.out.c2 ⟨q,j.out.1.up⟩;have G:=s.out.c3 ⟨q,j.out.1.up⟩;have H:=s.out.c4 ⟨q,j.out.1.up⟩;have I:=s.out.c5 ⟨q,j.out.1.up⟩;have J:=s.out.c6 ⟨q,j.out.1.up⟩;have K:=s.out.c7 ⟨q,j.out.1.up⟩;have L:=s.out.c8 ⟨q,j.out.1.up⟩;have M:=s.out.c9 ⟨q,j.out.1.up⟩;dsimp only at D E F G H I J K L M;rw[show x+1*10=x+10 from by omega] at D E F G H I J K L M;go_wp2_with fail;refine(a0.out q (m+y.length) bs bx j.out.1 (by have:=a2.out;have:y.length≤cC d:=a1.out;omega)).mono ?_;rintro e w5⟨a4,bb,rfl,ac,br⟩;have bo:=ad ((ac.out.2.block _ (aB.1 af.out).1 (by have:=(aB.1 aa.out.box).1;omega) (IT aa.out HX.out j.out.2)).trans af.out);have bg:=ad (bf.out.trans ac.out.2);clear D E F G H I J K L M z T V X Y Z p6 p7 p8 A;obtain⟨z,T,V,X,Y,Z,p6,p7,p8,A⟩:=aM bo.out;have ab:=ad (show bt val (.mk k t u [d,i])=(.yes (fQ k x1 x2),y++S) from HE.out);go_upto_region 22 with fail;go_wp2_with fail;refine(Fw k x1 x2 bk.out bl.out w5).mono ?_;rintro e w6⟨rfl,am⟩;have bd:=ad (ac.out.1.next am);have bi:=ad (bg.out.next am);clear z T V X Y Z p6 p7 p8 A am;go_wp2_with fail;go_ret;exact⟨a4,bb,(by rw[ab.out];rfl),ad ⟨by rw[ab.out];show AK l w6 b h C a n c (m+(y++S).length) a4 bb;rw[bB,←oh];exact bd.out,bi.out⟩,ad (by rw[ab.out,br.out,bp.out];exact yQ xs y S)⟩
theorem Qh(e:World)(p:Good e)(b:Nat)(h d:ByteArray)(a:Option Addr)(n c:Nat)(fs:List dQ)(hF:aZ e (.slice a n c) fs)(L:rX fs)(V:h.size≤100002000)(O:d.size≤100000)(x:Ex):tE x→qR e b h d a n c (gr h.data.toList d.data.toList fs) x:=by
 refine Ex.ind (P:=fun x=>tE x→qR e b h d a n c (gr h.data.toList d.data.toList fs) x) (fun k t u l ih N v W m av xs Z q E=> ?_) x;have H:∀y,tE y→nW (bt (gr h.data.toList d.data.toList fs) y).1:=fun y G=>IU L (by rw[bj];exact V) (by rw[bj];exact O) y G;obtain⟨kv,rfl,J⟩:=pH.1 Z;have X:∃a c,kv=.slice a l.length c:=by rcases J with⟨rfl,a,c,rfl⟩|⟨b,o,c,rfl,_⟩<;>exact⟨_,_,rfl⟩
 obtain⟨ka,kc,rfl⟩:=X;rw[cC] at E;unfold tE at N;obtain⟨o1,o2,o3,o4,o5⟩:=N;have A:∀B,B∈l→qR e b h d a n c (gr h.data.toList d.data.toList fs) B:=fun B Q=>ih B Q (xw o5 Q);by_cases M:fG k≠(l.length:Int)
 ·exact U3 k l e p b h d a n c _ t u ka kc W m av xs q M
 ·have I:fG k=(l.length:Int):=Decidable.not_not.1 M;have K:∀y,l[0]? =some y→∃j r,ka=some ⟨j,r,none⟩∧j<e.heap.size∧gn (fun _=>True) e l j r:=fun y G=>by obtain⟨b,o,c',I,_,w,z⟩:=PG J G;injection I with R h2 h3;exact⟨b,o,R,w,z⟩
  rcases nV k with⟨C,D⟩|⟨C,rfl⟩|⟨C,D⟩|⟨C,_⟩
  ·have Y:l.length=0:=by omega
   obtain rfl:=List.length_eq_zero_iff.1 Y;rcases D with rfl|rfl|rfl
   ·exact U4 e p b h d a n c _ t u ka kc W m av xs q
   ·exact U5 e p b h d a n c _ t u ka kc W m av xs q
   ·exact U6 fs e p b h d a n c _ t u ka kc W m av xs q hF L O o3 (by omega) rfl
  ·obtain⟨i,rfl⟩:=SE (l:=l) (by omega);obtain⟨j,r,rfl,w,z⟩:=K i rfl;exact V6 i e p b h d a n c _ t u j r kc W m av xs q w z (A i (by simp)) (by rw[j6,j6] at E;omega)
  ·obtain⟨i,s,rfl⟩:=SF (l:=l) (by omega);obtain⟨j,r,rfl,w,z⟩:=K i rfl;have F:m+(1+(cC i+cC s))≤1000000000:=by rw[j6,j6,j6] at E;omega
   rcases D with rfl|rfl|⟨S,T⟩
   ·exact V7 i s e p b h d a n c _ t u j r kc W m av xs q w z (A i (by simp)) (A s (by simp)) F
   ·exact V8 i s e p b h d a n c _ t u j r kc W m av xs q w z (A i (by simp)) (A s (by simp)) F
   ·exact SU k S T i s e p b h d a n c _ t u j r kc W m av xs q w z (A i (by simp)) (A s (by simp)) F (H i (xw o5 (by simp))) (H s (xw o5 (by simp)))
  ·omega
