/- The walk of the maker's all. -/
import Derived.Test.YtogchgjfialleaaGreatDoorKbn
set_option linter.unusedVariables false
set_option maxRecDepth 100000
set_option maxHeartbeats 4000000
namespace Go.Proofs.YtogchgjfialleaaGreatDoor
open Go.RowKit
theorem DE{P:Program}{ops:Array Oper}{rest:List Oper}{o:Oper}{a:Act}{Q:Exit→Act→World→Prop}{W:World}(c:o.guard=none)(s x:Operand)(t:TypeId)
 (r:o.op=.call {callee:=.builtin .append,args:=#[s,x],argTypes:=#[t,t]})
 (e:TypeId)(z:Value)(size bytes:Nat)(C:P.underlying t=some (.slice e))(p:(P.info? e).map (fun i=>(i.zero,i.size,i.bytes))=some (some z,size,bytes))
 (G:z.cells.size=size)(B:0<size)(base:Nat)(w:World)
 (v:Value)(n:Nat)(xs:List Value)(A:a.eval s=v)(y:w.ownsRow base e size v n xs)
 (b:List Value)(D:W=w.alloc (.cells b.toArray e))(q:b.length=size)(F:a.eval x=.slice (some ⟨w.heap.size,0,none⟩) 1 1)(d:∀u∈b,u.oneCell'=true)
 (m:(n+1)*bytes≤140737488355328)(j:n+1≤140737488355328)(l:base≤w.heap.size)
 (h:∀g cap w',w'.ownsRow base e size (.slice (some ⟨g,0,none⟩) (n+1) cap) (n+1) (xs++b)→(w.alloc (.cells b.toArray e)).grownBy w' v.ownBlock→(some g=v.ownBlock∨w.heap.size+1≤g)→
  wpList P ops Q rest (a.put o.dst (.slice (some ⟨g,0,none⟩) (n+1) cap)) w'):
 wpList P ops Q (o::rest) a W:=by
 refine wpList_plain c fun K k=> ?_;have:=gM (ops:=#[]) (K:=K) (Q:=Q) (E:=True) c s x t r e z size bytes C p G B base w v n xs A y b D q F d m j l (fun g cap w' H I J=>k _ _ (h g cap w' H I J));rw[ah (by simp[Region.wanted,c])] at this;exact this
theorem Vp:Tryz.prog.underlying 28=some (.slice 9):=by kernel_rfl
section
variable{E:ME}{W W':World}{S:PS}{out:Bs}{av rv ov:Value}
theorem MK.grown(H:MK E W S out av rv ov){k a:World}{v:Value}(c:Below W.heap.size W k)(d:k.grownBy a v.ownBlock)(m:v=av∨v=rv∨v=ov)(j:Nat)(u:Value):
 Below E.w0.heap.size E.w0 (a.setCell ⟨E.mb,j,none⟩ u)∧W.heap.size≤(a.setCell ⟨E.mb,j,none⟩ u).heap.size∧(∀b,b<W.heap.size→b≠E.mb→some b≠v.ownBlock→(a.setCell ⟨E.mb,j,none⟩ u).heap[b]? =W.heap[b]?)∧
  a.heap[E.mb]? =some (.cells (Gw E S av rv ov).toArray 65)∧ak E.mb a (a.setCell ⟨E.mb,j,none⟩ u):=by
 have i:ak E.mb a (a.setCell ⟨E.mb,j,none⟩ u):=(ak.refl _ _).set;have y:=c.size;have z:=d.size;have A:=i.size;obtain⟨n1,n2,B,C⟩:=fF.1 H.vW;obtain⟨t,w,x⟩:=n2 E.mb (.inl rfl);have r:some E.mb≠v.ownBlock:=by
  rcases m with rfl|rfl|rfl
  ·exact fun e=>t e.symm
  ·exact fun e=>w e.symm
  ·exact fun e=>x e.symm
 have s:∀q,v.ownBlock=some q→E.w0.heap.size≤q:=by
  rcases m with rfl|rfl|rfl
  ·exact fun q h=>(H.asked.lt q h).1
  ·exact fun q h=>(H.reads.lt q h).1
  ·exact fun q h=>(H.lE.lt q h).1
 have l:=((H.up.trans (c.mono H.up.size))).grown d (by have:=H.up.size;omega) s;refine⟨l.trans (i.below H.far.1 (by have:=l.size;omega)),by omega,fun b n o p=> ?_,((d.block _ (by have:=H.lt;omega) r).trans (c.block _ H.lt)).trans H.box,i⟩;exact(i.block b (by omega) (by intro e;injection e with e;exact o e)).trans ((d.block b (by omega) p).trans (c.block b n))
theorem MK.KQ(H:MK E W S out av rv ov){a:World}{O:Obj}{g cap n:Nat}{s:Bs}(m:S.reads.length=n)
 (o:a.ownsRow E.w0.heap.size 9 1 (.slice (some ⟨g,0,none⟩) (n+1) cap) (n+1) (cM S.reads++[.string ⟨s.toArray⟩]))(k:(W.alloc O).grownBy a rv.ownBlock)(c:some g=rv.ownBlock∨W.heap.size+1≤g):
 (MK E (a.setCell ⟨E.mb,6,none⟩ (.slice (some ⟨g,0,none⟩) (n+1) cap)) {S with reads:=S.reads++[s]} out av (.slice (some ⟨g,0,none⟩) (n+1) cap) ov∧
  bC (MB E av rv ov) W (MB E av (.slice (some ⟨g,0,none⟩) (n+1) cap) ov) (a.setCell ⟨E.mb,6,none⟩ (.slice (some ⟨g,0,none⟩) (n+1) cap)))∧a.heap[E.mb]? =some (.cells (Gw E S av rv ov).toArray 65):=by
 obtain⟨d,h,i,b,p⟩:=H.grown (az W O) k (.inr (.inl rfl)) 6 (.slice (some ⟨g,0,none⟩) (n+1) cap);have l:some E.mb≠some g:=by
  obtain⟨n1,n2,r,t⟩:=fF.1 H.vW;intro e;injection e with e;rcases c with q|q
  ·exact(n2 E.mb (.inl rfl)).2.1 (by rw[←q,e])
  ·have:=H.lt;omega
 refine⟨H.swap (v:=rv) (v':=.slice (some ⟨g,0,none⟩) (n+1) cap) d h i (aw (j:=6) b) rfl (c.elim (fun q=>.inl q) (fun q=>.inr ⟨g,rfl,by omega⟩)) (.inr (.inl ⟨rfl,rfl,rfl,rfl,rfl,rfl, ?_⟩)),b⟩;show World.ownsRow _ _ _ 1 _ (S.reads++[s]).length (cM (S.reads++[s]));rw[bB,m,oG];exact o.kept p (.inr (fun e=>l e.symm))
end
theorem NU(w:World)(v:Value)(ls:List Bs)(x:Bs)(h:cg w v ls)(m:ls.length≤1000000000):
 Calls Tryz.prog 115 #[v,.string ⟨x.toArray⟩] w fun e w'=>e=.returned (.bool (ls.contains x))∧w'=w:=by
 rcases h with⟨a,c,rfl,rfl⟩|⟨b,o,c,rfl,k,l,i⟩
 ·exact Tryz.slices_Contains_string_empty a c ⟨x.toArray⟩ w
 ·have h:=Tryz.slices_Contains_string b o ls.length c (ls.map fun b=>(⟨b.toArray⟩:ByteArray)) ⟨x.toArray⟩ w (by simp) (by omega) (fun j d=>by rw[jo] at d;have:=i j ls[j] (cA d);rw[this];simp[d])
  rw[oe (by simp),mr] at h;exact h
theorem BQ(l:List Bs)(a:List (Bs×Bs×Bool)){i:Nat}{u:Bs×Bs×Bool}(h:a[i]? =some u):gh l (a.take (i+1))=lQ (gh l (a.take i)) (eT u.1 u.2.1 u.2.2):=by unfold gh;rw[List.take_add_one,h,List.foldl_append];rfl
theorem Jr{E:ME}{W:World}{M:List Nat}{S:PS}{out:Bs}(H:MX E W M S out){v:Value}{b:List (Bs×Bs×Bool)}(K:kR W v b)(hv:∀g,v.ownBlock=some g→g∉M)(hk:∀u∈b,u.2.1.length≤1000000)(hn:S.reads.length+b.length≤100000000):
 Calls Tryz.prog 65 #[.pointer (some ⟨E.mb,0,none⟩),v] W fun en w'=>en=.returned (.tuple #[])∧∃d,MX E w' d (S.read b) out∧bC M W d w':=by
 have a7:∃a c,v=.slice a b.length c:=by
  rcases K with⟨rfl,rfl⟩|⟨g,c,rfl,_⟩
  ·exact⟨none,0,rfl⟩
  ·exact⟨_,c,rfl⟩
 obtain⟨ua,uc,rfl⟩:=a7;obtain⟨N,F⟩:∃N,b.length=N:=⟨_,rfl⟩;have V:=ad F;have Z:=ad K;have HV:=ad hv;have ay:=ad hk;have aN:=ad hn;have Q:Hid (MX E W M {S with reads:=gh S.reads (b.take 0)} out):=ad H;have n1:N≤100000000:=by omega
 rw[F] at Z HV⊢;clear H K hv hk hn F;go_enter Tryz.func65,Tryz.ntmps65;go_upto_region 1 with fail
 go_loopw [9] (fun L wr=>∃(i:Nat) (d:List Nat),i≤N∧L=.int .i64 i∧Hid (MX E wr d {S with reads:=gh S.reads (b.take i)} out)∧Hid (bC M W d wr)) (fun L _=>N-(intOf L).toNat)
 case atStart=>exact⟨0,M,aH _,rfl,Q,ad (bC.refl M W)⟩
 case round=>
  obtain⟨i,d,hi,rfl,x,p⟩:=hrel;clear Q;by_cases a5:i<N
  ·have i1:(i:Int)<(N:Int):=by omega
   have i0:(0:Int)≤(i:Int):=by omega
   obtain⟨u,o⟩:∃u,b[i]? =some u:=⟨_,cA (by rw[V.out];exact a5)⟩;have q:=ad (BQ S.reads b o);have a4:=ay.out u (eQ o);obtain⟨av,rv,ov,ao,af⟩:=x.out;have y:=ad ao;have z:=ad af;have a3:=Z.out.next (W':=wr) (fun g m D=>(p.out.cO g m (HV.out g D.symm)).2) p.out.size;rcases a3 with⟨m,_⟩|⟨g,c,m,D,h3,h4⟩
   ·rw[m] at o;cases o
   obtain⟨a8,a9,ud,uq,c0,c1,c2,c3,c4,c5,c6⟩:=h4 i u o;injection m with e1 e2 e3;clear e2;subst e1;subst e3;have aa:=ad (fun w=>DF ⟨u.1.toArray⟩ ⟨u.2.1.toArray⟩ u.2.2 w (by show u.2.1.toArray.size≤_;simp;omega));obtain⟨s,J⟩:∃s,eT u.1 u.2.1 u.2.2=s:=⟨_,rfl⟩;have ab:Hid (∀w,Calls Tryz.prog 114 #[.string ⟨u.1.toArray⟩,.string ⟨u.2.1.toArray⟩,.bool u.2.2] w (cN w (.string ⟨s.toArray⟩))):=ad (by intro w;rw[←J];exact aa.out w);rw[J] at q;clear o h4 ao af J D h3 a4 aa;obtain⟨R,G⟩:∃R,gh S.reads (b.take i)=R:=⟨_,rfl⟩;have Y:=ad (show R.length≤100000000 by have m:=uU S.reads (b.take i);rw[G,gu] at m;have:=aN.out;omega)
   rw[G] at q y;clear G x;go_wp2_with fail;refine(ab.out _).mono ?_;rintro e O⟨rfl,al⟩;have I:=(az wr (.cells #[.int .i64 a8,.int .i64 a9,.string ⟨u.1.toArray⟩,.string ⟨u.2.1.toArray⟩,.string ⟨ud.toArray⟩,.bool u.2.2,.bool uq] 133)).trans (al.mono (by rw[aO];omega));have j:=ad (y.out.next I);have B:=ad (p.out.trans (bC.ai (M:=d) I));clear al I c0 c1 c2 c3 c4 c5 c6 y p ab;obtain⟨ra,rc,a6⟩:=aX j.out.reads;subst a6;have b6:=aj 6 j.out.box;have f6:O.frozen? ⟨E.mb,6,none⟩=false:=aA j.out.box;by_cases r:s=[]
   ·have l:Hid (MX E O d {S with reads:=gh S.reads (b.take (i+1))} out):=ad ⟨_,_,_,by rw[q.out,r];exact j.out,z.out⟩;subst r;go_wp2_with fail
    go_roundw
    case rel=>exact⟨i+1,d,by omega,by go_num,l,B⟩
    case measure=>(simp[intOf]<;>omega)
   ·have q1:(s==[])=false:=aL.2 r;have q2:(s !=[])=true:=by rw[bne,q1];rfl
    have A:=ad (show lQ R s=if R.contains s then R else R++[s] by unfold lQ;rw[zW r];rfl);have T:=ad (NU O _ R s (cg.wO j.out.reads) (by have:=Y.out;omega));obtain⟨C,am⟩:∃C,R.contains s=C:=⟨_,rfl⟩;rw[am] at T A;clear am r;go_wp2_with fail;refine T.out.mono ?_;rintro e w3⟨rfl,rfl⟩;cases C
    ·have a0:=ad (show gh S.reads (b.take (i+1))=R++[s] by rw[q.out,A.out];rfl);obtain⟨k,n⟩:∃k,R.length=k:=⟨_,rfl⟩;have a1:=ad n;have X:=ad j.out.reads;rw[n] at X b6 j;have aU:=ad (show d=MB E av (.slice ra k rc) ov by rw[z.out,←n]);have l1:k≤100000000:=by rw[←n];exact Y.out
     rw[n];clear n;go_wp2_with (at_builtin;refine DE rfl _ _ 28 rfl 9 (.string ⟨#[]⟩) 1 16 Vp MO rfl (by decide) E.w0.heap.size w3 (.slice ra k rc) k (cM R) rfl X.out [.string ⟨s.toArray⟩] rfl rfl rfl (by simp[Value.oneCell']) (by omega) (by omega) j.out.up.size ?_;intro g2 ac w5 aq an ap;have t:=ad (j.out.KQ a1.out aq an ap);have bb:=aj 6 t.out.2;have bd:w5.frozen? ⟨E.mb,6,none⟩=false:=aA t.out.2;clear aq an ap);have l:Hid (MX E (w5.setCell ⟨E.mb,6,none⟩ (.slice (some ⟨g2,0,none⟩) (k+1) ac)) (MB E av (.slice (some ⟨g2,0,none⟩) (k+1) ac) ov) {S with reads:=gh S.reads (b.take (i+1))} out):=ad ⟨_,_,_,by rw[a0.out];exact t.out.1.1,rfl⟩;have a2:=ad (B.out.trans (by rw[aU.out];exact t.out.1.2))
     go_roundw
     case rel=>exact⟨i+1,_,by omega,by go_num,l,a2⟩
     case measure=>(simp[intOf]<;>omega)
    ·have l:Hid (MX E w3 d {S with reads:=gh S.reads (b.take (i+1))} out):=ad ⟨_,_,_,by rw[q.out,A.out];exact j.out,z.out⟩;go_wp2_with fail
     go_roundw
     case rel=>exact⟨i+1,d,by omega,by go_num,l,B⟩
     case measure=>(simp[intOf]<;>omega)
  ·obtain rfl:i=N:=by omega
   have l:Hid (MX E wr d (S.read b) out):=ad (by have h:=x.out;rw[oe (by rw[V.out];exact ag _)] at h;exact h);go_wp2_with fail
   go_end0
   exact⟨rfl,d,l.out,p.out⟩
theorem KR{W:World}{base:Nat}{v:Value}{L:List iZ}(h:zu W base v L):kR W v (L.map fun u=>(u.name,u.key,u.hk)):=by
 have x:=h.lt;rcases h.2 with⟨a,b⟩|⟨g,cap,q,a,b,d,e,r,s,t⟩
 ·exact .inl ⟨by rw[jn b];rfl,a⟩
 ·have m:=h.cells (g:=g) (by rw[a];rfl);refine .inr ⟨g,cap,by rw[a,jo],by rw[jo];exact e,(aB.1 d).1,fun i p c=> ?_⟩;rw[uI] at c;obtain⟨u,n,rfl⟩:=qG.1 c;have k:∀(j:Nat) (w:Value),(lR u)[j]? =some w→W.cell? ⟨g,i*7+j,none⟩=some w:=fun j w o=>by
   have l:(⟨g,0,none⟩:Addr).add (i*7+j)=⟨g,0+(i*7+j),none⟩:=by unfold Addr.add;split<;>simp_all
   have:=m _ _ (tV L i j u w n o);rw[l,dH] at this;exact this
  exact⟨u.src,u.to,u.cK,u.hd,k 0 _ rfl,k 1 _ rfl,k 2 _ rfl,k 3 _ rfl,k 4 _ rfl,k 5 _ rfl,k 6 _ rfl⟩
theorem Gx{s:Bs}{u:Bs×Bs×Bool}(h:u∈dd s):u.2.1.length≤64:=by obtain⟨v,c,rfl⟩:=qE.1 h;obtain⟨k,b⟩:=zP.1 c;obtain⟨j,a,_⟩:=DG (nC s _ _) b;exact a.key
def Vq(E:ME):Prop:=∀(i:Nat) (g:j5),E.fZ[i]? =some g→∃b o,E.ga=some ⟨b,o,none⟩∧b<E.w0.heap.size∧E.w0.cell? ⟨b,o+i*3,none⟩=some (.string ⟨g.body.toArray⟩)∧E.w0.cell? ⟨b,o+i*3+1,none⟩=some (.bool g.F3)∧E.w0.cell? ⟨b,o+i*3+2,none⟩=some (.bool g.ok)
structure QQ (E:ME):Prop where
 gl:GL E.w0
 Vr:aZ E.w0 (.slice E.fa E.fn E.fc) E.fs
 Vs:rX E.fs
 t1:E.t.length≤100000
 h1:E.h.length≤100002000
 i1:E.inc≤64
 d1:E.dep≤8
 Vc:E.fZ.length≤100000000
 fZ:Vq E
 Vd:∀g∈E.fZ,g.body.length≤1000000
theorem DH{E:ME}(c:QQ E){W:World}{M:List Nat}{S:PS}{out:Bs}(H:MX E W M S out)(s:Bs)(D:s.length≤1000000)(C:S.reads.length≤90000000):
 Calls Tryz.prog 54 #[.pointer (some ⟨E.mb,0,none⟩),.string ⟨s.toArray⟩] W fun en w'=>en=.returned (.tuple #[.string ⟨(eA E.h E.t E.fs s).1.toArray⟩,.bool ((eA E.h E.t E.fs s).2==0)])∧∃x,MX E w' x (S.read (dd s)) out∧bC M W x w':=by
 obtain⟨av,rv,ov,l,y⟩:=H;have q:=ad l;have r:=ad y;have b:=ad c;have R:=ad (DJ ⟨s.toArray⟩ W (c.gl.gx.aq.next l.up) (by show s.toArray.size≤_;simp;omega));have w:=ad (And.intro D C);obtain⟨V,i⟩:∃V,eA E.h E.t E.fs s=V:=⟨_,rfl⟩;have T:=ad i;rw[i];clear l y D C i c;go_enter Tryz.func54,Tryz.ntmps54;go_wp2_with fail;refine R.out.mono ?_;rintro e w1⟨v,rfl,m,j⟩;have I:=ad (q.out.next j);have A:∀g,v.ownBlock=some g→g∉M:=fun g hg B=>by have h1:=(m.lt g hg).1;rw[r.out] at B;have:=(q.out.mlt g B).2;omega
 have L:=ad (Jr (M:=M) ⟨av,rv,ov,I.out,r.out⟩ (show kR w1 v (dd s) from KR m) A (fun u hu=>by have:=Gx hu;omega) (by have:=nD s;have:=w.out;omega));have N:=ad (bC.ai (M:=M) j);clear m j A;go_wp2_with fail;refine L.out.mono ?_;rintro e n⟨rfl,d,G,F⟩;have ac:=ad G;have O:=ad (N.out.trans F);obtain⟨Y,ab,aa,a,z⟩:=G;have J:=ad a;have K:=ad z;have b8:=aj 8 a.box;have b9:=aj 9 a.box;have Z:=aj 10 a.box;have o:=ad (KS ⟨s.toArray⟩ ⟨E.h.toArray⟩ ⟨E.t.toArray⟩ E.fa E.fn E.fc E.fs n (b.out.gl.gx.aq.next a.up) (b.out.Vr.below a.up) b.out.Vs (by show E.t.toArray.size≤_;simp;exact b.out.t1) (by show s.toArray.size≤_;simp;exact w.out.1));have p:Hid (Calls Tryz.prog 101 #[.string ⟨s.toArray⟩,.agg #[.string ⟨E.h.toArray⟩,.string ⟨E.t.toArray⟩,.slice E.fa E.fn E.fc]] n (cN n (Gy V))):=ad (by rw[←T.out];exact o.out);clear F a z o;unfold Gy at p;go_wp2_with fail;refine p.out.mono ?_;rintro e w3⟨rfl,k⟩;have X:Hid (MX E w3 d (S.read (dd s)) out):=ad ⟨Y,ab,aa,J.out.next k,K.out⟩;have Q:=ad (O.out.trans (bC.ai (M:=d) k));clear k b8 b9 Z;go_wp2_with fail;go_ret2;exact⟨rfl,d,X.out,Q.out⟩
theorem rj{P:Program}(w:World)(base:Nat)(t u d e:TypeId)(i:TypeInfo)(o:P.underlying t=some (.slice e))(p:P.underlying u=some .string)(h:P.info? e=some i)(y:i.zero=some (.int .u8 0))
 (m:i.size=1)(x:i.bytes=1)(v:Value)(n:Nat)(xs:List Value)(c:w.ownsRow base e 1 v n xs)(s:ByteArray)
 (z:n+s.size≤maxLen)(B:n+s.size≤140737488355328)(H:base≤w.heap.size):
 ∃v' w',(Builtin.append_ #[t,u] d #[v,.string s]).run P w=.ok v' w'∧w'.ownsRow base e 1 v' (n+s.size) (xs++Lib.strCells s)∧w.grownBy w' v.ownBlock∧(v'.ownBlock=v.ownBlock∨∃k,v'.ownBlock=some k∧w.heap.size≤k):=by
 obtain⟨v',w',l,D,E,F⟩:=Lib.run_append_own_string (P:=P) w base t u d e i o p h y m x v n xs c s z B H;refine⟨v',w',l,D,E, ?_⟩;rcases c.2 with⟨rfl,rfl⟩|⟨g,cap,q,rfl,A,J,S,Q,I,T⟩
 ·by_cases K:s.size=0
  ·rw[F.2 ⟨rfl,K⟩];exact .inl rfl
  ·have M:xs=[]:=jn (by simpa using c.1);subst M;obtain⟨v2,V,a,G,_,_⟩:=Lib.run_append_own_string (P:=P) w w.heap.size t u d e i o p h y m x (.slice none 0 0) 0 [] (jO w _ _ _) s z B (ag _);rw[l] at a;injection a with b r;subst b r;rcases G.2 with⟨_,O⟩|⟨g,cap,q,C,A,_⟩
   ·omega
   ·exact .inr ⟨g,by rw[C];rfl,A⟩
 ·by_cases L:n+s.size≤cap
  ·have R:q.size=cap:=by simpa using I
   have a:=Lib.run_append_room_string (P:=P) w t u d e i o p h m g n cap q J s L (by omega);rw[l] at a;injection a with b r;subst b;exact .inl rfl
  ·have holds:∀j u,xs[j]? =some u→w.cell? ((⟨g,0,none⟩:Addr).add j)=some u:=c.cells (g:=g) rfl;have N:xs.length=n:=by simpa using c.1
   have a:=Lib.run_append_grow_string (P:=P) w t u d e i (.int .u8 0) o p h y ⟨g,0,none⟩ n cap xs (by rw[m];simpa using N) holds s (by omega) (by omega) (by rw[x];exact growslice_fits (by omega) (by omega));rw[l] at a;injection a with b r;subst b;exact .inr ⟨w.heap.size,rfl,ag _⟩
theorem DK{P:Program}{ops:Array Oper}{rest:List Oper}{o:Oper}{a:Act}{Q:Exit→Act→World→Prop}{w:World}(y:o.guard=none)(b x:Operand)(t u:TypeId)
 (A:o.op=.call {callee:=.builtin .append,args:=#[b,x],argTypes:=#[t,u]})
 (base:Nat)(e:TypeId)(i:TypeInfo)(F:P.underlying t=some (.slice e))(G:P.underlying u=some .string)(z:P.info? e=some i)(I:i.zero=some (.int .u8 0))
 (E:i.size=1)(q:i.bytes=1)
 (v:Value)(n:Nat)(xs:List Value)(D:a.eval b=v)(B:w.ownsRow base e 1 v n xs)(s:ByteArray)(H:a.eval x=.string s)
 (l:n+s.size≤maxLen)(r:n+s.size≤140737488355328)(p:base≤w.heap.size)
 (h:∀v' w',w'.ownsRow base e 1 v' (n+s.size) (xs++Lib.strCells s)→w.grownBy w' v.ownBlock→(v'.ownBlock=v.ownBlock∨∃k,v'.ownBlock=some k∧w.heap.size≤k)→wpList P ops Q rest (a.put o.dst v') w'):wpList P ops Q (o::rest) a w:=by
 refine wpList_plain y fun K m=> ?_;obtain⟨v',w',C,c,d,j⟩:=rj (P:=P) w base t u o.type e i F G z I E q v n xs B s l r p;unfold Oper.wp execOp;simp only[A,resolve,invoke,builtin,Sem.run_bind,Sem.run_pure,Result.andThen_ok,List.map_toArray,kg,List.map_nil,D,H,C];exact m _ _ (h v' w' c d j)
section
variable{E:ME}{W W':World}{S:PS}{out:Bs}{av rv ov:Value}
theorem MK.Rn(H:MK E W S out av rv ov){a:World}{v':Value}{n:Nat}{s:Bs}(r:out.length=n)
 (t:a.ownsRow E.w0.heap.size 5 1 v' (n+(⟨s.toArray⟩:ByteArray).size) (da out++Lib.strCells ⟨s.toArray⟩))(m:W.grownBy a ov.ownBlock)(c:v'.ownBlock=ov.ownBlock∨∃k,v'.ownBlock=some k∧W.heap.size≤k):
 (MK E (a.setCell ⟨E.mb,7,none⟩ v') S (out++s) av rv v'∧bC (MB E av rv ov) W (MB E av rv v') (a.setCell ⟨E.mb,7,none⟩ v'))∧a.heap[E.mb]? =some (.cells (Gw E S av rv ov).toArray 65):=by
 obtain⟨d,h,i,b,u⟩:=H.grown (ar _ _) m (.inr (.inr rfl)) 7 v';have o:v'.ownBlock≠some E.mb:=by
  obtain⟨n1,n2,x,y⟩:=fF.1 H.vW;rcases c with q|⟨k,q,w⟩
  ·rw[q];exact(n2 E.mb (.inl rfl)).2.2
  ·rw[q];intro e;injection e with e;have:=H.lt;omega
 refine⟨H.swap (v:=ov) (v':=v') d h i (aw (j:=7) b) rfl c (.inr (.inr ⟨rfl,rfl,rfl,rfl,rfl,rfl, ?_⟩)),b⟩;have p:(out++s).length=n+(⟨s.toArray⟩:ByteArray).size:=by rw[bB,r];rfl
 have l:da (out++s)=da out++Lib.strCells ⟨s.toArray⟩:=by rw[strCells_eq];simp[da]
 rw[p,l];exact t.kept u (.inr o)
end
def gA:PanicEntry:={v:=.iface 87 (.agg #[]),recovered:=false}
def fy(E:ME)(M:List Nat)(W:World)(out:Bs)(r:PS×Oc):Ending→World→Prop:=fun b w'=>match r.2 with
 |.yes t=>b=.returned (.bool true)∧∃a,MX E w' a r.1 (out++t)∧bC M W a w'
 |.no=>b=.returned (.bool false)∧∃a,MX E w' a r.1 out∧bC M W a w'
 |.wait=>b=.panicked [gA]∧∃a g,MX E w' a r.1 (out++g)∧bC M W a w'
def dk(E:ME)(M:List Nat)(W:World)(out:Bs)(r:PS×Oc):Ending→World→Prop:=fun b w'=>match r.2 with
 |.yes t=>b=.returned (.bool true)∧∃a,MX E w' a r.1 (out++t)∧bC M W a w'
 |.no=>b=.returned (.bool false)∧∃a g,MX E w' a r.1 (out++g)∧bC M W a w'
 |.wait=>b=.panicked [gA]∧∃a g,MX E w' a r.1 (out++g)∧bC M W a w'
theorem fy.Xa{E:ME}{M:List Nat}{W:World}{out:Bs}{r:PS×Oc}{a:Ending}{w':World}(h:fy E M W out r a w'):dk E M W out r a w':=by
 obtain⟨S,o⟩:=r;cases o with
 |yes t=>exact h
 |no=>obtain⟨c,b,d,e⟩:=h;exact⟨c,b,[],by rw[jm];exact d,e⟩
 |wait=>exact h
theorem xq{E:ME}{W:World}{M:List Nat}{S:PS}{out:Bs}(H:MX E W M S out)(s:Bs)(t:s.length≤100000000)(q:out.length≤100000000):
 Calls Tryz.prog 55 #[.pointer (some ⟨E.mb,0,none⟩),.string ⟨s.toArray⟩] W (fy E M W out (S,jq s out.length)):=by
 obtain⟨C,z,B,A,y⟩:=info_parts Ti;obtain⟨av,rv,ov,a,rfl⟩:=H;obtain⟨D,F,rfl⟩:=aX a.lE;have c:=ad a;have w:=aj 7 a.box;have J:W.frozen? ⟨E.mb,7,none⟩=false:=aA a.box;obtain⟨n,h⟩:∃n,out.length=n:=⟨_,rfl⟩;obtain⟨m,e⟩:∃m,s.length=m:=⟨_,rfl⟩;have u:=ad h;have o:=ad a.lE;rw[h] at c w q o⊢;have i:=ad (show(⟨s.toArray⟩:ByteArray).size=m by show s.toArray.size=m;simp[e]);have k:=ad (show jq s n=if 262144<n+m then .no else .yes s by unfold jq;rw[e];rfl);rw[e] at t;have N:(n:Int)≤100000000:=by omega
 have O:(m:Int)≤100000000:=by omega
 have Q:(0:Int)≤(n:Int):=by omega
 have R:(0:Int)≤(m:Int):=by omega
 have l:=ad (And.intro t q);clear a;by_cases d:262144<n+m
 ·have x:(262144:Int)<(n:Int)+(m:Int):=by omega
  rw[k.out,ah d];clear h d;have L:s.length=m:=e;go_enter Tryz.func55,Tryz.ntmps55;go_wp2_with fail;go_ret;exact⟨rfl,_,⟨_,_,_,c.out,rfl⟩,bC.refl _ _⟩
 ·have x:¬(262144:Int)<(n:Int)+(m:Int):=by omega
  rw[k.out,ae d];clear h d;go_enter Tryz.func55,Tryz.ntmps55;go_wp2_with (at_builtin;refine DK rfl _ _ 63 9 rfl E.w0.heap.size 5 C u63 u9 z B A y (.slice D n F) n (da out) rfl o.out ⟨s.toArray⟩ rfl (by have:=l.out;have:=i.out;unfold maxLen;omega) (by have:=l.out;have:=i.out;omega) c.out.up.size ?_;intro v2 G j p r;have b:=ad (c.out.Rn u.out j p r);obtain⟨T,V,rfl⟩:=aX j;have I:=aj 7 b.out.2;have K:G.frozen? ⟨E.mb,7,none⟩=false:=aA b.out.2;clear j p r);rw[i.out] at b;go_ret;exact⟨rfl,_,⟨_,_,_,b.out.1.1,rfl⟩,b.out.1.2⟩
theorem MX.next{E:ME}{W W':World}{M:List Nat}{S:PS}{out:Bs}(H:MX E W M S out)(a:Below W.heap.size W W'):MX E W' M S out:=by obtain⟨av,rv,b,h,e⟩:=H;exact⟨av,rv,b,h.next a,e⟩
theorem fy.pre{E:ME}{M i:List Nat}{W j:World}{out:Bs}{r:PS×Oc}{k:Ending}{w':World}(e:bC M W i j)(h:fy E i j out r k w'):fy E M W out r k w':=by
 obtain⟨S,o⟩:=r;cases o with
 |yes t=>obtain⟨b,a,c,d⟩:=h;exact⟨b,a,c,e.trans d⟩
 |no=>obtain⟨b,a,c,d⟩:=h;exact⟨b,a,c,e.trans d⟩
 |wait=>obtain⟨b,a,g,c,d⟩:=h;exact⟨b,a,g,c,e.trans d⟩
theorem dk.pre{E:ME}{M i:List Nat}{W j:World}{out:Bs}{r:PS×Oc}{k:Ending}{w':World}(e:bC M W i j)(h:dk E i j out r k w'):dk E M W out r k w':=by
 obtain⟨S,o⟩:=r;cases o with
 |yes t=>obtain⟨b,a,c,d⟩:=h;exact⟨b,a,c,e.trans d⟩
 |no=>obtain⟨b,a,g,c,d⟩:=h;exact⟨b,a,g,c,e.trans d⟩
 |wait=>obtain⟨b,a,g,c,d⟩:=h;exact⟨b,a,g,c,e.trans d⟩
theorem xr(t:Bs)(n:Nat):jq t n=.no∨jq t n=.yes t:=by unfold jq;split<;>simp
theorem xt(h t:Bs)(fs:List dQ)(s:Bs):(eA h t fs s).1.length≤262144:=by
 unfold eA;cases a:decide ((uW h t fs s).length≤oP) with
 |true=>exact dv a
 |false=>exact aH _
abbrev zv(b:U)(d:Nat)(vs:Bool):List Value:=[.string ⟨b.scheme.toArray⟩,.string ⟨b.host.toArray⟩,.int .i64 b.port,.string ⟨b.path.toArray⟩,.string ⟨b.query.toArray⟩,.bool b.hq,.int .i64 d,.bool vs]
abbrev Tp(b:U)(d:Nat)(vs:Bool):Value:=.agg #[.string ⟨b.scheme.toArray⟩,.string ⟨b.host.toArray⟩,.int .i64 b.port,.string ⟨b.path.toArray⟩,.string ⟨b.query.toArray⟩,.bool b.hq,.int .i64 d,.bool vs]
theorem NV(P:fx)(vs:Bool)(t:Bs)(S:PS)(n:Nat):lS P vs t S n=if vs=false then(S,jq t n) else if(eA P.h P.t P.fs t).2=0 then(S.read (dd t),jq (eA P.h P.t P.fs t).1 n) else(S.read (dd t),.no):=by
 unfold lS BR;split
 ·rfl
 ·split
  ·rename_i c a;split at a
   ·cases a
   ·rename_i b;rw[ae b]
  ·rename_i r c a;split at a
   ·rename_i b;cases a;rw[ah b]
   ·cases a
theorem Ro{E:ME}(B:QQ E){W:World}{M:List Nat}{S:PS}{out:Bs}(H:MX E W M S out)(t:Bs)(N:t.length≤1000000)(K:S.reads.length≤90000000)(J:out.length≤100000000)(b:U)(d:Nat)(vs:Bool):
 Calls Tryz.prog 27 #[.pointer (some ⟨E.mb,0,none⟩),.string ⟨t.toArray⟩,Tp b d vs] W (fy E M W out (lS E.env vs t S out.length)):=by
 have x:=az W (.cells (zv b d vs).toArray 89);have s:=ad (bC.ai (M:=M) x);have w:=ad (H.next x);have C:=ad (au W (.cells (zv b d vs).toArray 89));have Q:=ad B;have n:=ad (And.intro N (And.intro K J));have z:=NV E.env vs t S out.length;obtain⟨R,I⟩:∃R,lS E.env vs t S out.length=R:=⟨_,rfl⟩;rw[I] at z⊢;have D:=ad z;clear x H B N K J z I;go_enter Tryz.func27,Tryz.ntmps27;go_upto_region 1 with fail;generalize W.alloc (.cells (zv b d vs).toArray 89)=Y at*;have X:=aj 7 C.out;cases vs
 ·have k:=ad (show R=(S,jq t out.length) by rw[D.out];rfl);have j:=ad (xq w.out t (by have:=n.out;omega) n.out.2.2);rcases xr t out.length with c|c
  ·rw[c] at j k;clear c;go_wp2_with fail;refine j.out.mono ?_;rintro p o⟨rfl,a⟩;have i:=ad (show fy E M W out R (.returned (.bool false)) o by rw[k.out];exact fy.pre s.out ⟨rfl,a⟩);clear a;go_wp2_with fail;go_ret;exact i.out
  ·rw[c] at j k;clear c;go_wp2_with fail;refine j.out.mono ?_;rintro p o⟨rfl,a⟩;have i:=ad (show fy E M W out R (.returned (.bool true)) o by rw[k.out];exact fy.pre s.out ⟨rfl,a⟩);clear a;go_wp2_with fail;go_ret;exact i.out
 ·have r:=ad (DH Q.out w.out t n.out.1 n.out.2.1);have F:=ad (xt E.h E.t E.fs t);obtain⟨V,y⟩:∃V,eA E.h E.t E.fs t=V:=⟨_,rfl⟩;have k:=ad (show R=if V.2=0 then(S.read (dd t),jq V.1 out.length) else(S.read (dd t),.no) by rw[D.out];show(if(eA E.h E.t E.fs t).2=0 then(S.read (dd t),jq (eA E.h E.t E.fs t).1 out.length) else(S.read (dd t),.no))=_;rw[y]);rw[y] at r F;obtain⟨m,e⟩:=V;clear y;go_wp2_with fail;refine r.out.mono ?_;rintro p o⟨rfl,T,O,L⟩;have G:=ad O;have u:=ad (s.out.trans L);clear O L X r w C;by_cases q:e=0
  ·subst q;have l:=ad (show R=(S.read (dd t),jq m out.length) from k.out);have j:=ad (xq G.out m (by have h:m.length≤262144:=F.out;omega) n.out.2.2);rcases xr m out.length with c|c
   ·rw[c] at j l;clear c;go_wp2_with fail;refine j.out.mono ?_;rintro p A⟨rfl,a⟩;have i:=ad (show fy E M W out R (.returned (.bool false)) A by rw[l.out];exact fy.pre u.out ⟨rfl,a⟩);clear a;go_wp2_with fail;go_ret;exact i.out
   ·rw[c] at j l;clear c;go_wp2_with fail;refine j.out.mono ?_;rintro p A⟨rfl,a⟩;have i:=ad (show fy E M W out R (.returned (.bool true)) A by rw[l.out];exact fy.pre u.out ⟨rfl,a⟩);clear a;go_wp2_with fail;go_ret;exact i.out
  ·have l:=ad (show R=(S.read (dd t),.no) by rw[k.out];exact ae q);have Z:=eS q;have i:=ad (show fy E M W out R (.returned (.bool false)) o by rw[l.out];exact⟨rfl,T,G.out,u.out⟩);clear q;go_wp2_with fail;go_ret;exact i.out
section
variable{E:ME}{W W':World}{S:PS}{out:Bs}{av rv ov:Value}
theorem Gz(a b:Bs):da (a++b)=da a++da b:=by simp[da]
theorem GA(a:Bs):(da a).length=a.length:=by simp[da]
theorem MK.Rp{g:Bs}{a:Option Addr}{c:Nat}(H:MK E W S (out++g) av rv (.slice a (out++g).length c)):
 MK E (W.setCell ⟨E.mb,7,none⟩ (.slice a out.length c)) S out av rv (.slice a out.length c)∧bC (MB E av rv (.slice a (out++g).length c)) W (MB E av rv (.slice a out.length c)) (W.setCell ⟨E.mb,7,none⟩ (.slice a out.length c)):=by
 have k:ak E.mb W (W.setCell ⟨E.mb,7,none⟩ (.slice a out.length c)):=(ak.refl _ _).set;have n:(Value.slice a out.length c).ownBlock=(Value.slice a (out++g).length c).ownBlock:=by cases a<;>rfl
 obtain⟨n1,n2,u,w⟩:=fF.1 H.vW;have r:W.ownsRow E.w0.heap.size 5 1 (.slice a out.length c) out.length (da out):=by
  have h:=H.lE;rcases h.2 with⟨d,i⟩|⟨g',cap,s,d,i⟩
  ·injection d with l o m;subst l;subst m;have p:out.length=0:=by rw[bB] at i;omega
   have q:out=[]:=jn p;subst q;exact jO _ _ _ _
  ·injection d with l o m;subst l;subst m;rw[Gz] at h;exact Dp h (by rw[bB];omega) (by rw[GA];omega)
 refine H.swap (v:=.slice a (out++g).length c) (v':=.slice a out.length c) (H.up.trans (k.below H.far.1 H.up.size)) k.size (fun b d i t=>k.block b d (by intro e;injection e with e;exact i e)) (aw (j:=7) H.box) rfl (.inl n) (.inr (.inr ⟨rfl,rfl,rfl,rfl,rfl,rfl, ?_⟩));exact r.kept k (.inr (by rw[n];exact(n2 E.mb (.inl rfl)).2.2))
end
theorem xu{E:ME}{W:World}{M:List Nat}{S:PS}{out:Bs}(H:MX E W M S out)(N:out.length≤100000000){r:PS×Oc}(f:FuncId)(cap:Array Value)(Y:∀(vs:Array Value) (w:World),(callFunc f vs).run Tryz.prog w=.ok (.enter f vs) w)
 (A:Calls Tryz.prog f cap W (dk E M W out r)):
 Calls Tryz.prog 32 #[.pointer (some ⟨E.mb,0,none⟩),.func (.func f) #[] cap] W (fy E M W out r):=by
 obtain⟨av,rv,ov,m,rfl⟩:=H;obtain⟨s,u,rfl⟩:=aX m.lE;have y:=aj 7 m.box;have x:=ad A;obtain⟨n,p⟩:∃n,out.length=n:=⟨_,rfl⟩;have d:=ad p;rw[p] at y N x⊢;have i1:(n:Int)≤100000000:=by omega
 have i0:(0:Int)≤(n:Int):=by omega
 clear m A p;obtain⟨j,o⟩:=r;go_enter Tryz.func32,Tryz.ntmps32;go_wp2_with fail;refine x.out.mono ?_;rintro V i q;cases o with
 |yes t=>obtain⟨rfl,e,a,b⟩:=q;have c:=ad (show fy E (MB E av rv (.slice s n u)) W out (j,.yes t) (.returned (.bool true)) i from⟨rfl,e,a,b⟩);clear a b;go_wp2_with fail;go_ret;exact c.out
 |no=>
  obtain⟨rfl,e,g,⟨Q,ab,aa,a,rfl⟩,b⟩:=q;obtain⟨O,B,rfl⟩:=aX a.lE;have C:=ad a.Rp;have D:=ad b;have F:=aj 7 a.box;have X:i.frozen? ⟨E.mb,7,none⟩=false:=aA a.box;have Z:(n:Int)≤(B:Int):=by
   rcases a.lE.2 with⟨k,l⟩|⟨g',R,T,k,_,_,l,_⟩
   ·injection k with G I J;have:=d.out;rw[bB] at l;omega
   ·injection k with G I J;have:=d.out;rw[bB] at l;omega
  have K:(n:Int)≤((out++g).length:Int):=by have:=d.out;rw[bB];omega
  have c:=ad (show fy E (MB E av rv (.slice s n u)) W out (j,.no) (.returned (.bool false)) (i.setCell ⟨E.mb,7,none⟩ (.slice O n B)) from by have h:=C.out;rw[d.out] at h;exact⟨rfl,_,⟨_,_,_,h.1,rfl⟩,D.out.trans h.2⟩)
  obtain⟨L,z⟩:∃L,(out++g).length=L:=⟨_,rfl⟩;rw[z] at F K;clear a b z y;go_wp2_with fail;go_ret;exact c.out
 |wait=>obtain⟨rfl,e,g,a,b⟩:=q;have c:=ad (show fy E (MB E av rv (.slice s n u)) W out (j,.wait) (.panicked [gA]) i from⟨rfl,e,g,a,b⟩);clear a b;go_wp2_with fail;exact⟨rfl,c.out⟩
def DL(o:Bs):PS×Oc→PS×Oc
 |(S,.yes t)=>(S,.yes (o++t))
 |q=>q
theorem NW(r:PS×Oc):DL [] r=r:=by obtain⟨S,o⟩:=r;cases o<;>rfl
theorem NY(a b:Bs)(r:PS×Oc):DL a (DL b r)=DL (a++b) r:=by
 obtain⟨S,o⟩:=r;cases o with
 |yes t=>show(S,Oc.yes (a++(b++t)))=(S,Oc.yes (a++b++t));rw[jl]
 |no=>rfl
 |wait=>rfl
theorem GB{P:fx}{deep:Deep}{base:U}{l:List Nd}{i:Nat}{x:Nd}(e:l[i]? =some x)(vs:Bool)(S:PS)(a:Nat):
 (∀b t,bT P deep base x vs S a=(b,.yes t)→dJ P deep base (l.drop i) vs S a=DL t (dJ P deep base (l.drop (i+1)) vs b (a+t.length)))∧
 (∀b,bT P deep base x vs S a=(b,.no)→dJ P deep base (l.drop i) vs S a=(b,.no))∧(∀b,bT P deep base x vs S a=(b,.wait)→dJ P deep base (l.drop i) vs S a=(b,.wait)):=by
 obtain⟨c,d⟩:=cH.1 e;rw[lG c,d,dJ];refine⟨fun b t h=> ?_,fun b h=>by rw[h],fun b h=>by rw[h]⟩;rw[h];dsimp only;generalize dJ P deep base (l.drop (i+1)) vs b (a+t.length)=q;obtain⟨j,o⟩:=q;cases o<;>rfl
def kl(E:ME)(deep:Deep)(base:U)(dp:Nat)(n:Nd):Prop:=
 ∀(W:World) (M:List Nat) (S:PS) (out:Bs) (vs:Bool) (v:Value),MX E W M S out→fu (fun b=>b∉M) W n v→bq E.inc S (wN n)→out.length≤262144→
  Calls Tryz.prog 19 #[.pointer (some ⟨E.mb,0,none⟩),v,Tp base dp vs] W (dk E M W out (bT E.env deep base n vs S out.length))
theorem Js{l:List Nd}{i:Nat}{x:Nd}(c:l[i]? =some x):wL (l.drop i)=wN x+wL (l.drop (i+1)):=by obtain⟨a,b⟩:=cH.1 c;rw[lG a,b,wL]
theorem fC.stay{M j:List Nat}{W W':World}{l:List Nd}{v:Value}(h:fC (fun b=>b∉M) W l v)(a:bC M W j W'):fC (fun b=>b∉j) W' l v:=by
 rcases h with h|⟨b,o,c,d,e,k,i,m⟩
 ·exact .inl h
 ·exact .inr ⟨b,o,c,d,e,(a.cO b i k).1,ej i a.size,pW a.size (fun b d e=>a.cO b e d) l b o k i m⟩
theorem GC{E:ME}{deep:Deep}{base:U}{dp:Nat}(HK:DM E.env deep base){W:World}{M:List Nat}{S:PS}{out:Bs}(H:MX E W M S out){l:List Nd}(hN:∀x∈l,kl E deep base dp x){v:Value}(J:fC (fun b=>b∉M) W l v)(a1:DN l)(hl:l.length≤1000000)(hw:bq E.inc S (wL l))(ho:out.length≤262144)(vs:Bool):
 Calls Tryz.prog 34 #[.pointer (some ⟨E.mb,0,none⟩),v,Tp base dp vs] W (dk E M W out (dJ E.env deep base l vs S out.length)):=by
 obtain⟨ka,kc,rfl⟩:=J.shape;have F:=az W (.cells (zv base dp vs).toArray 89);have HP:=ad (au W (.cells (zv base dp vs).toArray 89));obtain⟨R,I⟩:∃R,dJ E.env deep base l vs S out.length=R:=⟨_,rfl⟩;rw[I];have af:Hid (MX E _ M S (out++[])):=ad (by rw[jm];exact H.next F);have y:=ad (bC.ai (M:=M) F);have ao:Hid (DL [] (dJ E.env deep base (l.drop 0) vs S (out.length+([]:Bs).length))=R):=ad (by rw[NW];exact I);have ay:Hid (bq E.inc S (wL (l.drop 0))):=ad hw;have a5:=ad hN;have ac:=ad J;have ab:=ad HK;have a7:=ad a1;have a9:=ad (show∀b,b∉M→b<W.heap.size→True from fun _ _ _=>trivial);obtain⟨N,G⟩:∃N,l.length=N:=⟨_,rfl⟩;have al:=ad G;rw[G] at ac hl⊢;have bb:=ad (show W.heap.size∉M from fun hm=>by obtain⟨av,rv,ov,h1,rfl⟩:=H;have:=(h1.mlt _ hm).2;omega)
 have a8:=ad ho;clear H hN J hw ho F I G HK a9 a1;go_enter Tryz.func34,Tryz.ntmps34;go_upto_region 1 with fail;generalize aN:W.alloc (.cells (zv base dp vs).toArray 89)=W1 at*;have bm:=ad (show W1.heap.size=W.heap.size+1 by rw[←aN];exact aO _ _);clear aN;generalize W.heap.size=pb at*;have a3:=ad (show fC (fun b=>b∉M) W1 l (.slice ka N kc) from ac.out.stay y.out);have an:=ad (And.intro (aB.1 HP.out).1 bb.out);go_upto_region 2 with fail
 go_loopw [11] (fun O wr=>∃(i:Nat) (m:List Nat) (c:PS) (a:Bs),i≤N∧O=.int .i64 i∧Hid (MX E wr m c (out++a))∧Hid (bC M W1 m wr)∧Hid (DL a (dJ E.env deep base (l.drop i) vs c (out.length+a.length))=R)∧Hid (bq E.inc c (wL (l.drop i)))∧Hid (out.length+a.length≤262144)) (fun O _=>N-(intOf O).toNat)
 case atStart=>exact⟨0,M,S,[],aH _,rfl,af,ad (bC.refl _ _),ao,ay,ad (by have:=a8.out;simpa using this)⟩
 case round=>
  obtain⟨i,m,c,a,hi,rfl,C,w,u,be,am⟩:=hrel;clear af ao ay;by_cases bl:i<N
  ·have i1:(i:Int)<(N:Int):=by omega
   have i0:(0:Int)≤(i:Int):=by omega
   obtain⟨x,p⟩:∃x,l[i]? =some x:=⟨_,cA (by rw[al.out];exact bl)⟩;have z:=ad (GB (P:=E.env) (deep:=deep) (base:=base) p vs c (out.length+a.length));have aq:=ad (show bq E.inc c (wN x+wL (l.drop (i+1))) by rw[←Js p];exact be.out);have aU:=a3.out.stay w.out;obtain⟨kb,ko,Z,xc,xk,xd,rfl,bk,a0,o⟩:=aU.get p;have A:=o 0 _ rfl;have T:=o 1 _ rfl;have V:=o 2 _ rfl;have X:=o 3 _ rfl;have Y:=o 4 _ rfl;rw[qF] at A;have hA5:=az wr (.cells (eH x.kind x.place x.text (.slice Z x.attrs.length xc) (.slice xk x.kids.length xd)).toArray 45);have K:wr.heap[pb]? =_:=(w.out.cO pb an.out.1 an.out.2).2.trans HP.out;have a2:=(hA5.block _ (aB.1 K).1).trans K;have e:=ad a2;have s:=ad (au wr (.cells (eH x.kind x.place x.text (.slice Z x.attrs.length xc) (.slice xk x.kids.length xd)).toArray 45));have D:=ad (w.out.trans (bC.ai (M:=m) hA5));have bf:=ad (show bq E.inc c (wN x) from aq.out.less (sd _ _));have B:=ad (a5.out x (eQ p) _ m c (out++a) vs _ (C.out.next hA5) (a0.next hA5) bf.out (by have:=am.out;rw[bB];exact this));rw[bB] at B;have aa:=ad (fun d t h=>ab.out.fit x vs c (out.length+a.length) d t am.out h);have ap:=ad (ab.out.room x (a7.out.get (eQ p)) vs c (out.length+a.length) _ aq.out);obtain⟨q,hq⟩:∃q,bT E.env deep base x vs c (out.length+a.length)=q:=⟨_,rfl⟩;rw[hq] at B z ap aa;clear p aU bk a0 o hA5 K a2 hq C;go_upto_region 4 with fail;generalize wr.alloc (.cells (eH x.kind x.place x.text (.slice Z x.attrs.length xc) (.slice xk x.kids.length xd)).toArray 45)=W5 at*;generalize wr.heap.size=xb at*;clear A T V X Y;have A:=aj 0 s.out;have T:=aj 1 s.out;have V:=aj 2 s.out;have X:=aj 3 s.out;have Y:=aj 4 s.out;have p0:=aj 0 e.out;have p1:=aj 1 e.out;have p2:=aj 2 e.out;have p3:=aj 3 e.out;have p4:=aj 4 e.out;have p5:=aj 5 e.out;have p6:=aj 6 e.out;have p7:=aj 7 e.out;go_wp2_with fail;refine B.out.mono ?_;rintro en Q L;clear A T V X Y p0 p1 p2 p3 p4 p5 p6 p7;obtain⟨d,oc⟩:=q;cases oc with
   |yes t=>
    obtain⟨rfl,n,j,k⟩:=L;have a4:Hid (MX E Q n d (out++(a++t))):=ad (by rw[←jl];exact j);have bg:=ad (D.out.trans k);have bd:Hid (DL (a++t) (dJ E.env deep base (l.drop (i+1)) vs d (out.length+(a++t).length))=R):=ad (by rw[←u.out,z.out.1 d t rfl,NY,bB,oh])
    have bi:Hid (bq E.inc d (wL (l.drop (i+1)))):=ad ap.out;have a6:=ad (show out.length+(a++t).length≤262144 by have:=aa.out d t rfl;rw[bB];omega);clear j k;go_wp2_with fail
    go_roundw
    case rel=>exact⟨i+1,n,d,a++t,by omega,by go_num,a4,bg,bd,bi,a6⟩
    case measure=>(simp[intOf]<;>omega)
   |no=>
    obtain⟨rfl,n,g,j,k⟩:=L;have r:=ad (show dk E M W out R (.returned (.bool false)) Q by rw[←u.out,z.out.2.1 d rfl];exact⟨rfl,n,a++g,by rw[←jl];exact j,y.out.trans (D.out.trans k)⟩)
    clear j k;go_wp2_with fail;go_ret;exact r.out
   |wait=>
    obtain⟨rfl,n,g,j,k⟩:=L;have r:=ad (show dk E M W out R (.panicked [gA]) Q by rw[←u.out,z.out.2.2 d rfl];exact⟨rfl,n,a++g,by rw[←jl];exact j,y.out.trans (D.out.trans k)⟩)
    clear j k;go_wp2_with fail;exact⟨rfl,r.out⟩
  ·obtain rfl:i=N:=by omega
   have r:=ad (show dk E M W out R (.returned (.bool true)) wr by rw[←u.out,qA (by rw[al.out];exact ag _),dJ];exact⟨rfl,m,by rw[jm];exact C.out,y.out.trans w.out⟩)
   go_wp2_with fail;go_ret;exact r.out
