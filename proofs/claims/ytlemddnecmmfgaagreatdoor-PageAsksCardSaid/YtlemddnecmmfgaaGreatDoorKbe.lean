/- The walk of the maker's all. -/
import Derived.Test.YtlemddnecmmfgaaGreatDoorKbd
set_option linter.unusedVariables false
set_option maxRecDepth 100000
set_option maxHeartbeats 4000000
namespace Go.Proofs.YtlemddnecmmfgaaGreatDoor
open Go.RowKit
variable{a:Nat}
theorem DE{P:Program}{ops:Array Oper}{rest:List Oper}{o:Oper}{a:Act}{Q:Exit→Act→aaK→Prop}{W:aaK}(c:o.guard=none)(s x:Operand)(t:TypeId)
 (r:o.op=.call {callee:=.builtin .append,args:=#[s,x],argTypes:=#[t,t]})
 (e:TypeId)(z:aaL)(size bytes:Nat)(C:P.underlying t=some (.slice e))(p:(P.info? e).map (fun i=>(i.zero,i.size,i.bytes))=some (some z,size,bytes))
 (G:z.cells.size=size)(B:0<size)(base:Nat)(w:aaK)
 (v:aaL)(n:Nat)(xs:List aaL)(A:a.eval s=v)(y:w.ownsRow base e size v n xs)
 (b:List aaL)(D:W=w.alloc (.cells b.toArray e))(q:b.length=size)(F:a.eval x=.slice (some ⟨w.heap.size,0,none⟩) 1 1)(d:∀u∈b,u.oneCell'=true)
 (m:(n+1)*bytes≤140737488355328)(j:n+1≤140737488355328)(l:base≤w.heap.size)
 (h:∀g cap w',w'.ownsRow base e size (.slice (some ⟨g,0,none⟩) (n+1) cap) (n+1) (xs++b)→(w.alloc (.cells b.toArray e)).grownBy w' v.ownBlock→(some g=v.ownBlock∨w.heap.size+1≤g)→
  wpList P ops Q rest (a.put o.dst (.slice (some ⟨g,0,none⟩) (n+1) cap)) w'):
 wpList P ops Q (o::rest) a W:=by
 refine wpList_plain c fun K k=> ?_;have:=gM (ops:=#[]) (K:=K) (Q:=Q) (E:=True) c s x t r e z size bytes C p G B base w v n xs A y b D q F d m j l (fun g cap w' H I J=>k _ _ (h g cap w' H I J));rw[ah (by simp[Region.wanted,c])] at this;exact this
theorem Vp:Tryz.prog.underlying 42=some (.slice 9):=by kernel_rfl
section
variable{E:ME}{W W':aaK}{S:PS}{out:Bs}{av rv ov:aaL}
theorem MK.grown(H:MK E W S out av rv ov){k a:aaK}{v:aaL}(c:Below W.heap.size W k)(d:k.grownBy a v.ownBlock)(n:v=av∨v=rv∨v=ov)(j:Nat)(u:aaL):
 Below E.w0.heap.size E.w0 (a.setCell ⟨E.mb,j,none⟩ u)∧W.heap.size≤(a.setCell ⟨E.mb,j,none⟩ u).heap.size∧(∀b,b<W.heap.size→b≠E.mb→some b≠v.ownBlock→(a.setCell ⟨E.mb,j,none⟩ u).heap[b]? =W.heap[b]?)∧
  a.heap[E.mb]? =some (.cells (Gw E S av rv ov).toArray 85)∧ak E.mb a (a.setCell ⟨E.mb,j,none⟩ u):=by
 have i:ak E.mb a (a.setCell ⟨E.mb,j,none⟩ u):=(ak.refl _ _).set;have A:=c.size;have B:=d.size;have C:=i.size;obtain⟨n1,n2,D,F⟩:=fF.1 H.vW;obtain⟨x,y,z⟩:=n2 E.mb (.inl rfl);have s:some E.mb≠v.ownBlock:=by
  rcases n with rfl|rfl|rfl
  ·exact fun e=>x e.symm
  ·exact fun e=>y e.symm
  ·exact fun e=>z e.symm
 have w:∀q,v.ownBlock=some q→E.w0.heap.size≤q:=by
  rcases n with rfl|rfl|rfl
  ·exact fun q h=>(H.asked.lt q h).1
  ·exact fun q h=>(H.reads.lt q h).1
  ·exact fun q h=>(H.lE.lt q h).1
 have l:=((H.up.t (c.m H.up.size))).grown d (by have:=H.up.size;omega) w;refine⟨l.t (i.below H.far.1 (by have:=l.size;omega)),by omega,fun b o p r=> ?_,((d.block _ (by have:=H.lt;omega) s).t (c.block _ H.lt)).t H.box,i⟩;exact(i.block b (by omega) (by intro e;injection e with e;exact p e)).t ((d.block b (by omega) r).t (c.block b o))
theorem MK.KQ(H:MK E W S out av rv ov){b:aaK}{O:Obj}{cap n:Nat}{s:Bs}(o:S.reads.length=n)
 (p:b.ownsRow E.w0.heap.size 9 1 (.slice (some ⟨a,0,none⟩) (n+1) cap) (n+1) (cM S.reads++[.string ⟨s.toArray⟩]))(l:(W.alloc O).grownBy b rv.ownBlock)(d:some a=rv.ownBlock∨W.heap.size+1≤a):
 (MK E (b.setCell ⟨E.mb,6,none⟩ (.slice (some ⟨a,0,none⟩) (n+1) cap)) {S with reads:=S.reads++[s]} out av (.slice (some ⟨a,0,none⟩) (n+1) cap) ov∧
  bC (MB E av rv ov) W (MB E av (.slice (some ⟨a,0,none⟩) (n+1) cap) ov) (b.setCell ⟨E.mb,6,none⟩ (.slice (some ⟨a,0,none⟩) (n+1) cap)))∧b.heap[E.mb]? =some (.cells (Gw E S av rv ov).toArray 85):=by
 obtain⟨h,i,k,c,r⟩:=H.grown (az W O) l (.inr (.inl rfl)) 6 (.slice (some ⟨a,0,none⟩) (n+1) cap);have m:some E.mb≠some a:=by
  obtain⟨n1,n2,t,u⟩:=fF.1 H.vW;intro e;injection e with e;rcases d with q|q
  ·exact(n2 E.mb (.inl rfl)).2.1 (by rw[←q,e])
  ·have:=H.lt;omega
 refine⟨H.swap (v:=rv) (v':=.slice (some ⟨a,0,none⟩) (n+1) cap) h i k (aw (j:=6) c) rfl (d.elim (fun q=>.inl q) (fun q=>.inr ⟨a,rfl,by omega⟩)) (.inr (.inl ⟨rfl,rfl,rfl,rfl,rfl,rfl, ?_⟩)),c⟩;show World.ownsRow _ _ _ 1 _ (S.reads++[s]).length (cM (S.reads++[s]));rw[bB,o,oG];exact p.kept r (.inr (fun e=>m e.symm))
end
theorem NU(w:aaK)(v:aaL)(ls:List Bs)(x:Bs)(h:cg w v ls)(m:ls.length≤1000000000):
 Calls Tryz.prog 122 #[v,.string ⟨x.toArray⟩] w fun e w'=>e=.returned (.bool (ls.contains x))∧w'=w:=by
 rcases h with⟨a,c,rfl,rfl⟩|⟨b,o,c,rfl,k,l,i⟩
 ·exact Tryz.slices_Contains_string_empty a c ⟨x.toArray⟩ w
 ·have h:=Tryz.slices_Contains_string b o ls.length c (ls.map fun b=>(⟨b.toArray⟩:aaM)) ⟨x.toArray⟩ w (by simp) (by omega) (fun j d=>by rw[jo] at d;have:=i j ls[j] (cA d);rw[this];simp[d])
  rw[oe (by simp),mr] at h;exact h
theorem BQ(l:List Bs)(b:List (Bs×Bs×Bool)){u:Bs×Bs×Bool}(h:b[a]? =some u):gh l (b.take (a+1))=lQ (gh l (b.take a)) (eT u.1 u.2.1 u.2.2):=by unfold gh;rw[List.take_add_one,h,List.foldl_append];rfl
theorem Jr{E:ME}{W:aaK}{M:List Nat}{S:PS}{out:Bs}(H:MX E W M S out){v:aaL}{b:List (Bs×Bs×Bool)}(Q:kR W v b)(hv:∀g,v.ownBlock=some g→g∉M)(hk:∀u∈b,u.2.1.length≤1000000)(hn:S.reads.length+b.length≤100000000):
 Calls Tryz.prog 101 #[.pointer (some ⟨E.mb,0,none⟩),v] W fun en w'=>en=.returned (.tuple #[])∧∃d,MX E w' d (S.read b) out∧bC M W d w':=by
 have a9:∃a c,v=.slice a b.length c:=by
  rcases Q with⟨rfl,rfl⟩|⟨g,c,rfl,_⟩
  ·exact⟨none,0,rfl⟩
  ·exact⟨_,c,rfl⟩
 obtain⟨ua,uc,rfl⟩:=a9;obtain⟨N,J⟩:∃N,b.length=N:=⟨_,rfl⟩;have Z:=ad J;have HU:=ad Q;have HV:=ad hv;have aU:=ad hk;have a0:=ad hn;have X:Hid (MX E W M {S with reads:=gh S.reads (b.take 0)} out):=ad H;have n1:N≤100000000:=by omega
 rw[J] at HU HV⊢;clear H Q hv hk hn J;go_enter Tryz.func101,Tryz.ntmps101;go_upto_region 1 with fail
 go_loopw [9] (fun T wr=>∃(i:Nat) (d:List Nat),i≤N∧T=.int .i64 i∧Hid (MX E wr d {S with reads:=gh S.reads (b.take i)} out)∧Hid (bC M W d wr)) (fun T _=>N-(intOf T).toNat)
 case atStart=>exact⟨0,M,aH _,rfl,X,ad (bC.refl M W)⟩
 case round=>
  obtain⟨i,d,hi,rfl,A,r⟩:=hrel;clear X;by_cases a7:i<N
  ·have i1:(i:Int)<(N:Int):=by omega
   have i0:(0:Int)≤(i:Int):=by omega
   obtain⟨u,q⟩:∃u,b[i]? =some u:=⟨_,cA (by rw[Z.o];exact a7)⟩;have x:=ad (BQ S.reads b q);have a6:=aU.o u (eQ q);obtain⟨av,rv,ov,aq,am⟩:=A.o;have B:=ad aq;have C:=ad am;have a5:=HU.o.next (W':=wr) (fun g n I=>(r.o.cO g n (HV.o g I.symm)).2) r.o.size;rcases a5 with⟨n,_⟩|⟨g,c,n,I,h3,h4⟩
   ·rw[n] at q;cases q
   obtain⟨bb,bd,ud,uq,c0,c1,c2,c3,c4,c5,c6⟩:=h4 i u q;injection n with e1 e2 e3;clear e2;subst e1;subst e3;have ac:=ad (fun w=>DF ⟨u.1.toArray⟩ ⟨u.2.1.toArray⟩ u.2.2 w (by show u.2.1.toArray.size≤_;simp;omega));obtain⟨s,O⟩:∃s,eT u.1 u.2.1 u.2.2=s:=⟨_,rfl⟩;have af:Hid (∀w,Calls Tryz.prog 142 #[.string ⟨u.1.toArray⟩,.string ⟨u.2.1.toArray⟩,.bool u.2.2] w (cN w (.string ⟨s.toArray⟩))):=ad (by intro w;rw[←O];exact ac.o w);rw[O] at x;clear q h4 aq am O I h3 a6 ac;obtain⟨R,K⟩:∃R,gh S.reads (b.take i)=R:=⟨_,rfl⟩;have ab:=ad (show R.length≤100000000 by have n:=uU S.reads (b.take i);rw[K,gu] at n;have:=a0.o;omega)
   rw[K] at x B;clear K A;go_wp2_with fail;refine(af.o _).m ?_;rintro e V⟨rfl,an⟩;have L:=(az wr (.cells #[.int .i64 bb,.int .i64 bd,.string ⟨u.1.toArray⟩,.string ⟨u.2.1.toArray⟩,.string ⟨ud.toArray⟩,.bool u.2.2,.bool uq] 168)).t (an.m (by rw[aO];omega));have j:=ad (B.o.next L);have F:=ad (r.o.t (bC.ai (M:=d) L));clear an L c0 c1 c2 c3 c4 c5 c6 B r af;obtain⟨ra,rc,a8⟩:=aX j.o.reads;subst a8;have b6:=aj j.o.box 6;have f6:V.frozen? ⟨E.mb,6,none⟩=false:=aA j.o.box;by_cases y:s=[]
   ·have l:Hid (MX E V d {S with reads:=gh S.reads (b.take (i+1))} out):=ad ⟨_,_,_,by rw[x.o,y];exact j.o,C.o⟩;subst y;go_wp2_with fail
    go_roundw
    case rel=>exact⟨i+1,d,by omega,by go_num,l,F⟩
    case measure=>(simp[intOf]<;>omega)
   ·have q1:(s==[])=false:=aL.2 y;have q2:(s !=[])=true:=by rw[bne,q1];rfl
    have D:=ad (show lQ R s=if R.contains s then R else R++[s] by unfold lQ;rw[zW y];rfl);have Y:=ad (NU V _ R s (cg.wO j.o.reads) (by have:=ab.o;omega));obtain⟨G,ao⟩:∃G,R.contains s=G:=⟨_,rfl⟩;rw[ao] at Y D;clear ao y;go_wp2_with fail;refine Y.o.m ?_;rintro e w3⟨rfl,rfl⟩;cases G
    ·have a2:=ad (show gh S.reads (b.take (i+1))=R++[s] by rw[x.o,D.o];rfl);obtain⟨k,p⟩:∃k,R.length=k:=⟨_,rfl⟩;have a3:=ad p;have aa:=ad j.o.reads;rw[p] at aa b6 j;have a1:=ad (show d=MB E av (.slice ra k rc) ov by rw[C.o,←p]);have l1:k≤100000000:=by rw[←p];exact ab.o
     rw[p];clear p;go_wp2_with (at_builtin;refine DE rfl _ _ 42 rfl 9 (.string ⟨#[]⟩) 1 16 Vp MO rfl (by decide) E.w0.heap.size w3 (.slice ra k rc) k (cM R) rfl aa.o [.string ⟨s.toArray⟩] rfl rfl rfl (by simp[Value.oneCell']) (by omega) (by omega) j.o.up.size ?_;intro g2 al w5 aN ap ay;have z:=ad (j.o.KQ a3.o aN ap ay);have be:=tH _ _ 6 _ _ _ z.o.2;have bf:w5.frozen? ⟨E.mb,6,none⟩=false:=aA z.o.2;clear aN ap ay);have l:Hid (MX E (w5.setCell ⟨E.mb,6,none⟩ (.slice (some ⟨g2,0,none⟩) (k+1) al)) (MB E av (.slice (some ⟨g2,0,none⟩) (k+1) al) ov) {S with reads:=gh S.reads (b.take (i+1))} out):=ad ⟨_,_,_,by rw[a2.o];exact z.o.1.1,rfl⟩;have a4:=ad (F.o.t (by rw[a1.o];exact z.o.1.2))
     go_roundw
     case rel=>exact⟨i+1,_,by omega,by go_num,l,a4⟩
     case measure=>(simp[intOf]<;>omega)
    ·have l:Hid (MX E w3 d {S with reads:=gh S.reads (b.take (i+1))} out):=ad ⟨_,_,_,by rw[x.o,D.o];exact j.o,C.o⟩;go_wp2_with fail
     go_roundw
     case rel=>exact⟨i+1,d,by omega,by go_num,l,F⟩
     case measure=>(simp[intOf]<;>omega)
  ·obtain rfl:i=N:=by omega
   have l:Hid (MX E wr d (S.read b) out):=ad (by have h:=A.o;rw[oe (by rw[Z.o];exact ag _)] at h;exact h);go_wp2_with fail
   go_end0
   exact⟨rfl,d,l.o,r.o⟩
variable{b:Bs}{a:aaK}
theorem KR{base:Nat}{v:aaL}{L:List iZ}(h:zu a base v L):kR a v (L.map fun u=>(u.name,u.key,u.hk)):=by
 have y:=h.lt;rcases h.2 with⟨b,c⟩|⟨g,cap,r,b,c,e,l,s,t,x⟩
 ·exact .inl ⟨by rw[jn c];rfl,b⟩
 ·have n:=h.cells (g:=g) (by rw[b];rfl);refine .inr ⟨g,cap,by rw[b,jo],by rw[jo];exact l,(aB.1 e).1,fun i p d=> ?_⟩;rw[uI] at d;obtain⟨u,o,rfl⟩:=qG.1 d;have k:∀(j:Nat) (w:aaL),(lR u)[j]? =some w→a.cell? ⟨g,i*7+j,none⟩=some w:=fun j w q=>by
   have m:(⟨g,0,none⟩:Addr).add (i*7+j)=⟨g,0+(i*7+j),none⟩:=by unfold Addr.add;split<;>simp_all
   have:=n _ _ (tV L i j u w o q);rw[m,dH] at this;exact this
  exact⟨u.src,u.to,u.cK,u.hd,k 0 _ rfl,k 1 _ rfl,k 2 _ rfl,k 3 _ rfl,k 4 _ rfl,k 5 _ rfl,k 6 _ rfl⟩
theorem Gx{u:Bs×Bs×Bool}(h:u∈dd b):u.2.1.length≤64:=by obtain⟨v,d,rfl⟩:=qE.1 h;obtain⟨k,c⟩:=zP.1 d;obtain⟨j,a,_⟩:=DG (nC b _ _) c;exact a.key
def Vq(E:ME):Prop:=∀(i:Nat) (g:j5),E.fZ[i]? =some g→∃b o,E.ga=some ⟨b,o,none⟩∧b<E.w0.heap.size∧E.w0.cell? ⟨b,o+i*3,none⟩=some (.string ⟨g.body.toArray⟩)∧E.w0.cell? ⟨b,o+i*3+1,none⟩=some (.bool g.F3)∧E.w0.cell? ⟨b,o+i*3+2,none⟩=some (.bool g.ok)
structure QQ (E:ME):Prop where
 gl:GL E.w0
 Vr:aZ E.w0 (.slice E.fa E.fn E.fc) E.fs
 Vs:rX E.fs
 t1:E.t.length≤100000
 h1:E.h.length≤100002000
 i1:E.inc≤64
 d1:E.dep≤8
 Vc:E.fZ.length≤100000000
 fZ:Vq E
 Vd:∀g∈E.fZ,g.body.length≤1000000
theorem DH{E:ME}(i:QQ E){M:List Nat}{S:PS}(H:MX E a M S b)(s:Bs)(J:s.length≤1000000)(I:S.reads.length≤90000000):
 Calls Tryz.prog 90 #[.pointer (some ⟨E.mb,0,none⟩),.string ⟨s.toArray⟩] a fun en w'=>en=.returned (.tuple #[.string ⟨(eA E.h E.t E.fs s).1.toArray⟩,.bool ((eA E.h E.t E.fs s).2==0)])∧∃B,MX E w' B (S.read (dd s)) b∧bC M a B w':=by
 obtain⟨av,rv,ov,p,C⟩:=H;have y:=ad p;have z:=ad C;have d:=ad i;have Z:=ad (DJ ⟨s.toArray⟩ a (i.gl.gx.aq.next p.up) (by show s.toArray.size≤_;simp;omega));have A:=ad (And.intro J I);obtain⟨V,k⟩:∃V,eA E.h E.t E.fs s=V:=⟨_,rfl⟩;have aa:=ad k;rw[k];clear p C J I k i;go_enter Tryz.func90,Tryz.ntmps90;go_wp2_with fail;refine Z.o.m ?_;rintro e w1⟨v,rfl,q,l⟩;have N:=ad (y.o.next l);have F:∀g,v.ownBlock=some g→g∉M:=fun g hg G=>by have h1:=(q.lt g hg).1;rw[z.o] at G;have:=(y.o.mlt g G).2;omega
 have R:=ad (Jr (M:=M) ⟨av,rv,ov,N.o,z.o⟩ (show kR w1 v (dd s) from KR q) F (fun u hu=>by have:=Gx hu;omega) (by have:=nD s;have:=A.o;omega));have T:=ad (bC.ai (M:=M) l);clear q l F;go_wp2_with fail;refine R.o.m ?_;rintro e r⟨rfl,j,L,K⟩;have an:=ad L;have X:=ad (T.o.t K);obtain⟨ac,am,al,c,D⟩:=L;have O:=ad c;have Q:=ad D;obtain⟨b8,b9,af⟩:=qX3 (aj c.box) 8 9 10;have w:=ad (KS ⟨s.toArray⟩ ⟨E.h.toArray⟩ ⟨E.t.toArray⟩ E.fa E.fn E.fc E.fs r (d.o.gl.gx.aq.next c.up) (d.o.Vr.below c.up) d.o.Vs (by show E.t.toArray.size≤_;simp;exact d.o.t1) (by show s.toArray.size≤_;simp;exact A.o.1));have x:Hid (Calls Tryz.prog 130 #[.string ⟨s.toArray⟩,.agg #[.string ⟨E.h.toArray⟩,.string ⟨E.t.toArray⟩,.slice E.fa E.fn E.fc]] r (cN r (Gy V))):=ad (by rw[←aa.o];exact w.o);clear K c D w;unfold Gy at x;go_wp2_with fail;refine x.o.m ?_;rintro e w3⟨rfl,n⟩;have ab:Hid (MX E w3 j (S.read (dd s)) b):=ad ⟨ac,am,al,O.o.next n,Q.o⟩;have Y:=ad (X.o.t (bC.ai (M:=j) n));clear n b8 b9 af;go_wp2_with fail;go_ret2;exact⟨rfl,j,ab.o,Y.o⟩
variable{a:List Nat}{b:aaK}
theorem rj{P:Program}(w:aaK)(base:Nat)(t u d e:TypeId)(i:TypeInfo)(o:P.underlying t=some (.slice e))(p:P.underlying u=some .string)(h:P.info? e=some i)(y:i.zero=some (.int .u8 0))
 (m:i.size=1)(x:i.bytes=1)(v:aaL)(n:Nat)(xs:List aaL)(c:w.ownsRow base e 1 v n xs)(s:aaM)
 (z:n+s.size≤maxLen)(B:n+s.size≤140737488355328)(H:base≤w.heap.size):
 ∃v' w',(Builtin.append_ #[t,u] d #[v,.string s]).run P w=.ok v' w'∧w'.ownsRow base e 1 v' (n+s.size) (xs++Lib.strCells s)∧w.grownBy w' v.ownBlock∧(v'.ownBlock=v.ownBlock∨∃k,v'.ownBlock=some k∧w.heap.size≤k):=by
 obtain⟨v',w',l,D,E,F⟩:=Lib.run_append_own_string (P:=P) w base t u d e i o p h y m x v n xs c s z B H;refine⟨v',w',l,D,E, ?_⟩;rcases c.2 with⟨rfl,rfl⟩|⟨g,cap,q,rfl,A,J,S,Q,I,T⟩
 ·by_cases K:s.size=0
  ·rw[F.2 ⟨rfl,K⟩];exact .inl rfl
  ·have M:xs=[]:=jn (by simpa using c.1);subst M;obtain⟨v2,V,a,G,_,_⟩:=Lib.run_append_own_string (P:=P) w w.heap.size t u d e i o p h y m x (.slice none 0 0) 0 [] (jO w _ _ _) s z B (ag _);rw[l] at a;injection a with b r;subst b r;rcases G.2 with⟨_,O⟩|⟨g,cap,q,C,A,_⟩
   ·omega
   ·exact .inr ⟨g,by rw[C];rfl,A⟩
 ·by_cases L:n+s.size≤cap
  ·have R:q.size=cap:=by simpa using I
   have a:=Lib.run_append_room_string (P:=P) w t u d e i o p h m g n cap q J s L (by omega);rw[l] at a;injection a with b r;subst b;exact .inl rfl
  ·have holds:∀j u,xs[j]? =some u→w.cell? ((⟨g,0,none⟩:Addr).add j)=some u:=c.cells (g:=g) rfl;have N:xs.length=n:=by simpa using c.1
   have a:=Lib.run_append_grow_string (P:=P) w t u d e i (.int .u8 0) o p h y ⟨g,0,none⟩ n cap xs (by rw[m];simpa using N) holds s (by omega) (by omega) (by rw[x];exact growslice_fits (by omega) (by omega));rw[l] at a;injection a with b r;subst b;exact .inr ⟨w.heap.size,rfl,ag _⟩
theorem DK{P:Program}{ops:Array Oper}{rest:List Oper}{o:Oper}{a:Act}{Q:Exit→Act→aaK→Prop}(z:o.guard=none)(c x:Operand)(t u:TypeId)
 (B:o.op=.call {callee:=.builtin .append,args:=#[c,x],argTypes:=#[t,u]})
 (base:Nat)(e:TypeId)(i:TypeInfo)(G:P.underlying t=some (.slice e))(H:P.underlying u=some .string)(A:P.info? e=some i)(J:i.zero=some (.int .u8 0))
 (F:i.size=1)(r:i.bytes=1)
 (v:aaL)(n:Nat)(xs:List aaL)(E:a.eval c=v)(C:b.ownsRow base e 1 v n xs)(s:aaM)(I:a.eval x=.string s)
 (m:n+s.size≤maxLen)(y:n+s.size≤140737488355328)(q:base≤b.heap.size)
 (h:∀v' w',w'.ownsRow base e 1 v' (n+s.size) (xs++Lib.strCells s)→b.grownBy w' v.ownBlock→(v'.ownBlock=v.ownBlock∨∃k,v'.ownBlock=some k∧b.heap.size≤k)→wpList P ops Q rest (a.put o.dst v') w'):wpList P ops Q (o::rest) a b:=by
 refine wpList_plain z fun K p=> ?_;obtain⟨v',w',D,d,j,l⟩:=rj (P:=P) b base t u o.type e i G H A J F r v n xs C s m y q;unfold Oper.wp execOp;simp only[B,resolve,invoke,builtin,Sem.run_bind,Sem.run_pure,Result.andThen_ok,List.map_toArray,kg,List.map_nil,E,I,D];exact p _ _ (h v' w' d j l)
section
variable{E:ME}{W W':aaK}{S:PS}{out:Bs}{av rv ov:aaL}
theorem MK.Rn(H:MK E W S out av rv ov){v':aaL}{n:Nat}{s:Bs}(r:out.length=n)
 (t:b.ownsRow E.w0.heap.size 5 1 v' (n+(⟨s.toArray⟩:aaM).size) (da out++Lib.strCells ⟨s.toArray⟩))(m:W.grownBy b ov.ownBlock)(c:v'.ownBlock=ov.ownBlock∨∃k,v'.ownBlock=some k∧W.heap.size≤k):
 (MK E (b.setCell ⟨E.mb,7,none⟩ v') S (out++s) av rv v'∧bC (MB E av rv ov) W (MB E av rv v') (b.setCell ⟨E.mb,7,none⟩ v'))∧b.heap[E.mb]? =some (.cells (Gw E S av rv ov).toArray 85):=by
 obtain⟨d,h,i,a,u⟩:=H.grown (ar _ _) m (.inr (.inr rfl)) 7 v';have o:v'.ownBlock≠some E.mb:=by
  obtain⟨n1,n2,x,y⟩:=fF.1 H.vW;rcases c with q|⟨k,q,w⟩
  ·rw[q];exact(n2 E.mb (.inl rfl)).2.2
  ·rw[q];intro e;injection e with e;have:=H.lt;omega
 refine⟨H.swap (v:=ov) (v':=v') d h i (aw (j:=7) a) rfl c (.inr (.inr ⟨rfl,rfl,rfl,rfl,rfl,rfl, ?_⟩)),a⟩;have p:(out++s).length=n+(⟨s.toArray⟩:aaM).size:=by rw[bB,r];rfl
 have l:da (out++s)=da out++Lib.strCells ⟨s.toArray⟩:=by rw[strCells_eq];simp[da]
 rw[p,l];exact t.kept u (.inr o)
end
def gA:PanicEntry:={v:=.iface 107 (.agg #[]),recovered:=false}
def fy(E:ME)(M:List Nat)(W:aaK)(out:Bs)(r:PS×Oc):Ending→aaK→Prop:=fun b w'=>match r.2 with
 |.yes t=>b=.returned (.bool true)∧∃a,MX E w' a r.1 (out++t)∧bC M W a w'
 |.no=>b=.returned (.bool false)∧∃a,MX E w' a r.1 out∧bC M W a w'
 |.wait=>b=.panicked [gA]∧∃a g,MX E w' a r.1 (out++g)∧bC M W a w'
def dk(E:ME)(M:List Nat)(W:aaK)(out:Bs)(r:PS×Oc):Ending→aaK→Prop:=fun b w'=>match r.2 with
 |.yes t=>b=.returned (.bool true)∧∃a,MX E w' a r.1 (out++t)∧bC M W a w'
 |.no=>b=.returned (.bool false)∧∃a g,MX E w' a r.1 (out++g)∧bC M W a w'
 |.wait=>b=.panicked [gA]∧∃a g,MX E w' a r.1 (out++g)∧bC M W a w'
theorem fy.Xa{E:ME}{W:aaK}{out:Bs}{r:PS×Oc}{c:Ending}(h:fy E a W out r c b):dk E a W out r c b:=by
 obtain⟨S,o⟩:=r;cases o with
 |yes t=>exact h
 |no=>obtain⟨e,d,i,j⟩:=h;exact⟨e,d,[],by rw[jm];exact i,j⟩
 |wait=>exact h
theorem xq{E:ME}{W:aaK}{S:PS}{out:Bs}(H:MX E W a S out)(s:Bs)(w:s.length≤100000000)(t:out.length≤100000000):
 Calls Tryz.prog 91 #[.pointer (some ⟨E.mb,0,none⟩),.string ⟨s.toArray⟩] W (fy E a W out (S,jq s out.length)):=by
 obtain⟨F,B,D,C,A⟩:=info_parts Ti;obtain⟨av,rv,ov,b,rfl⟩:=H;obtain⟨G,I,rfl⟩:=aX b.lE;have d:=ad b;have y:=aj b.box 7;have L:W.frozen? ⟨E.mb,7,none⟩=false:=aA b.box;obtain⟨n,i⟩:∃n,out.length=n:=⟨_,rfl⟩;obtain⟨m,h⟩:∃m,s.length=m:=⟨_,rfl⟩;have x:=ad i;have q:=ad b.lE;rw[i] at d y t q⊢;have j:=ad (show(⟨s.toArray⟩:aaM).size=m by show s.toArray.size=m;simp[h]);have l:=ad (show jq s n=if 262144<n+m then .no else .yes s by unfold jq;rw[h];rfl);rw[h] at w;have Q:(n:Int)≤100000000:=by omega
 have R:(m:Int)≤100000000:=by omega
 have T:(0:Int)≤(n:Int):=by omega
 have V:(0:Int)≤(m:Int):=by omega
 have p:=ad (And.intro w t);clear b;by_cases e:262144<n+m
 ·have z:(262144:Int)<(n:Int)+(m:Int):=by omega
  rw[l.o,ah e];clear i e;have O:s.length=m:=h;go_enter Tryz.func91,Tryz.ntmps91;go_wp2_with fail;go_ret;exact⟨rfl,_,⟨_,_,_,d.o,rfl⟩,bC.refl _ _⟩
 ·have z:¬(262144:Int)<(n:Int)+(m:Int):=by omega
  rw[l.o,ae e];clear i e;go_enter Tryz.func91,Tryz.ntmps91;go_wp2_with (at_builtin;refine DK rfl _ _ 83 9 rfl E.w0.heap.size 5 F u83 u9 B D C A (.slice G n I) n (da out) rfl q.o ⟨s.toArray⟩ rfl (by have:=p.o;have:=j.o;unfold maxLen;omega) (by have:=p.o;have:=j.o;omega) d.o.up.size ?_;intro v2 J k r u;have c:=ad (d.o.Rn x.o k r u);obtain⟨X,Y,rfl⟩:=aX k;have K:=tH _ _ 7 _ _ _ c.o.2;have N:J.frozen? ⟨E.mb,7,none⟩=false:=aA c.o.2;clear k r u);rw[j.o] at c;go_ret;exact⟨rfl,_,⟨_,_,_,c.o.1.1,rfl⟩,c.o.1.2⟩
variable{a:Bs}{d:Ending}{s O:List Nat}{n:ME}{V:PS×Oc}{i q k:aaK}
theorem MX.next{E:ME}{W W':aaK}{M:List Nat}{S:PS}{out:Bs}(H:MX E W M S out)(a:Below W.heap.size W W'):MX E W' M S out:=by obtain⟨av,rv,b,h,e⟩:=H;exact⟨av,rv,b,h.next a,e⟩
theorem fy.pre(l:bC s i O q)(h:fy n O q a V d k):fy n s i a V d k:=by
 obtain⟨S,o⟩:=V;cases o with
 |yes t=>obtain⟨c,b,e,j⟩:=h;exact⟨c,b,e,l.t j⟩
 |no=>obtain⟨c,b,e,j⟩:=h;exact⟨c,b,e,l.t j⟩
 |wait=>obtain⟨c,b,g,e,j⟩:=h;exact⟨c,b,g,e,l.t j⟩
theorem dk.pre(l:bC s i O q)(h:dk n O q a V d k):dk n s i a V d k:=by
 obtain⟨S,o⟩:=V;cases o with
 |yes t=>obtain⟨c,b,e,j⟩:=h;exact⟨c,b,e,l.t j⟩
 |no=>obtain⟨c,b,g,e,j⟩:=h;exact⟨c,b,g,e,l.t j⟩
 |wait=>obtain⟨c,b,g,e,j⟩:=h;exact⟨c,b,g,e,l.t j⟩
theorem xr(t:Bs)(n:Nat):jq t n=.no∨jq t n=.yes t:=by unfold jq;split<;>simp
theorem xt(h t:Bs)(fs:List dQ)(s:Bs):(eA h t fs s).1.length≤262144:=by
 unfold eA;cases a:decide ((uW h t fs s).length≤oP) with
 |true=>exact dv a
 |false=>exact aH _
abbrev zv(b:U)(d:Nat)(vs:Bool):List aaL:=[.string ⟨b.scheme.toArray⟩,.string ⟨b.host.toArray⟩,.int .i64 b.port,.string ⟨b.path.toArray⟩,.string ⟨b.query.toArray⟩,.bool b.hq,.int .i64 d,.bool vs]
abbrev Tp(b:U)(d:Nat)(vs:Bool):aaL:=.agg #[.string ⟨b.scheme.toArray⟩,.string ⟨b.host.toArray⟩,.int .i64 b.port,.string ⟨b.path.toArray⟩,.string ⟨b.query.toArray⟩,.bool b.hq,.int .i64 d,.bool vs]
theorem NV(P:fx)(vs:Bool)(t:Bs)(S:PS)(n:Nat):lS P vs t S n=if vs=false then(S,jq t n) else if(eA P.h P.t P.fs t).2=0 then(S.read (dd t),jq (eA P.h P.t P.fs t).1 n) else(S.read (dd t),.no):=by
 unfold lS BR;split
 ·rfl
 ·split
  ·rename_i c a;split at a
   ·cases a
   ·rename_i b;rw[ae b]
  ·rename_i r c a;split at a
   ·rename_i b;cases a;rw[ah b]
   ·cases a
theorem Ro(J:QQ n){S:PS}(H:MX n i s S a)(t:Bs)(Z:t.length≤1000000)(X:S.reads.length≤90000000)(T:a.length≤100000000)(b:U)(d:Nat)(vs:Bool):
 Calls Tryz.prog 46 #[.pointer (some ⟨n.mb,0,none⟩),.string ⟨t.toArray⟩,Tp b d vs] i (fy n s i a (lS n.env vs t S a.length)):=by
 have D:=az i (.cells (zv b d vs).toArray 109);have A:=ad (bC.ai (M:=s) D);have C:=ad (H.next D);have K:=ad (au i (.cells (zv b d vs).toArray 109));have ab:=ad J;have r:=ad (And.intro Z (And.intro X T));have G:=NV n.env vs t S a.length;obtain⟨R,Q⟩:∃R,lS n.env vs t S a.length=R:=⟨_,rfl⟩;rw[Q] at G⊢;have L:=ad G;clear D H J Z X T G Q;go_enter Tryz.func46,Tryz.ntmps46;go_upto_region 1 with fail;generalize i.alloc (.cells (zv b d vs).toArray 109)=W1 at*;have c7:=aj K.o 7;cases vs
 ·have p:=ad (show R=(S,jq t a.length) by rw[L.o];rfl);have l:=ad (xq C.o t (by have:=r.o;omega) r.o.2.2);rcases xr t a.length with j|j
  ·rw[j] at l p;clear j;go_wp2_with fail;refine l.o.m ?_;rintro w u⟨rfl,c⟩;have k:=ad (show fy n s i a R (.returned (.bool false)) u by rw[p.o];exact fy.pre A.o ⟨rfl,c⟩);clear c;go_wp2_with fail;go_ret;exact k.o
  ·rw[j] at l p;clear j;go_wp2_with fail;refine l.o.m ?_;rintro w u⟨rfl,c⟩;have k:=ad (show fy n s i a R (.returned (.bool true)) u by rw[p.o];exact fy.pre A.o ⟨rfl,c⟩);clear c;go_wp2_with fail;go_ret;exact k.o
 ·have z:=ad (DH ab.o C.o t r.o.1 r.o.2.1);have N:=ad (xt n.h n.t n.fs t);obtain⟨V,F⟩:∃V,eA n.h n.t n.fs t=V:=⟨_,rfl⟩;have p:=ad (show R=if V.2=0 then(S.read (dd t),jq V.1 a.length) else(S.read (dd t),.no) by rw[L.o];show(if(eA n.h n.t n.fs t).2=0 then(S.read (dd t),jq (eA n.h n.t n.fs t).1 a.length) else(S.read (dd t),.no))=_;rw[F]);rw[F] at z N;obtain⟨y,e⟩:=V;clear F;go_wp2_with fail;refine z.o.m ?_;rintro w u⟨rfl,M2,aa,Y⟩;have O:=ad aa;have B:=ad (A.o.t Y);clear aa Y c7 z C K;by_cases x:e=0
  ·subst x;have q:=ad (show R=(S.read (dd t),jq y a.length) from p.o);have l:=ad (xq O.o y (by have h:y.length≤262144:=N.o;omega) r.o.2.2);rcases xr y a.length with j|j
   ·rw[j] at l q;clear j;go_wp2_with fail;refine l.o.m ?_;rintro w I⟨rfl,c⟩;have k:=ad (show fy n s i a R (.returned (.bool false)) I by rw[q.o];exact fy.pre B.o ⟨rfl,c⟩);clear c;go_wp2_with fail;go_ret;exact k.o
   ·rw[j] at l q;clear j;go_wp2_with fail;refine l.o.m ?_;rintro w I⟨rfl,c⟩;have k:=ad (show fy n s i a R (.returned (.bool true)) I by rw[q.o];exact fy.pre B.o ⟨rfl,c⟩);clear c;go_wp2_with fail;go_ret;exact k.o
  ·have q:=ad (show R=(S.read (dd t),.no) by rw[p.o];exact ae x);have q1:=eS x;have k:=ad (show fy n s i a R (.returned (.bool false)) u by rw[q.o];exact⟨rfl,M2,O.o,B.o⟩);clear x;go_wp2_with fail;go_ret;exact k.o
section
variable{E:ME}{W W':aaK}{S:PS}{out:Bs}{av rv ov:aaL}
theorem Gz(a b:Bs):da (a++b)=da a++da b:=by simp[da]
theorem GA(a:Bs):(da a).length=a.length:=by simp[da]
theorem MK.Rp{g:Bs}{a:Option Addr}{c:Nat}(H:MK E W S (out++g) av rv (.slice a (out++g).length c)):
 MK E (W.setCell ⟨E.mb,7,none⟩ (.slice a out.length c)) S out av rv (.slice a out.length c)∧bC (MB E av rv (.slice a (out++g).length c)) W (MB E av rv (.slice a out.length c)) (W.setCell ⟨E.mb,7,none⟩ (.slice a out.length c)):=by
 have k:ak E.mb W (W.setCell ⟨E.mb,7,none⟩ (.slice a out.length c)):=(ak.refl _ _).set;have n:(Value.slice a out.length c).ownBlock=(Value.slice a (out++g).length c).ownBlock:=by cases a<;>rfl
 obtain⟨n1,n2,w,x⟩:=fF.1 H.vW;have r:W.ownsRow E.w0.heap.size 5 1 (.slice a out.length c) out.length (da out):=by
  have h:=H.lE;rcases h.2 with⟨d,i⟩|⟨g',cap,s,d,i⟩
  ·injection d with l o m;subst l;subst m;have p:out.length=0:=by rw[bB] at i;omega
   have q:out=[]:=jn p;subst q;exact jO _ _ _ _
  ·injection d with l o m;subst l;subst m;rw[Gz] at h;exact Dp h (by rw[bB];omega) (by rw[GA];omega)
 refine H.swap (v:=.slice a (out++g).length c) (v':=.slice a out.length c) (H.up.t (k.below H.far.1 H.up.size)) k.size (fun b d i u=>k.block b d (by intro e;injection e with e;exact i e)) (aw (j:=7) H.box) rfl (.inl n) (.inr (.inr ⟨rfl,rfl,rfl,rfl,rfl,rfl, ?_⟩));exact r.kept k (.inr (by rw[n];exact(n2 E.mb (.inl rfl)).2.2))
end
theorem xu{E:ME}{W:aaK}{M:List Nat}{S:PS}{out:Bs}(H:MX E W M S out)(O:out.length≤100000000){r:PS×Oc}(f:FuncId)(cap:Array aaL)(Z:∀(vs:Array aaL) (w:aaK),(callFunc f vs).run Tryz.prog w=.ok (.enter f vs) w)
 (B:Calls Tryz.prog f cap W (dk E M W out r)):
 Calls Tryz.prog 51 #[.pointer (some ⟨E.mb,0,none⟩),.func (.func f) #[] cap] W (fy E M W out r):=by
 obtain⟨av,rv,ov,p,rfl⟩:=H;obtain⟨u,x,rfl⟩:=aX p.lE;have z:=aj p.box 7;have y:=ad B;obtain⟨n,q⟩:∃n,out.length=n:=⟨_,rfl⟩;have d:=ad q;rw[q] at z O y⊢;have i1:(n:Int)≤100000000:=by omega
 have i0:(0:Int)≤(n:Int):=by omega
 clear p B q;obtain⟨j,o⟩:=r;go_enter Tryz.func51,Tryz.ntmps51;go_wp2_with fail;refine y.o.m ?_;rintro X i s;cases o with
 |yes t=>obtain⟨rfl,e,a,b⟩:=s;have c:=ad (show fy E (MB E av rv (.slice u n x)) W out (j,.yes t) (.returned (.bool true)) i from⟨rfl,e,a,b⟩);clear a b;go_wp2_with fail;go_ret;exact c.o
 |no=>
  obtain⟨rfl,e,g,⟨R,ac,ab,a,rfl⟩,b⟩:=s;obtain⟨Q,C,rfl⟩:=aX a.lE;have D:=ad a.Rp;have F:=ad b;have G:=aj a.box 7;have Y:i.frozen? ⟨E.mb,7,none⟩=false:=aA a.box;have aa:(n:Int)≤(C:Int):=by
   rcases a.lE.2 with⟨k,l⟩|⟨g',T,V,k,_,_,l,_⟩
   ·injection k with I J K;have:=d.o;rw[bB] at l;omega
   ·injection k with I J K;have:=d.o;rw[bB] at l;omega
  have N:(n:Int)≤((out++g).length:Int):=by have:=d.o;rw[bB];omega
  have c:=ad (show fy E (MB E av rv (.slice u n x)) W out (j,.no) (.returned (.bool false)) (i.setCell ⟨E.mb,7,none⟩ (.slice Q n C)) from by have h:=D.o;rw[d.o] at h;exact⟨rfl,_,⟨_,_,_,h.1,rfl⟩,F.o.t h.2⟩)
  obtain⟨L,A⟩:∃L,(out++g).length=L:=⟨_,rfl⟩;rw[A] at G N;clear a b A z;go_wp2_with fail;go_ret;exact c.o
 |wait=>obtain⟨rfl,e,g,a,b⟩:=s;have c:=ad (show fy E (MB E av rv (.slice u n x)) W out (j,.wait) (.panicked [gA]) i from⟨rfl,e,g,a,b⟩);clear a b;go_wp2_with fail;exact⟨rfl,c.o⟩
variable{s:List Nat}{d:List Nd}{e:Nat}{b:Nd}
def DL(o:Bs):PS×Oc→PS×Oc
 |(S,.yes t)=>(S,.yes (o++t))
 |q=>q
theorem NW(r:PS×Oc):DL [] r=r:=by obtain⟨S,o⟩:=r;cases o<;>rfl
theorem NY(a b:Bs)(r:PS×Oc):DL a (DL b r)=DL (a++b) r:=by
 obtain⟨S,o⟩:=r;cases o with
 |yes t=>show(S,Oc.yes (a++(b++t)))=(S,Oc.yes (a++b++t));rw[jl]
 |no=>rfl
 |wait=>rfl
theorem GB{P:fx}{deep:Deep}{base:U}(m:d[e]? =some b)(vs:Bool)(S:PS)(a:Nat):
 (∀c t,bT P deep base b vs S a=(c,.yes t)→dJ P deep base (d.drop e) vs S a=DL t (dJ P deep base (d.drop (e+1)) vs c (a+t.length)))∧
 (∀c,bT P deep base b vs S a=(c,.no)→dJ P deep base (d.drop e) vs S a=(c,.no))∧(∀c,bT P deep base b vs S a=(c,.wait)→dJ P deep base (d.drop e) vs S a=(c,.wait)):=by
 obtain⟨j,k⟩:=cH.1 m;rw[lG j,k,dJ];refine⟨fun c t h=> ?_,fun c h=>by rw[h],fun c h=>by rw[h]⟩;rw[h];dsimp only;generalize dJ P deep base (d.drop (e+1)) vs c (a+t.length)=q;obtain⟨n,o⟩:=q;cases o<;>rfl
def kl(E:ME)(deep:Deep)(base:U)(dp:Nat)(n:Nd):Prop:=
 ∀(W:aaK) (M:List Nat) (S:PS) (out:Bs) (vs:Bool) (v:aaL),MX E W M S out→fu (fun b=>b∉M) W n v→bq E.inc S (wN n)→out.length≤262144→
  Calls Tryz.prog 25 #[.pointer (some ⟨E.mb,0,none⟩),v,Tp base dp vs] W (dk E M W out (bT E.env deep base n vs S out.length))
theorem Js(h:d[e]? =some b):wL (d.drop e)=wN b+wL (d.drop (e+1)):=by obtain⟨a,c⟩:=cH.1 h;rw[lG a,c,wL]
theorem fC.stay{k:List Nat}{W W':aaK}{v:aaL}(h:fC (fun b=>b∉s) W d v)(a:bC s W k W'):fC (fun b=>b∉k) W' d v:=by
 rcases h with h|⟨b,o,c,e,i,m,j,n⟩
 ·exact .inl h
 ·exact .inr ⟨b,o,c,e,i,(a.cO b j m).1,ej j a.size,pW a.size (fun b e i=>a.cO b i e) d b o m j n⟩
theorem GC{E:ME}{deep:Deep}{base:U}(HK:DM E.env deep base){W:aaK}{S:PS}{out:Bs}(H:MX E W s S out)(hN:∀x∈d,kl E deep base e x){v:aaL}(O:fC (fun b=>b∉s) W d v)(a1:DN d)(hl:d.length≤1000000)(hw:bq E.inc S (wL d))(ho:out.length≤262144)(vs:Bool):
 Calls Tryz.prog 53 #[.pointer (some ⟨E.mb,0,none⟩),v,Tp base e vs] W (dk E s W out (dJ E.env deep base d vs S out.length)):=by
 obtain⟨ka,kc,rfl⟩:=O.shape;have J:=az W (.cells (zv base e vs).toArray 109);have HP:=ad (au W (.cells (zv base e vs).toArray 109));obtain⟨R,L⟩:∃R,dJ E.env deep base d vs S out.length=R:=⟨_,rfl⟩;rw[L];have af:Hid (MX E _ s S (out++[])):=ad (by rw[jm];exact H.next J);have B:=ad (bC.ai (M:=s) J);have ao:Hid (DL [] (dJ E.env deep base (d.drop 0) vs S (out.length+([]:Bs).length))=R):=ad (by rw[NW];exact L);have ay:Hid (bq E.inc S (wL (d.drop 0))):=ad hw;have a5:=ad hN;have ac:=ad O;have ab:=ad HK;have a7:=ad a1;have bb:=ad (show∀b,b∉s→b<W.heap.size→True from fun _ _ _=>trivial);obtain⟨N,K⟩:∃N,d.length=N:=⟨_,rfl⟩;have al:=ad K;rw[K] at ac hl⊢;have bd:=ad (show W.heap.size∉s from fun hm=>by obtain⟨av,rv,ov,h1,rfl⟩:=H;have:=(h1.mlt _ hm).2;omega)
 have a8:=ad ho;clear H hN O hw ho J L K HK bb a1;go_enter Tryz.func53,Tryz.ntmps53;go_upto_region 1 with fail;generalize aN:W.alloc (.cells (zv base e vs).toArray 109)=W1 at*;have bo:=ad (show W1.heap.size=W.heap.size+1 by rw[←aN];exact aO _ _);clear aN;generalize W.heap.size=pb at*;have a3:=ad (show fC (fun b=>b∉s) W1 d (.slice ka N kc) from ac.o.stay B.o);have an:=ad (And.intro (aB.1 HP.o).1 bd.o);go_upto_region 2 with fail
 go_loopw [11] (fun V wr=>∃(i:Nat) (p:List Nat) (c:PS) (a:Bs),i≤N∧V=.int .i64 i∧Hid (MX E wr p c (out++a))∧Hid (bC s W1 p wr)∧Hid (DL a (dJ E.env deep base (d.drop i) vs c (out.length+a.length))=R)∧Hid (bq E.inc c (wL (d.drop i)))∧Hid (out.length+a.length≤262144)) (fun V _=>N-(intOf V).toNat)
 case atStart=>exact⟨0,s,S,[],aH _,rfl,af,ad (bC.refl _ _),ao,ay,ad (by have:=a8.o;simpa using this)⟩
 case round=>
  obtain⟨i,p,c,a,hi,rfl,G,A,z,bf,am⟩:=hrel;clear af ao ay;by_cases bn:i<N
  ·have i1:(i:Int)<(N:Int):=by omega
   have i0:(0:Int)≤(i:Int):=by omega
   obtain⟨x,w⟩:∃x,d[i]? =some x:=⟨_,cA (by rw[al.o];exact bn)⟩;have C:=ad (GB (P:=E.env) (deep:=deep) (base:=base) w vs c (out.length+a.length));have aq:=ad (show bq E.inc c (wN x+wL (d.drop (i+1))) by rw[←Js w];exact bf.o);have aU:=a3.o.stay A.o;obtain⟨kb,ko,xa,xc,xk,xd,rfl,bm,a0,u⟩:=aU.get w;have D:=u 0 _ rfl;have Y:=u 1 _ rfl;have Z:=u 2 _ rfl;have x3:=u 3 _ rfl;have x4:=u 4 _ rfl;rw[qF] at D;have hA5:=az wr (.cells (eH x.kind x.place x.text (.slice xa x.attrs.length xc) (.slice xk x.kids.length xd)).toArray 37);have Q:wr.heap[pb]? =_:=(A.o.cO pb an.o.1 an.o.2).2.t HP.o;have a2:=(hA5.block _ (aB.1 Q).1).t Q;have a9:=ad a2;have bl:=ad (au wr (.cells (eH x.kind x.place x.text (.slice xa x.attrs.length xc) (.slice xk x.kids.length xd)).toArray 37));have I:=ad (A.o.t (bC.ai (M:=p) hA5));have bg:=ad (show bq E.inc c (wN x) from aq.o.less (sd _ _));have F:=ad (a5.o x (eQ w) _ p c (out++a) vs _ (G.o.next hA5) (a0.next hA5) bg.o (by have:=am.o;rw[bB];exact this));rw[bB] at F;have aa:=ad (fun j t h=>ab.o.fit x vs c (out.length+a.length) j t am.o h);have ap:=ad (ab.o.room x (a7.o.get (eQ w)) vs c (out.length+a.length) _ aq.o);obtain⟨q,hq⟩:∃q,bT E.env deep base x vs c (out.length+a.length)=q:=⟨_,rfl⟩;rw[hq] at F C ap aa;clear w aU bm a0 u hA5 Q a2 hq G;go_upto_region 4 with fail;generalize wr.alloc (.cells (eH x.kind x.place x.text (.slice xa x.attrs.length xc) (.slice xk x.kids.length xd)).toArray 37)=W5 at*;generalize wr.heap.size=xb at*;clear D Y Z x3 x4;obtain⟨D,Y,Z,x3,x4⟩:=qX5 (aj bl.o) 0 1 2 3 4;obtain⟨p0,p1,p2,p3,p4,p5,p6,p7⟩:=qX8 (aj a9.o) 0 1 2 3 4 5 6 7;go_wp2_with fail;refine F.o.m ?_;rintro en X T;clear D Y Z x3 x4 p0 p1 p2 p3 p4 p5 p6 p7;obtain⟨j,oc⟩:=q;cases oc with
   |yes t=>
    obtain⟨rfl,r,k,n⟩:=T;have a4:Hid (MX E X r j (out++(a++t))):=ad (by rw[←jl];exact k);have bi:=ad (I.o.t n);have be:Hid (DL (a++t) (dJ E.env deep base (d.drop (i+1)) vs j (out.length+(a++t).length))=R):=ad (by rw[←z.o,C.o.1 j t rfl,NY,bB,oh])
    have bk:Hid (bq E.inc j (wL (d.drop (i+1)))):=ad ap.o;have a6:=ad (show out.length+(a++t).length≤262144 by have:=aa.o j t rfl;rw[bB];omega);clear k n;go_wp2_with fail
    go_roundw
    case rel=>exact⟨i+1,r,j,a++t,by omega,by go_num,a4,bi,be,bk,a6⟩
    case measure=>(simp[intOf]<;>omega)
   |no=>
    obtain⟨rfl,r,g,k,n⟩:=T;have y:=ad (show dk E s W out R (.returned (.bool false)) X by rw[←z.o,C.o.2.1 j rfl];exact⟨rfl,r,a++g,by rw[←jl];exact k,B.o.t (I.o.t n)⟩)
    clear k n;go_wp2_with fail;go_ret;exact y.o
   |wait=>
    obtain⟨rfl,r,g,k,n⟩:=T;have y:=ad (show dk E s W out R (.panicked [gA]) X by rw[←z.o,C.o.2.2 j rfl];exact⟨rfl,r,a++g,by rw[←jl];exact k,B.o.t (I.o.t n)⟩)
    clear k n;go_wp2_with fail;exact⟨rfl,y.o⟩
  ·obtain rfl:i=N:=by omega
   have y:=ad (show dk E s W out R (.returned (.bool true)) wr by rw[←z.o,qA (by rw[al.o];exact ag _),dJ];exact⟨rfl,p,by rw[jm];exact G.o,B.o.t A.o⟩)
   go_wp2_with fail;go_ret;exact y.o
