/- A strings.Builder's Len. -/
import Derived.Test.YtogchgjfialleaaGreatDoorKbg
set_option linter.unusedVariables false
set_option maxRecDepth 100000
set_option maxHeartbeats 1000000
namespace Go.Proofs.YtogchgjfialleaaGreatDoor
open Go.RowKit
def VF(W:World)(b:Nat)(v0 v1 v2 a c d e:Value):World:=((((((W.setCell ⟨b,0,none⟩ v0).setCell ⟨b,1,none⟩ v1).setCell ⟨b,2,none⟩ v2).setCell ⟨b,3,none⟩ a).setCell ⟨b,4,none⟩ c).setCell ⟨b,5,none⟩ d).setCell ⟨b,6,none⟩ e
theorem TD{W:World}{b:Nat}(v0 v1 v2 a c d e:Value):ak b W (VF W b v0 v1 v2 a c d e):=(ak.refl b W).set.set.set.set.set.set.set
attribute[local go_sem↓] Go.wp_at_zero Go.wp_at_succ
theorem E1{P:Program}{ops:Array Oper}{rest:List Oper}{o:Oper}{a:Act}{Q:Exit→Act→World→Prop}{W:World}(q:o.guard=none)(s x:Operand)(t:TypeId)
 (D:o.op=.call {callee:=.builtin .append,args:=#[s,x],argTypes:=#[t,t]})
 (e:TypeId)(z:Value)(size bytes:Nat)(I:P.underlying t=some (.slice e))(y:(P.info? e).map (fun i=>(i.zero,i.size,i.bytes))=some (some z,size,bytes))
 (M:z.cells.size=size)(H:0<size)(base:Nat)(w:World)
 (v:Value)(n:Nat)(xs:List Value)(F:a.eval s=v)(E:w.ownsRow base e size v n xs)
 (b:List Value)(J:W=w.alloc (.cells b.toArray e))(R:b.length=size)(K:a.eval x=.slice (some ⟨w.heap.size,0,none⟩) 1 1)(k:∀u∈b,u.oneCell'=true)
 (m:(n+1)*bytes≤140737488355328)(N:n+1≤140737488355328)(O:base≤w.heap.size)
 (h:∀g cap w',w'.ownsRow base e size (.slice (some ⟨g,0,none⟩) (n+1) cap) (n+1) (xs++b)→(w.alloc (.cells b.toArray e)).grownBy w' v.ownBlock→
  wpList P ops Q rest (a.put o.dst (.slice (some ⟨g,0,none⟩) (n+1) cap)) w'):
 wpList P ops Q (o::rest) a W:=by
 subst J;obtain⟨i,r,L,G,l⟩:=info_parts y;refine wpList_append_own _ q s x t D base e i z size bytes I r L G l M H v n xs F (E.alloc _) ⟨w.heap.size,0,none⟩ 1 1 b K (by omega) ?_ k
  (by unfold maxLen;omega) m (by simp;omega) ?_
 ·intro j u A;have B:b.toArray[j]? =some u:=by simpa using A
  have C:(w.alloc (.cells b.toArray e)).heap[w.heap.size]? =some (.cells b.toArray e):=au w _;have:((⟨w.heap.size,0,none⟩:Addr).add j)=⟨w.heap.size,j,none⟩:=by
   unfold Addr.add;by_cases c:j=0
   ·subst c;rfl
   ·rw[ae c];simp
  rw[this];unfold World.cell?;rw[show(w.alloc (.cells b.toArray e)).heap[(⟨w.heap.size,j,none⟩:Addr).block]? =_ from C];simpa using B
 ·intro v' w' d p _;obtain⟨g,cap,rfl⟩:=se d;exact h g cap w' d p
def lR(u:iZ):List Value:=[.int .i64 u.src,.int .i64 u.to,.string ⟨u.name.toArray⟩,.string ⟨u.key.toArray⟩,.string ⟨u.cK.toArray⟩,.bool u.hk,.bool u.hd]
def pq(a:List iZ):List Value:=a.flatMap lR
theorem E2(a:List iZ)(u:iZ):pq (a++[u])=pq a++lR u:=by simp[pq]
def sU(W:World)(b:Nat)(u:iZ):Prop:=W.heap[b]? =some (.cells #[.int .i64 u.src,.int .i64 u.to,.string ⟨u.name.toArray⟩,.string ⟨u.key.toArray⟩,.string ⟨u.cK.toArray⟩,.bool u.hk,.bool u.hd] 133)
def zu(w:World)(base:Nat)(v:Value)(a:List iZ):Prop:=w.ownsRow base 133 7 v a.length (pq a)
theorem ln{W:World}{b:Nat}{u:iZ}(h:sU W b u):(W.cell? ⟨b,0,none⟩=some (.int .i64 u.src)∧W.cell? ⟨b,1,none⟩=some (.int .i64 u.to)∧W.cell? ⟨b,2,none⟩=some (.string ⟨u.name.toArray⟩)∧W.cell? ⟨b,3,none⟩=some (.string ⟨u.key.toArray⟩)∧W.cell? ⟨b,4,none⟩=some (.string ⟨u.cK.toArray⟩)∧W.cell? ⟨b,5,none⟩=some (.bool u.hk)∧W.cell? ⟨b,6,none⟩=some (.bool u.hd))∧
 W.frozen? ⟨b,0,none⟩=false∧W.frozen? ⟨b,1,none⟩=false∧W.frozen? ⟨b,2,none⟩=false∧W.frozen? ⟨b,3,none⟩=false∧W.frozen? ⟨b,4,none⟩=false∧W.frozen? ⟨b,5,none⟩=false∧W.frozen? ⟨b,6,none⟩=false:=
 ⟨⟨aj 0 h,aj 1 h,aj 2 h,aj 3 h,aj 4 h,aj 5 h,aj 6 h⟩,
  aF _ _ 0 _ _ h,aF _ _ 1 _ _ h,aF _ _ 2 _ _ h,aF _ _ 3 _ _ h,aF _ _ 4 _ _ h,aF _ _ 5 _ _ h,aF _ _ 6 _ _ h⟩
def SA(w:World)(a:List iZ)(e:Ending)(w':World):Prop:=∃v,e=.returned v∧zu w' w.heap.size v a∧Below w.heap.size w w'
theorem VP:(Tryz.prog.info? 133).map (fun i=>(i.zero,i.size,i.bytes))=some (some (.agg #[.int .i64 0,.int .i64 0,.string ⟨#[]⟩,.string ⟨#[]⟩,.string ⟨#[]⟩,.bool false,.bool false]),7,72):=by kernel_rfl
theorem UJ:Tryz.prog.underlying 140=some (.slice 133):=by kernel_rfl
theorem Iy{W w':World}{b:Nat}{u:iZ}{o:Obj}{v:Value}(h:sU W b u)(i:v.ownBlock≠some b)(c:(W.alloc o).grownBy w' v.ownBlock):sU w' b u:=by have d:=ll h;have a:sU (W.alloc o) b u:=(((ar W.heap.size W).alloc (ag _) o).block b d).trans h;exact(c.block b (ll a) (fun e=>i e.symm)).trans a
theorem sU.next{W W':World}{b:Nat}{u:iZ}(h:sU W b u)(a:Below W.heap.size W W'):sU W' b u:=(a.block b (ll h)).trans h
theorem LR{w wr a:World}{v:Value}{done:List iZ}{u:iZ}{g cap:Nat}{o:Obj}(b:Below w.heap.size w wr)(j:zu wr w.heap.size v done)(d:a.ownsRow w.heap.size 133 7 (.slice (some ⟨g,0,none⟩) (done.length+1) cap) (done.length+1) (pq done++lR u))(h:(wr.alloc o).grownBy a v.ownBlock)(o2:Obj):
 zu (a.alloc o2) w.heap.size (.slice (some ⟨g,0,none⟩) (done.length+1) cap) (done++[u])∧Below w.heap.size w (a.alloc o2)∧(Value.slice (some ⟨g,0,none⟩) (done.length+1) cap).ownBlock≠some a.heap.size∧w.heap.size≤a.heap.size:=by
 have c:Below w.heap.size w a:=(b.alloc b.size o).grown h (by have:=b.size;simp;omega) (fun k i=>(j.lt k i).1);refine⟨?_,c.alloc c.size o2, ?_,c.size⟩
 ·unfold zu;rw[E2,bB];exact cp d ((ar _ _).alloc (ag _) _)
 ·intro e;have:=(d.lt _ e).2;omega
theorem Iz{w a c:World}{v:Value}{e:List iZ}{b:Nat}(h:zu a w.heap.size v e∧Below w.heap.size w a∧v.ownBlock≠some b∧w.heap.size≤b)(d:Below a.heap.size a c):
 zu c w.heap.size v e∧Below w.heap.size w c∧v.ownBlock≠some b∧w.heap.size≤b:=⟨cp h.1 d,h.2.1.trans (d.mono h.2.1.size),h.2.2.1,h.2.2.2⟩
theorem A8(o:Option iZ):pv o=.tuple #[.agg #[.int .i64 (o.getD me).src,.int .i64 (o.getD me).to,.string ⟨(o.getD me).name.toArray⟩,.string ⟨(o.getD me).key.toArray⟩,.string ⟨(o.getD me).cK.toArray⟩,.bool (o.getD me).hk,.bool (o.getD me).hd],.bool o.isSome]:=rfl
theorem A5(s:Bs):(mT s).length≤s.length:=by have:=yr s (mT s) 0 (nC s _ _) (aH _);omega
theorem SB{s:Bs}{done rest:List iZ}(h:done++rest=mT s):done.length≤s.length:=by have:=A5 s;rw[←h,bB] at this;omega
theorem DJ(s:ByteArray)(w:World)(hg:Good w)(hs:s.size≤100000000):
 Calls Tryz.prog 100 #[.string s] w (SA w (mT s.data.toList)):=by
 have J:=ad hg;clear hg;go_enter Tryz.func100,Tryz.ntmps100;go_wp2_with fail;refine(mY s 0 _ J.out hs).mono ?_;rintro e a⟨rfl,q⟩;rw[show j8 0 s.size=0 by unfold j8;simp];generalize ho:(cv s.data.toList 0)=o;rw[A8 o];have HO:=ad ho;clear ho;have A:=ad (rfl:o.getD me=o.getD me);revert A;generalize h:o.getD me=u;intro A;have ay:=ad h;clear A h;have n1:sU (a.alloc (.cells #[.int .i64 u.src,.int .i64 u.to,.string ⟨u.name.toArray⟩,.string ⟨u.key.toArray⟩,.string ⟨u.cK.toArray⟩,.bool u.hk,.bool u.hd] 133)) a.heap.size u:=au a _;have ap:=ad n1;have an:=ad (q.trans (((ar a.heap.size a).alloc (ag _) (.cells #[.int .i64 u.src,.int .i64 u.to,.string ⟨u.name.toArray⟩,.string ⟨u.key.toArray⟩,.string ⟨u.cK.toArray⟩,.bool u.hk,.bool u.hd] 133)).mono q.size));have a0:=q.size;clear n1 q;go_wp2_with fail;generalize a.alloc (.cells #[.int .i64 u.src,.int .i64 u.to,.string ⟨u.name.toArray⟩,.string ⟨u.key.toArray⟩,.string ⟨u.cK.toArray⟩,.bool u.hk,.bool u.hd] 133)=W1 at*;generalize a.heap.size=b1 at*
 go_loopg [2,3,4] (s.size+1) (fun g v c t wr=>∃(i k b:Nat) (done:List iZ) (o:Option iZ) (u:iZ),c=.pointer (some ⟨b,0,none⟩)∧t=.bool o.isSome∧i≤s.size∧s.size+1≤i+g∧s.size+1≤k+i∧Hid (cv s.data.toList i=o)∧Hid (o.getD me=u)∧Hid (done++mQ s.data.toList k i=mT s.data.toList)∧Hid (zu wr w.heap.size v done)∧Hid (sU wr b u)∧Hid (v.ownBlock≠some b)∧w.heap.size≤b∧Hid (Below w.heap.size w wr))
 case atStart=>exact⟨0,s.size+1,b1,[],o,u,rfl,rfl,aH _,by omega,by omega,HO,ay,ad (by unfold mT;rw[bj];rfl),ad ⟨rfl,.inl ⟨rfl,rfl⟩⟩,ap,ad (by intro e;cases e),a0,an⟩
 case round=>
  obtain⟨i,k,b,done,H,I,rfl,rfl,hi,a2,hk,z,n,x,p,B,av,a1,r⟩:=hrel;rcases H with _|u0
  ·have HE:=ad (Im (k:=k) z.out);go_wp2_with fail;go_ret;have hW:=p.out;have hD:=x.out;rw[HE.out,jm] at hD;rw[hD] at hW;exact⟨_,rfl,hW,r.out⟩
  ·obtain rfl:u0=I:=n.out;obtain⟨⟨M,N,O,Q,R,S,T⟩,V,W,X,Y,Z,f5,f6⟩:=ln B.out;have aU:=SB x.out;rw[bj] at aU;have y:=ad (Found.of z.out);have ac:=p.out;unfold zu at ac;have a5:=r.out.size;go_wp2_with (at_builtin;refine E1 rfl _ _ 140 rfl 133 (.agg #[.int .i64 0,.int .i64 0,.string ⟨#[]⟩,.string ⟨#[]⟩,.string ⟨#[]⟩,.bool false,.bool false]) 7 72 UJ VP rfl (by decide) w.heap.size _ _ _ _ rfl ac (lR u0) rfl rfl rfl (by intro u h;simp[lR] at h;rcases h with rfl|rfl|rfl|rfl|rfl|rfl|rfl<;>rfl) (by omega) (by omega) (by omega) ?_;intro g cap j af E;have C:=Iy B.out av.out E;obtain⟨⟨d0,d1,d2,d3,d4,d5,d6⟩,e0,e1,e2,e3,e4,e5,e6⟩:=ln C;have aN:=ad C;have l:=ad af;have K:=ad E;clear af E C M N O Q R S T V W X Y Z f5 f6);clear d0 d1 d2 d3 d4 d5 d6 e0 e1 e2 e3 e4 e5 e6;have n4:sU (j.alloc (.cells #[.int .i64 u0.src,.int .i64 u0.to,.string ⟨u0.name.toArray⟩,.string ⟨u0.key.toArray⟩,.string ⟨u0.cK.toArray⟩,.bool u0.hk,.bool u0.hd] 133)) j.heap.size u0:=au j _;have m:=ad (LR r.out p.out l.out K.out (.cells #[.int .i64 u0.src,.int .i64 u0.to,.string ⟨u0.name.toArray⟩,.string ⟨u0.key.toArray⟩,.string ⟨u0.cK.toArray⟩,.bool u0.hk,.bool u0.hd] 133));generalize j.alloc (.cells #[.int .i64 u0.src,.int .i64 u0.to,.string ⟨u0.name.toArray⟩,.string ⟨u0.key.toArray⟩,.string ⟨u0.cK.toArray⟩,.bool u0.hk,.bool u0.hd] 133)=W4 at*;generalize j.heap.size=b4 at*;have L:=ad (J.out.next m.out.2.1);refine(mY s u0.to W4 L.out hs).mono ?_;rintro e w5⟨rfl,D⟩;have ai:=y.out.le;have a4:=y.out.lt;have a3:=y.out.ge;rw[bj] at ai;rw[show j8 (u0.to:Int) s.size=u0.to by unfold j8;omega,A8 (cv s.data.toList u0.to)];have G:=n4.next D;obtain⟨⟨M,N,O,Q,R,S,T⟩,V,W,X,Y,Z,f5,f6⟩:=ln G;have aq:=ad G;have d:=ad (Iz m.out D);have aa:=m.out.2.2.2;clear n4 G D m L B aN l K p;generalize al:(cv s.data.toList u0.to).getD me=I;have n:=ad al;clear al;generalize F:cv s.data.toList u0.to=H;have l:=ad F;rw[F] at n;clear F;go_wp2_with fail;obtain⟨k',ab,am⟩:=Io z.out (by rw[bj];exact hk);rw[bj] at ab;have ao:=ad (show(done++[u0])++mQ s.data.toList k' u0.to=mT s.data.toList by rw[←x.out,am];simp);clear am
   go_roundg (s.size+1-u0.to)
   case measure=>omega
   case rel=>
    refine⟨u0.to,k',b4,done++[u0],H,I,rfl,rfl,ai,by omega,ab,l,n,ao,ad ?_,ad (VM _ _ _ _ _ _ _ aq.out),ad ?_,aa,ad ?_⟩
    ·refine World.ownsRow.kept d.out.1 (TD (b:=b4) _ _ _ _ _ _ _) (.inr d.out.2.2.1)
    ·exact d.out.2.2.1
    ·exact d.out.2.1.trans ((TD (b:=b4) _ _ _ _ _ _ _).below aa d.out.2.1.size)
def WT(u:bc):Bs×Bs×Bool:=(u.name,u.key,u.hk)
def kR(W:World)(v:Value)(l:List (Bs×Bs×Bool)):Prop:=(l=[]∧v=.slice none 0 0)∨∃g c,v=.slice (some ⟨g,0,none⟩) l.length c∧l.length≤c∧g<W.heap.size∧
 ∀(i:Nat) (u:Bs×Bs×Bool),l[i]? =some u→∃(s t:Int) (d:Bs) (q:Bool),W.cell? ⟨g,i*7,none⟩=some (.int .i64 s)∧W.cell? ⟨g,i*7+1,none⟩=some (.int .i64 t)∧W.cell? ⟨g,i*7+2,none⟩=some (.string ⟨u.1.toArray⟩)∧W.cell? ⟨g,i*7+3,none⟩=some (.string ⟨u.2.1.toArray⟩)∧
  W.cell? ⟨g,i*7+4,none⟩=some (.string ⟨d.toArray⟩)∧W.cell? ⟨g,i*7+5,none⟩=some (.bool u.2.2)∧W.cell? ⟨g,i*7+6,none⟩=some (.bool q)
theorem kR.next{W W':World}{v:Value}{l:List (Bs×Bs×Bool)}(h:kR W v l)(A:∀g,g<W.heap.size→some g=v.ownBlock→W'.heap[g]? =W.heap[g]?)(B:W.heap.size≤W'.heap.size):kR W' v l:=by
 rcases h with h|⟨g,c,x,y,b,z⟩
 ·exact .inl h
 ·subst x;refine .inr ⟨g,c,rfl,y,ej b B,fun i u C=> ?_⟩;obtain⟨s,t,d,q,e,m,n,o,p,r,w⟩:=z i u C;have k:∀j,W'.cell? ⟨g,j,none⟩=W.cell? ⟨g,j,none⟩:=fun j=>uL (a:=⟨g,j,none⟩) (A g b rfl);exact⟨s,t,d,q,(k _).trans e,(k _).trans m,(k _).trans n,(k _).trans o,(k _).trans p,(k _).trans r,(k _).trans w⟩
theorem Fy:∀{l:List bc} {i:Nat} {u:bc} (j:Nat) (v:Value),l[i]? =some u→(Qg u)[j]? =some v→(ti l)[i*7+j]? =some v
 |[],_,_,_,_,h,_=>by simp at h
 |x::r,0,u,j,v,h,a=>by simp at h;subst h;rw[ti,Nat.zero_mul,dH,qC (cH.1 a).1];exact a
 |x::r,i+1,u,j,v,h,a=>by rw[ti,jL (by show 7≤_;omega),←Fy (l:=r) (i:=i) j v (by simpa using h) a];congr 1;show(i+1)*7+j-7=_;omega
theorem Qi{W:World}{base:Nat}{T:TypeId}{v:Value}{L:List bc}(h:W.ownsRow base T 7 v L.length (ti L)):kR W v (L.map WT):=by
 rcases h.2 with⟨a,b⟩|⟨g,cap,q,a,b,d,e,r,s,t⟩
 ·exact .inl ⟨by rw[jn b];rfl,a⟩
 ·have m:=h.cells (g:=g) (by rw[a];rfl);refine .inr ⟨g,cap,by rw[a,jo],by rw[jo];exact e,(aB.1 d).1,fun i p c=> ?_⟩;rw[uI] at c;obtain⟨u,n,rfl⟩:=qG.1 c;have k:∀(j:Nat) (w:Value),(Qg u)[j]? =some w→W.cell? ⟨g,i*7+j,none⟩=some w:=fun j w o=>by
   have l:(⟨g,0,none⟩:Addr).add (i*7+j)=⟨g,0+(i*7+j),none⟩:=by unfold Addr.add;split<;>simp_all
   have:=m _ _ (Fy j w n o);rw[l,dH] at this;exact this
  exact⟨u.src,u.bJ,u.cK,u.hd,k 0 _ rfl,k 1 _ rfl,k 2 _ rfl,k 3 _ rfl,k 4 _ rfl,k 5 _ rfl,k 6 _ rfl⟩
theorem CD{W:World}{base:Nat}{T:TypeId}{d n:Nat}{v:Value}{xs:List Value}(h:W.ownsRow base T d v n xs):∃a c,v=.slice a n c:=by
 rcases h.2 with⟨rfl,b⟩|⟨g,cap,e,rfl,_⟩
 ·exact⟨none,0,by rw[b]⟩
 ·exact⟨_,_,rfl⟩
theorem yR(w:World)(k:Int)(t:Bs)(u:bc)(kv:Value)(h b:ByteArray)(a:Option Addr)(n c:Nat)(A B C:Obj)(l:A=.cells (dC k t u kv).toArray 136)(m:B=.cells #[.string h,.string b,.slice a n c] 47)(e:C=.cells #[.string h,.string b,.slice a n c,.slice none 0 0] 184):
 AK w (((w.alloc A).alloc B).alloc C) (w.heap.size+1+1) h b a n c 0 (.slice none 0 0) []∧(((w.alloc A).alloc B).alloc C).heap[w.heap.size]? =some A:=by
 have j:=(((ar w.heap.size w).alloc (ag _) A).alloc (by rw[aO];omega) B).alloc (by rw[aO,aO];omega) C;have i:=au w A;have d:=au ((w.alloc A).alloc B) C;rw[aO,aO,e] at d;refine⟨⟨j, ?_,⟨rfl,.inl ⟨rfl,rfl⟩⟩,by omega,by simp[Value.ownBlock]⟩,aG (aG i B) C⟩;rw[e];exact d
theorem Ud(x:Ex)(v:Value)(h b:ByteArray)(a:Option Addr)(n c:Nat)(fs:List dQ)(w:World)(l:Good w)(d:dR (fun _=>True) w x v)(hF:aZ w (.slice a n c) fs)(r:rX fs)(q:h.size≤100002000)(y:b.size≤100000)(o:tE x)(s:cC x≤1000000000):
 Calls Tryz.prog 67 #[v,.agg #[.string h,.string b,.slice a n c]] w (cN w (.bool (oz (bt (gr h.data.toList b.data.toList fs) x).1))):=by
 obtain⟨k,t,u,ka,kn,kc,rfl⟩:=d.F4;have j:=ad (yR w k t u (.slice ka kn kc) h b a n c _ _ _ rfl rfl rfl);have i:=ad (Qh w l (w.heap.size+1+1) h b a n c fs hF r q y x o _ _ 0 _ _ d j.out.1 (by omega));obtain⟨V,m⟩:∃V,bt (gr h.data.toList b.data.toList fs) x=V:=⟨_,rfl⟩;rw[m] at i⊢;clear d hF m o s l;go_enter Tryz.func67,Tryz.ntmps67;go_upto_region 2 with fail;generalize((w.alloc (.cells (dC k t u (.slice ka kn kc)).toArray 136)).alloc (.cells #[.string h,.string b,.slice a n c] 47)).alloc (.cells #[.string h,.string b,.slice a n c,.slice none 0 0] 184)=K at*;obtain⟨z,A,B,C,D,E,F,G,H,I⟩:=aM j.out.2;go_wp2_with fail;refine i.out.mono ?_;rintro e J⟨av,xs,rfl,p,-⟩;clear z A B C D E F G H I;go_wp2_with fail;refine(Bk V.1 J).mono ?_;rintro e L⟨rfl,rfl⟩;go_wp2_with fail;go_ret;exact⟨rfl,p.out.1.up⟩
def DT(w:World)(l:List (Bs×Bs×Bool)):Ending→World→Prop:=fun e w'=>∃v,e=.returned v∧kR w' v l∧Below w.heap.size w w'∧∀g,v.ownBlock=some g→w.heap.size≤g
theorem K2(x:Ex)(v:Value)(h b:ByteArray)(a:Option Addr)(n c:Nat)(fs:List dQ)(w:World)(p:Good w)(l:dR (fun _=>True) w x v)(hF:aZ w (.slice a n c) fs)(C:rX fs)(B:h.size≤100002000)(E:b.size≤100000)(r:tE x)(D:cC x≤1000000000):
 Calls Tryz.prog 66 #[v,.agg #[.string h,.string b,.slice a n c]] w (DT w (cT (bt (gr h.data.toList b.data.toList fs) x).2)):=by
 obtain⟨k,t,u,ka,kn,kc,rfl⟩:=l.F4;have o:=ad (yR w k t u (.slice ka kn kc) h b a n c _ _ _ rfl rfl rfl);have m:=ad (Qh w p (w.heap.size+1+1) h b a n c fs hF C B E x r _ _ 0 _ _ l o.out.1 (by omega));obtain⟨V,q⟩:∃V,bt (gr h.data.toList b.data.toList fs) x=V:=⟨_,rfl⟩;rw[q] at m⊢;clear l hF q r D p;go_enter Tryz.func66,Tryz.ntmps66;go_upto_region 2 with fail;generalize((w.alloc (.cells (dC k t u (.slice ka kn kc)).toArray 136)).alloc (.cells #[.string h,.string b,.slice a n c] 47)).alloc (.cells #[.string h,.string b,.slice a n c,.slice none 0 0] 184)=R at*;obtain⟨F,G,H,I,J,K,L,M,N,O⟩:=aM o.out.2;go_wp2_with fail;refine m.out.mono ?_;rintro e Q⟨av,xs,rfl,d,z⟩;clear F G H I J K L M N O;have i:=d.out.1.own;rw[z.out,kK,dH] at i;have j:=Qi i;obtain⟨aa,ac,rfl⟩:=CD d.out.1.own;rw[dH] at j;have y:=ad (show kR Q (.slice aa V.2.length ac) (cT V.2) from j);have S:=aj 3 d.out.1.box;have s:=ad (show∀g,(Value.slice aa V.2.length ac).ownBlock=some g→w.heap.size≤g from fun g A=>(i.lt g (by rw[dH];exact A)).1);clear i j;go_wp2_with fail;go_ret;exact⟨_,rfl,y.out,d.out.1.up,s.out⟩
attribute[local go_sem↓] Go.wp_at_zero Go.wp_at_succ
theorem Pm{h t:Bs}{fs:List dQ}{u:iZ}(a:(dK h t fs u.name u.key u.hk).2=true):jD h t fs u=dK h t fs u.name u.key u.hk:=by unfold jD;rw[a];rfl
theorem Pn{h t:Bs}{fs:List dQ}{u:iZ}(a:(dK h t fs u.name u.key u.hk).2=false)(b:u.hd=true):jD h t fs u=(u.cK,true):=by unfold jD;rw[a,b];rfl
theorem SC{h t:Bs}{fs:List dQ}{u:iZ}(a:(dK h t fs u.name u.key u.hk).2=false)(b:u.hd=false):jD h t fs u=([],false):=by unfold jD;rw[a,b];rfl
theorem LJ(u:iZ)(h t:ByteArray)(a:Option Addr)(n c:Nat)(fs:List dQ)(w:World)(z:Good w)(hF:aZ w (.slice a n c) fs)(N:rX fs)(O:t.size≤100000)(S:u.key.length≤100000):
 Calls Tryz.prog 140 #[.agg #[.int .i64 u.src,.int .i64 u.to,.string ⟨u.name.toArray⟩,.string ⟨u.key.toArray⟩,.string ⟨u.cK.toArray⟩,.bool u.hk,.bool u.hd],.agg #[.string h,.string t,.slice a n c]] w (cN w (.tuple #[.string ⟨(jD h.data.toList t.data.toList fs u).1.toArray⟩,.bool (jD h.data.toList t.data.toList fs u).2])):=by
 have b:=ad (jG w (.cells #[.int .i64 u.src,.int .i64 u.to,.string ⟨u.name.toArray⟩,.string ⟨u.key.toArray⟩,.string ⟨u.cK.toArray⟩,.bool u.hk,.bool u.hd] 133) (.cells #[.string h,.string t,.slice a n c] 47));have r:=ad z;have q:=ad hF;clear z hF;go_enter Tryz.func140,Tryz.ntmps140;go_wp2_with fail;generalize(w.alloc (.cells #[.int .i64 u.src,.int .i64 u.to,.string ⟨u.name.toArray⟩,.string ⟨u.key.toArray⟩,.string ⟨u.cK.toArray⟩,.bool u.hk,.bool u.hd] 133)).alloc (.cells #[.string h,.string t,.slice a n c] 47)=W0 at*;have A:=r.out.next b.out.below;have y:=q.out.below b.out.below;have k:=ad b.out.below;have m:sU W0 w.heap.size u:=b.out.b1;have p:=ad m;clear b r q m;refine(E3 h t ⟨u.name.toArray⟩ ⟨u.key.toArray⟩ a n c fs u.hk _ A y N O (by simp[ByteArray.size];omega)).mono ?_;rintro e T⟨rfl,l⟩;have s:dK h.data.toList t.data.toList fs (⟨u.name.toArray⟩:ByteArray).data.toList (⟨u.key.toArray⟩:ByteArray).data.toList u.hk=dK h.data.toList t.data.toList fs u.name u.key u.hk:=rfl;rw[s];clear s A y;obtain⟨⟨B,C,D,E,Q,F,R⟩,G,H,I,J,K,L,M⟩:=ln (p.out.next l);have j:=ad (k.out.trans (l.mono k.out.size));clear l k p B C D E F G H I J K L M;rcases i:(dK h.data.toList t.data.toList fs u.name u.key u.hk).2 with _|_
 ·have o:=ad i;rcases x:u.hd with _|_
  ·have d:=ad (SC i x);go_wp2;go_ret2;rw[d.out];exact⟨rfl,j.out⟩
  ·have d:=ad (Pn i x);go_wp2;go_ret2;rw[d.out];exact⟨rfl,j.out⟩
 ·have d:=ad (Pm i);have o:=ad i;go_wp2;go_ret2;rw[d.out,o.out];exact⟨rfl,j.out⟩
structure bX (b B:Nat) (w w':World):Prop where
 os:w'.os=w.os
 tape:w'.tape=w.tape
 output:w'.output=w.output
 size:w.heap.size≤w'.heap.size
 block:∀k,k<B→k≠b→w'.heap[k]? =w.heap[k]?
 other:∀k,k<w.heap.size→k≠b→(∀cs fr,w.heap[k]? ≠some (.cells cs 5 fr))→w'.heap[k]? =w.heap[k]?
theorem bX.refl(b B:Nat)(w:World):bX b B w w:=⟨rfl,rfl,rfl,ag _,fun _ _ _=>rfl,fun _ _ _ _=>rfl⟩
theorem bX.trans{b B:Nat}{w i j:World}(a:bX b B w i)(c:bX b B i j):bX b B w j:=
 ⟨c.os.trans a.os,c.tape.trans a.tape,c.output.trans a.output,bP a.size c.size,fun k d e=>(c.block k d e).trans (a.block k d e),
  fun k d e h=>(c.other k (ej d a.size) e (fun l m=>by rw[a.other k d e h];exact h l m)).trans (a.other k d e h)⟩
theorem bX.ai{b B:Nat}{w w':World}(h:Below w.heap.size w w')(c:B≤w.heap.size):bX b B w w':=⟨h.os,h.tape,h.output,h.size,fun k a _=>h.block k (by omega),fun k a _ _=>h.block k a⟩
theorem bX.set{b B j:Nat}{w:World}{v:Value}:bX b B w (w.setCell ⟨b,j,none⟩ v):=
 ⟨rfl,rfl,rfl,by rw[show(w.setCell ⟨b,j,none⟩ v).heap.size=w.heap.size by simp[World.setCell]];exact ag _,fun k _ a=>Below.heap_setCell w ⟨b,j,none⟩ v k a,fun k _ a _=>Below.heap_setCell w ⟨b,j,none⟩ v k a⟩
theorem bX.grown{b B:Nat}{w w':World}{row:Option Nat}(h:w.grownBy w' row)(i:∀k,row=some k→B≤k∧∃a c,w.heap[k]? =some (.cells a 5 c))(m:B≤w.heap.size):bX b B w w':=
 ⟨h.os,h.tape,h.output,h.size,fun k d _=>h.block k (by omega) (by intro e;have:=(i k e.symm).1;omega),
  fun k d _ j=>h.block k d (by intro e;obtain⟨_,a,c,l⟩:=i k e.symm;exact j a c l)⟩
theorem bX.below{b B n:Nat}{w w':World}(h:bX b B w w')(a:n≤B)(c:n≤b):Below n w w':=⟨h.os,h.tape,h.output,h.size,fun k d=>h.block k (by omega) (by omega)⟩
theorem QT{w:World}{B:Nat}{v:Value}{n:Nat}{xs:List Value}(h:w.ownsRow B 5 1 v n xs):∀k,v.ownBlock=some k→B≤k∧∃b c,w.heap[k]? =some (.cells b 5 c):=by
 intro k a;have e:=(h.lt k a).1;rcases h.2 with⟨rfl,_⟩|⟨g,cap,i,rfl,_,d,_⟩
 ·cases a
 ·simp only[Value.ownBlock,gR] at a;subst a;exact⟨e,_,_,d⟩
theorem wP{w:World}{b1 b2:Nat}{e:TypeId}{size:Nat}{v:Value}{n:Nat}{xs:List Value}(h:w.ownsRow b1 e size v n xs)(b:b2≤b1):w.ownsRow b2 e size v n xs:=by
 refine⟨h.1, ?_⟩;rcases h.2 with h|⟨g,cap,a,i,c,d⟩
 ·exact .inl h
 ·exact .inr ⟨g,cap,a,i,bP b c,d⟩
def BA(w:World)(b B:Nat)(l:Bs):Prop:=
 ∃p v,w.heap[b]? =some (.cells #[p,v] 206 (0,0))∧(p=.pointer none∨p=.pointer (some ⟨b,0,none⟩))∧w.ownsRow B 5 1 v l.length (da l)∧v.ownBlock≠some b
theorem QU(w:World)(B:Nat):BA (w.alloc (.cells #[.pointer none,.slice none 0 0] 206)) w.heap.size B []:=
 ⟨_,_,heap_alloc_new w _,.inl rfl,World.ownsRow_nil _ _ _ _,by simp[Value.ownBlock]⟩
theorem BA.lt{w:World}{b B:Nat}{l:Bs}(h:BA w b B l):b<w.heap.size:=by
 obtain⟨p,v,a,_⟩:=h;by_cases c:b<w.heap.size
 ·exact c
 ·rw[Kl (by omega)] at a;cases a
theorem BA.next{w w':World}{b B:Nat}{l:Bs}(h:BA w b B l)(a:Below w.heap.size w w'):BA w' b B l:=by have j:=h.lt;obtain⟨p,v,c,d,e,i⟩:=h;exact⟨p,v,(a.block b j).trans c,d,cp e a,i⟩
theorem BA.WX{w:World}{b B:Nat}{l:Bs}(h:BA w b B l)(j:b≤B):Lib.IsBuilder 206 5 b b (Lib.byteCells l) w:=by
 obtain⟨p,v,a,e,i,c⟩:=h;have m:(Lib.byteCells l).length=l.length:=by simp[Lib.byteCells]
 have k:Lib.byteCells l=da l:=rfl;have d:w.ownsRow b 5 1 v (Lib.byteCells l).length (Lib.byteCells l):=by rw[m,k];exact wP i j
 rcases e with rfl|rfl
 ·exact .inl ⟨ag _,v,a,d,c⟩
 ·exact .inr ⟨ag _,v,a,d,c⟩
theorem Vf:(Tryz.prog.info? 206).map (fun j=>j.size)=some 2:=by kernel_rfl
theorem Wj:Tryz.prog.underlying 204=some (.pointer 206):=by kernel_rfl
theorem WY:Tryz.prog.underlying 275=some .unsafePointer:=by kernel_rfl
theorem BB(b:Nat)(w:World)(c:w.cell? ⟨b,0,none⟩=some (.pointer (some ⟨b,0,none⟩))):
 Calls Tryz.prog 180 #[.pointer (some ⟨b,0,none⟩)] w fun e w'=>e=.returned (.tuple #[])∧w'=w:=by
 obtain⟨j,a,_⟩:=qG.1 Vf;go_enter Tryz.func180,Tryz.ntmps180;go_wp2;rw[Lib.run_neq_ptr_same w _ Wj a];go_wp2
 go_end0
 exact⟨rfl,rfl⟩
theorem zr(b:Nat)(w:World)(h:w.cell? ⟨b,0,none⟩=some (.pointer none))(c:w.shape? b=some (206,2))(i:w.frozen? ⟨b,0,none⟩=false):
 Calls Tryz.prog 180 #[.pointer (some ⟨b,0,none⟩)] w fun e w'=>e=.returned (.tuple #[])∧w'=w.setCell ⟨b,0,none⟩ (.pointer (some ⟨b,0,none⟩)):=by
 obtain⟨j,a,d⟩:=qG.1 Vf;go_enter Tryz.func180,Tryz.ntmps180;go_wp2;rw[Lib.run_to_unsafe w ⟨b,0,none⟩ Wj WY a (by rw[d];decide) c (Nat.zero_lt_succ 1)];simp only[Result.andThen];rw[Oper.upon_value];go_wp2;rw[run_callFunc_extern Tryz.func226 (by kernel_rfl) (by kernel_rfl) (by kernel_rfl) (e:=Extern.AbiNoEscape.same) (by kernel_rfl)];rw[Lib.run_noEscape];simp only[Result.andThen];rw[Oper.upon_value];go_wp2;rw[Lib.run_from_unsafe w ⟨b,0,none⟩ WY Wj a c (by kernel_rfl)];simp only[Result.andThen];rw[Oper.upon_value];go_wp2
 go_end0
 exact⟨rfl,rfl⟩
def Checked(b B:Nat)(l:Bs)(w w':World):Prop:=
 (∃v,w'.heap[b]? =some (.cells #[.pointer (some ⟨b,0,none⟩),v] 206 (0,0))∧w'.ownsRow B 5 1 v l.length (da l)∧v.ownBlock≠some b)∧bX b B w w'∧w'.heap.size=w.heap.size
theorem C1(b B:Nat)(l:Bs)(w:World)(h:BA w b B l):
 Calls Tryz.prog 180 #[.pointer (some ⟨b,0,none⟩)] w fun e w'=>e=.returned (.tuple #[])∧Checked b B l w w':=by
 obtain⟨p,v,a,n,i,c⟩:=h;have d:w.cell? ⟨b,0,none⟩=some p:=by simp[World.cell?,a]
 rcases n with rfl|rfl
 ·have o:w.shape? b=some (206,2):=by simp[World.shape?,a]
  have j:w.frozen? ⟨b,0,none⟩=false:=by simp[World.frozen?,a]
  refine(zr b w d o j).mono ?_;rintro e w'⟨rfl,rfl⟩;refine⟨rfl,⟨v, ?_, ?_,c⟩,bX.set,by simp[World.setCell]⟩
  ·simp[World.setCell,Array.getElem?_modify,a]
  ·exact i.kept (row:=some b) ⟨rfl,rfl,rfl,by simp[World.setCell],fun k _ m=>Below.heap_setCell _ _ _ _ (fun e=>m (by simp[e]))⟩ (Or.inr c)
 ·refine(BB b w d).mono ?_;rintro e w'⟨rfl,rfl⟩;exact⟨rfl,⟨v,a,i,c⟩,bX.refl _ _ _,rfl⟩
def MQ(b B:Nat)(l:Bs)(w w':World):Prop:=BA w' b B l∧bX b B w w'
theorem strCells_eq(s:ByteArray):Lib.strCells s=da s.data.toList:=rfl
theorem MR{b B:Nat}{l:Bs}{s:ByteArray}{w a c:World}{v v':Value}(i:bX b B w a)(h:a.heap[b]? =some (.cells #[.pointer (some ⟨b,0,none⟩),v] 206 (0,0)))(y:v.ownBlock≠some b)(A:∀k,v.ownBlock=some k→B≤k∧∃o p,a.heap[k]? =some (.cells o 5 p))(q:B≤a.heap.size)
 (z:c.ownsRow B 5 1 v' (l.length+s.size) (da l++Lib.strCells s))(j:a.grownBy c v.ownBlock):
 MQ b B (l++s.data.toList) w (c.setCell ⟨b,1,none⟩ v')∧c.cell? ⟨b,1,none⟩=some v∧c.frozen? ⟨b,1,none⟩=false:=by
 have x:b<a.heap.size:=by
  by_cases r:b<a.heap.size
  ·exact r
  ·rw[Kl (by omega)] at h;cases h
 have d:c.heap[b]? =some (.cells #[.pointer (some ⟨b,0,none⟩),v] 206 (0,0)):=(j.block b x (fun e=>y e.symm)).trans h;have u:(l++s.data.toList).length=l.length+s.size:=by rw[bB,bj]
 have t:da (l++s.data.toList)=da l++Lib.strCells s:=by rw[strCells_eq];simp[da]
 have n:c.ownsRow B 5 1 v' (l++s.data.toList).length (da (l++s.data.toList)):=by rw[u,t];exact z
 have m:v'.ownBlock≠some b:=Lib.ownBlock_ne n d (by decide);refine⟨⟨⟨.pointer (some ⟨b,0,none⟩),v', ?_,.inr rfl, ?_,m⟩,(i.trans (bX.grown j A q)).trans bX.set⟩, ?_, ?_⟩
 ·simp[World.setCell,Array.getElem?_modify,d]
 ·exact n.kept (row:=some b) ⟨rfl,rfl,rfl,by simp[World.setCell],fun k _ i=>Below.heap_setCell _ _ _ _ (fun e=>i (by simp[e]))⟩ (Or.inr m)
 ·simp[World.cell?,d]
 ·simp[World.frozen?,d]
theorem pR(b B:Nat)(l:Bs)(s:ByteArray)(w:World)(h:BA w b B l)(A:B≤w.heap.size)(K:l.length+s.size≤1000000000):
 Calls Tryz.prog 139 #[.pointer (some ⟨b,0,none⟩),.string s] w fun e w'=>e=.returned (.tuple #[.int .i64 s.size,.nilIface])∧MQ b B (l++s.data.toList) w w':=by
 obtain⟨G,D,F,E,C⟩:=info_parts Ti;have i:=Lib.hid h;clear h;go_enter Tryz.func139,Tryz.ntmps139;go_wp2_with fail;refine(C1 b B l w i.out).mono ?_;rintro e q⟨rfl,⟨v,a,c,o⟩,n,p⟩;have z:q.cell? ⟨b,1,none⟩=some v:=by simp[World.cell?,a]
 have r:=Lib.hid a;have t:=Lib.hid n;have k:=Lib.hid (p▸A:B≤q.heap.size);have y:=Lib.hid (QT c);have x:=Lib.hid c;have u:=Lib.hid o;clear a n p o c i;go_wp2_with (at_builtin;refine Lib.wpList_append_own_string _ rfl _ _ 63 9 rfl B 5 G u63 u9 D F E C _ _ _ rfl x.out s rfl (by unfold maxLen;omega) (by omega) k.out ?_;intro v' M d m _;obtain⟨H,I,rfl⟩:=aX d;have j:=Lib.hid (MR t.out r.out u.out y.out k.out d m);obtain⟨L,J⟩:=j.out.2;clear d m z);go_ret2;exact⟨rfl,j.out.1⟩
theorem C2(b B:Nat)(l:Bs)(w:World)(h:BA w b B l)(a:b≤B):Calls Tryz.prog 142 #[.pointer (some ⟨b,0,none⟩)] w fun e w'=>e=.returned (.string ⟨l.toArray⟩)∧Below b w w':=
 Tryz.Builder_String_any b b l w (h.WX a) (om h.lt)
theorem Tj(b B:Nat)(l:Bs)(w:World)(h:BA w b B l)(a:b≤B):Calls Tryz.prog 141 #[.pointer (some ⟨b,0,none⟩)] w fun e w'=>e=.returned (.int .i64 l.length)∧w=w':=by refine(Tryz.Builder_Len b b _ w (h.WX a)).mono ?_;rintro e w'⟨rfl,rfl⟩;refine⟨?_,rfl⟩;simp[Lib.byteCells]
