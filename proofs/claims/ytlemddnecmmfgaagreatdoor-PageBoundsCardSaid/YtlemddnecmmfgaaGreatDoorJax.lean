/- The walk of Check, the scheme being http or https. -/
import Derived.Test.YtlemddnecmmfgaaGreatDoorJaw
set_option linter.unusedVariables false
set_option maxRecDepth 100000
set_option maxHeartbeats 4000000
namespace Go.Proofs.YtlemddnecmmfgaaGreatDoor
open Go.RowKit
def VF(W:aaK)(b:Nat)(v0 v1 v2 a c d e:aaL):aaK:=((((((W.setCell ⟨b,0,none⟩ v0).setCell ⟨b,1,none⟩ v1).setCell ⟨b,2,none⟩ v2).setCell ⟨b,3,none⟩ a).setCell ⟨b,4,none⟩ c).setCell ⟨b,5,none⟩ d).setCell ⟨b,6,none⟩ e
theorem TD{W:aaK}{b:Nat}(v0 v1 v2 a c d e:aaL):ak b W (VF W b v0 v1 v2 a c d e):=(ak.refl b W).set.set.set.set.set.set.set
variable{a:Nat}{C:Obj}{d s:aaK}{r:iZ}
attribute[local go_sem↓] Go.wp_at_zero Go.wp_at_succ
theorem E1{P:Program}{ops:Array Oper}{rest:List Oper}{o:Oper}{a:Act}{Q:Exit→Act→aaK→Prop}(r:o.guard=none)(s x:Operand)(t:TypeId)
 (E:o.op=.call {callee:=.builtin .append,args:=#[s,x],argTypes:=#[t,t]})
 (e:TypeId)(z:aaL)(size bytes:Nat)(J:P.underlying t=some (.slice e))(A:(P.info? e).map (fun i=>(i.zero,i.size,i.bytes))=some (some z,size,bytes))
 (N:z.cells.size=size)(I:0<size)(base:Nat)(w:aaK)
 (v:aaL)(n:Nat)(xs:List aaL)(G:a.eval s=v)(F:w.ownsRow base e size v n xs)
 (b:List aaL)(K:d=w.alloc (.cells b.toArray e))(S:b.length=size)(L:a.eval x=.slice (some ⟨w.heap.size,0,none⟩) 1 1)(l:∀u∈b,u.oneCell'=true)
 (p:(n+1)*bytes≤140737488355328)(O:n+1≤140737488355328)(R:base≤w.heap.size)
 (h:∀g cap w',w'.ownsRow base e size (.slice (some ⟨g,0,none⟩) (n+1) cap) (n+1) (xs++b)→(w.alloc (.cells b.toArray e)).grownBy w' v.ownBlock→
  wpList P ops Q rest (a.put o.dst (.slice (some ⟨g,0,none⟩) (n+1) cap)) w'):
 wpList P ops Q (o::rest) a d:=by
 subst K;obtain⟨i,y,M,H,m⟩:=info_parts A;refine wpList_append_own _ r s x t E base e i z size bytes J y M H m N I v n xs G (F.alloc _) ⟨w.heap.size,0,none⟩ 1 1 b L (by omega) ?_ l
  (by unfold maxLen;omega) p (by simp;omega) ?_
 ·intro j u B;have C:b.toArray[j]? =some u:=by simpa using B
  have D:(w.alloc (.cells b.toArray e)).heap[w.heap.size]? =some (.cells b.toArray e):=au w _;have:((⟨w.heap.size,0,none⟩:Addr).add j)=⟨w.heap.size,j,none⟩:=by
   unfold Addr.add;by_cases c:j=0
   ·subst c;rfl
   ·rw[ae c];simp
  rw[this];unfold World.cell?;rw[show(w.alloc (.cells b.toArray e)).heap[(⟨w.heap.size,j,none⟩:Addr).block]? =_ from D];simpa using C
 ·intro v' w' k q _;obtain⟨g,cap,rfl⟩:=se k;exact h g cap w' k q
def lR(u:iZ):List aaL:=[.int .i64 u.src,.int .i64 u.to,.string ⟨u.name.toArray⟩,.string ⟨u.key.toArray⟩,.string ⟨u.cK.toArray⟩,.bool u.hk,.bool u.hd]
def pq(a:List iZ):List aaL:=a.flatMap lR
theorem E2(a:List iZ)(u:iZ):pq (a++[u])=pq a++lR u:=by simp[pq]
def sU(W:aaK)(b:Nat)(u:iZ):Prop:=W.heap[b]? =some (.cells #[.int .i64 u.src,.int .i64 u.to,.string ⟨u.name.toArray⟩,.string ⟨u.key.toArray⟩,.string ⟨u.cK.toArray⟩,.bool u.hk,.bool u.hd] 168)
def zu(w:aaK)(base:Nat)(v:aaL)(a:List iZ):Prop:=w.ownsRow base 168 7 v a.length (pq a)
theorem ln(h:sU d a r):(d.cell? ⟨a,0,none⟩=some (.int .i64 r.src)∧d.cell? ⟨a,1,none⟩=some (.int .i64 r.to)∧d.cell? ⟨a,2,none⟩=some (.string ⟨r.name.toArray⟩)∧d.cell? ⟨a,3,none⟩=some (.string ⟨r.key.toArray⟩)∧d.cell? ⟨a,4,none⟩=some (.string ⟨r.cK.toArray⟩)∧d.cell? ⟨a,5,none⟩=some (.bool r.hk)∧d.cell? ⟨a,6,none⟩=some (.bool r.hd))∧
 d.frozen? ⟨a,0,none⟩=false∧d.frozen? ⟨a,1,none⟩=false∧d.frozen? ⟨a,2,none⟩=false∧d.frozen? ⟨a,3,none⟩=false∧d.frozen? ⟨a,4,none⟩=false∧d.frozen? ⟨a,5,none⟩=false∧d.frozen? ⟨a,6,none⟩=false:=
 ⟨⟨tH _ _ 0 _ _ _ h,tH _ _ 1 _ _ _ h,tH _ _ 2 _ _ _ h,tH _ _ 3 _ _ _ h,tH _ _ 4 _ _ _ h,tH _ _ 5 _ _ _ h,tH _ _ 6 _ _ _ h⟩,
  aF _ _ 0 _ _ h,aF _ _ 1 _ _ h,aF _ _ 2 _ _ h,aF _ _ 3 _ _ h,aF _ _ 4 _ _ h,aF _ _ 5 _ _ h,aF _ _ 6 _ _ h⟩
def SA(w:aaK)(a:List iZ)(e:Ending)(w':aaK):Prop:=∃v,e=.returned v∧zu w' w.heap.size v a∧Below w.heap.size w w'
theorem VP:(Tryz.prog.info? 168).map (fun i=>(i.zero,i.size,i.bytes))=some (some (.agg #[.int .i64 0,.int .i64 0,.string ⟨#[]⟩,.string ⟨#[]⟩,.string ⟨#[]⟩,.bool false,.bool false]),7,72):=by kernel_rfl
theorem UJ:Tryz.prog.underlying 175=some (.slice 168):=by kernel_rfl
theorem Iy{v:aaL}(h:sU d a r)(k:v.ownBlock≠some a)(i:(d.alloc C).grownBy s v.ownBlock):sU s a r:=by have j:=ll h;have c:sU (d.alloc C) a r:=(((ar d.heap.size d).alloc (ag _) C).block a j).t h;exact(i.block a (ll c) (fun e=>k e.symm)).t c
theorem sU.next{W W':aaK}(h:sU W a r)(c:Below W.heap.size W W'):sU W' a r:=(c.block a (ll h)).t h
theorem Za{w wr b:aaK}{v:aaL}{done:List iZ}{cap:Nat}(c:Below w.heap.size w wr)(l:zu wr w.heap.size v done)(h:b.ownsRow w.heap.size 168 7 (.slice (some ⟨a,0,none⟩) (done.length+1) cap) (done.length+1) (pq done++lR r))(i:(wr.alloc C).grownBy b v.ownBlock)(o2:Obj):
 zu (b.alloc o2) w.heap.size (.slice (some ⟨a,0,none⟩) (done.length+1) cap) (done++[r])∧Below w.heap.size w (b.alloc o2)∧(Value.slice (some ⟨a,0,none⟩) (done.length+1) cap).ownBlock≠some b.heap.size∧w.heap.size≤b.heap.size:=by
 have d:Below w.heap.size w b:=(c.alloc c.size C).grown i (by have:=c.size;simp;omega) (fun k j=>(l.lt k j).1);refine⟨?_,d.alloc d.size o2, ?_,d.size⟩
 ·unfold zu;rw[E2,bB];exact cp h ((ar _ _).alloc (ag _) _)
 ·intro e;have:=(h.lt _ e).2;omega
theorem Iz{c:aaK}{v:aaL}{i:List iZ}(h:zu s d.heap.size v i∧Below d.heap.size d s∧v.ownBlock≠some a∧d.heap.size≤a)(e:Below s.heap.size s c):
 zu c d.heap.size v i∧Below d.heap.size d c∧v.ownBlock≠some a∧d.heap.size≤a:=⟨cp h.1 e,h.2.1.t (e.m h.2.1.size),h.2.2.1,h.2.2.2⟩
theorem A8(o:Option iZ):pv o=.tuple #[.agg #[.int .i64 (o.getD me).src,.int .i64 (o.getD me).to,.string ⟨(o.getD me).name.toArray⟩,.string ⟨(o.getD me).key.toArray⟩,.string ⟨(o.getD me).cK.toArray⟩,.bool (o.getD me).hk,.bool (o.getD me).hd],.bool o.isSome]:=rfl
theorem A5(s:Bs):(mT s).length≤s.length:=by have:=Yr s (mT s) 0 (nC s _ _) (aH _);omega
theorem SB{s:Bs}{done rest:List iZ}(h:done++rest=mT s):done.length≤s.length:=by have:=A5 s;rw[←h,bB] at this;omega
theorem DJ(s:aaM)(w:aaK)(hg:Good w)(hs:s.size≤100000000):
 Calls Tryz.prog 129 #[.string s] w (SA w (mT s.data.toList)):=by
 have K:=ad hg;clear hg;go_enter Tryz.func129,Tryz.ntmps129;go_wp2_with fail;refine(mY s 0 _ K.o hs).m ?_;rintro e a⟨rfl,r⟩;rw[show j8 0 s.size=0 by unfold j8;simp];generalize ho:(cv s.data.toList 0)=o;rw[A8 o];have HO:=ad ho;clear ho;have B:=ad (rfl:o.getD me=o.getD me);revert B;generalize h:o.getD me=u;intro B;have ay:=ad h;clear B h;have n1:sU (a.alloc (.cells #[.int .i64 u.src,.int .i64 u.to,.string ⟨u.name.toArray⟩,.string ⟨u.key.toArray⟩,.string ⟨u.cK.toArray⟩,.bool u.hk,.bool u.hd] 168)) a.heap.size u:=au a _;have ap:=ad n1;have an:=ad (r.t (((ar a.heap.size a).alloc (ag _) (.cells #[.int .i64 u.src,.int .i64 u.to,.string ⟨u.name.toArray⟩,.string ⟨u.key.toArray⟩,.string ⟨u.cK.toArray⟩,.bool u.hk,.bool u.hd] 168)).m r.size));have a0:=r.size;clear n1 r;go_wp2_with fail;generalize a.alloc (.cells #[.int .i64 u.src,.int .i64 u.to,.string ⟨u.name.toArray⟩,.string ⟨u.key.toArray⟩,.string ⟨u.cK.toArray⟩,.bool u.hk,.bool u.hd] 168)=W1 at*;generalize a.heap.size=b1 at*
 go_loopg [2,3,4] (s.size+1) (fun g v c t wr=>∃(i k b:Nat) (done:List iZ) (o:Option iZ) (u:iZ),c=.pointer (some ⟨b,0,none⟩)∧t=.bool o.isSome∧i≤s.size∧s.size+1≤i+g∧s.size+1≤k+i∧Hid (cv s.data.toList i=o)∧Hid (o.getD me=u)∧Hid (done++mQ s.data.toList k i=mT s.data.toList)∧Hid (zu wr w.heap.size v done)∧Hid (sU wr b u)∧Hid (v.ownBlock≠some b)∧w.heap.size≤b∧Hid (Below w.heap.size w wr))
 case atStart=>exact⟨0,s.size+1,b1,[],o,u,rfl,rfl,aH _,by omega,by omega,HO,ay,ad (by unfold mT;rw[bj];rfl),ad ⟨rfl,.inl ⟨rfl,rfl⟩⟩,ap,ad (by intro e;cases e),a0,an⟩
 case round=>
  obtain⟨i,k,b,done,I,J,rfl,rfl,hi,a2,hk,A,p,y,q,C,av,a1,x⟩:=hrel;rcases I with _|u0
  ·have HE:=ad (Im (k:=k) A.o);go_wp2_with fail;go_ret;have hW:=q.o;have hD:=y.o;rw[HE.o,jm] at hD;rw[hD] at hW;exact⟨_,rfl,hW,x.o⟩
  ·obtain rfl:u0=J:=p.o;obtain⟨⟨N,O,Q,R,S,T,V⟩,W,X,Y,Z,f4,f5,f6⟩:=ln C.o;have aU:=SB y.o;rw[bj] at aU;have z:=ad (Found.of A.o);have ac:=q.o;unfold zu at ac;have a5:=x.o.size;go_wp2_with (at_builtin;refine E1 rfl _ _ 175 rfl 168 (.agg #[.int .i64 0,.int .i64 0,.string ⟨#[]⟩,.string ⟨#[]⟩,.string ⟨#[]⟩,.bool false,.bool false]) 7 72 UJ VP rfl (by decide) w.heap.size _ _ _ _ rfl ac (lR u0) rfl rfl rfl (by intro u h;simp[lR] at h;rcases h with rfl|rfl|rfl|rfl|rfl|rfl|rfl<;>rfl) (by omega) (by omega) (by omega) ?_;intro g cap j af F;have D:=Iy C.o av.o F;obtain⟨⟨d0,d1,d2,d3,d4,d5,d6⟩,e0,e1,e2,e3,e4,e5,e6⟩:=ln D;have aN:=ad D;have l:=ad af;have L:=ad F;clear af F D N O Q R S T V W X Y Z f4 f5 f6);clear d0 d1 d2 d3 d4 d5 d6 e0 e1 e2 e3 e4 e5 e6;have n4:sU (j.alloc (.cells #[.int .i64 u0.src,.int .i64 u0.to,.string ⟨u0.name.toArray⟩,.string ⟨u0.key.toArray⟩,.string ⟨u0.cK.toArray⟩,.bool u0.hk,.bool u0.hd] 168)) j.heap.size u0:=au j _;have n:=ad (Za x.o q.o l.o L.o (.cells #[.int .i64 u0.src,.int .i64 u0.to,.string ⟨u0.name.toArray⟩,.string ⟨u0.key.toArray⟩,.string ⟨u0.cK.toArray⟩,.bool u0.hk,.bool u0.hd] 168));generalize j.alloc (.cells #[.int .i64 u0.src,.int .i64 u0.to,.string ⟨u0.name.toArray⟩,.string ⟨u0.key.toArray⟩,.string ⟨u0.cK.toArray⟩,.bool u0.hk,.bool u0.hd] 168)=W4 at*;generalize j.heap.size=b4 at*;have M:=ad (K.o.next n.o.2.1);refine(mY s u0.to W4 M.o hs).m ?_;rintro e w5⟨rfl,E⟩;have ai:=z.o.le;have a4:=z.o.lt;have a3:=z.o.ge;rw[bj] at ai;rw[show j8 (u0.to:Int) s.size=u0.to by unfold j8;omega,A8 (cv s.data.toList u0.to)];have H:=n4.next E;obtain⟨⟨N,O,Q,R,S,T,V⟩,W,X,Y,Z,f4,f5,f6⟩:=ln H;have aq:=ad H;have d:=ad (Iz n.o E);have aa:=n.o.2.2.2;clear n4 H E n M C aN l L q;generalize al:(cv s.data.toList u0.to).getD me=J;have p:=ad al;clear al;generalize G:cv s.data.toList u0.to=I;have l:=ad G;rw[G] at p;clear G;go_wp2_with fail;obtain⟨k',ab,am⟩:=Io A.o (by rw[bj];exact hk);rw[bj] at ab;have ao:=ad (show(done++[u0])++mQ s.data.toList k' u0.to=mT s.data.toList by rw[←y.o,am];simp);clear am
   go_roundg (s.size+1-u0.to)
   case measure=>omega
   case rel=>
    refine⟨u0.to,k',b4,done++[u0],I,J,rfl,rfl,ai,by omega,ab,l,p,ao,ad ?_,ad (VM _ _ _ _ _ _ _ aq.o),ad ?_,aa,ad ?_⟩
    ·refine World.ownsRow.kept d.o.1 (TD (b:=b4) _ _ _ _ _ _ _) (.inr d.o.2.2.1)
    ·exact d.o.2.2.1
    ·exact d.o.2.1.t ((TD (b:=b4) _ _ _ _ _ _ _).below aa d.o.2.1.size)
variable{e:Nat}{b:TypeId}{d:aaK}
def WT(u:bc):Bs×Bs×Bool:=(u.name,u.key,u.hk)
def kR(W:aaK)(v:aaL)(l:List (Bs×Bs×Bool)):Prop:=(l=[]∧v=.slice none 0 0)∨∃g c,v=.slice (some ⟨g,0,none⟩) l.length c∧l.length≤c∧g<W.heap.size∧
 ∀(i:Nat) (u:Bs×Bs×Bool),l[i]? =some u→∃(s t:Int) (d:Bs) (q:Bool),W.cell? ⟨g,i*7,none⟩=some (.int .i64 s)∧W.cell? ⟨g,i*7+1,none⟩=some (.int .i64 t)∧W.cell? ⟨g,i*7+2,none⟩=some (.string ⟨u.1.toArray⟩)∧W.cell? ⟨g,i*7+3,none⟩=some (.string ⟨u.2.1.toArray⟩)∧
  W.cell? ⟨g,i*7+4,none⟩=some (.string ⟨d.toArray⟩)∧W.cell? ⟨g,i*7+5,none⟩=some (.bool u.2.2)∧W.cell? ⟨g,i*7+6,none⟩=some (.bool q)
theorem kR.next{W W':aaK}{v:aaL}{l:List (Bs×Bs×Bool)}(h:kR W v l)(A:∀g,g<W.heap.size→some g=v.ownBlock→W'.heap[g]? =W.heap[g]?)(B:W.heap.size≤W'.heap.size):kR W' v l:=by
 rcases h with h|⟨g,c,x,y,b,z⟩
 ·exact .inl h
 ·subst x;refine .inr ⟨g,c,rfl,y,ej b B,fun i u C=> ?_⟩;obtain⟨s,t,d,q,e,m,n,o,p,r,w⟩:=z i u C;have k:∀j,W'.cell? ⟨g,j,none⟩=W.cell? ⟨g,j,none⟩:=fun j=>uL (a:=⟨g,j,none⟩) (A g b rfl);exact⟨s,t,d,q,(k _).t e,(k _).t m,(k _).t n,(k _).t o,(k _).t p,(k _).t r,(k _).t w⟩
theorem Fy:∀{l:List bc} {i:Nat} {u:bc} (j:Nat) (v:aaL),l[i]? =some u→(Qg u)[j]? =some v→(XW l)[i*7+j]? =some v
 |[],_,_,_,_,h,_=>by simp at h
 |x::r,0,u,j,v,h,a=>by simp at h;subst h;rw[XW,Nat.zero_mul,dH,qC (cH.1 a).1];exact a
 |x::r,i+1,u,j,v,h,a=>by rw[XW,jL (by show 7≤_;omega),←Fy (l:=r) (i:=i) j v (by simpa using h) a];congr 1;show(i+1)*7+j-7=_;omega
theorem Qi{v:aaL}{L:List bc}(h:d.ownsRow e b 7 v L.length (XW L)):kR d v (L.map WT):=by
 rcases h.2 with⟨a,c⟩|⟨g,cap,t,a,c,m,n,x,y,z⟩
 ·exact .inl ⟨by rw[jn c];rfl,a⟩
 ·have q:=h.cells (g:=g) (by rw[a];rfl);refine .inr ⟨g,cap,by rw[a,jo],by rw[jo];exact n,(aB.1 m).1,fun i p l=> ?_⟩;rw[uI] at l;obtain⟨u,r,rfl⟩:=qG.1 l;have k:∀(j:Nat) (w:aaL),(Qg u)[j]? =some w→d.cell? ⟨g,i*7+j,none⟩=some w:=fun j w s=>by
   have o:(⟨g,0,none⟩:Addr).add (i*7+j)=⟨g,0+(i*7+j),none⟩:=by unfold Addr.add;split<;>simp_all
   have:=q _ _ (Fy j w r s);rw[o,dH] at this;exact this
  exact⟨u.src,u.bJ,u.cK,u.hd,k 0 _ rfl,k 1 _ rfl,k 2 _ rfl,k 3 _ rfl,k 4 _ rfl,k 5 _ rfl,k 6 _ rfl⟩
theorem CD{j n:Nat}{v:aaL}{xs:List aaL}(h:d.ownsRow e b j v n xs):∃a c,v=.slice a n c:=by
 rcases h.2 with⟨rfl,i⟩|⟨g,cap,k,rfl,_⟩
 ·exact⟨none,0,by rw[i]⟩
 ·exact⟨_,_,rfl⟩
theorem yR(w:aaK)(k:Int)(t:Bs)(u:bc)(kv:aaL)(h b:aaM)(a:Option Addr)(n c:Nat)(A B C:Obj)(l:A=.cells (dC k t u kv).toArray 171)(m:B=.cells #[.string h,.string b,.slice a n c] 47)(e:C=.cells #[.string h,.string b,.slice a n c,.slice none 0 0] 205):
 AK w (((w.alloc A).alloc B).alloc C) (w.heap.size+1+1) h b a n c 0 (.slice none 0 0) []∧(((w.alloc A).alloc B).alloc C).heap[w.heap.size]? =some A:=by
 have j:=(((ar w.heap.size w).alloc (ag _) A).alloc (by rw[aO];omega) B).alloc (by rw[aO,aO];omega) C;have i:=au w A;have d:=au ((w.alloc A).alloc B) C;rw[aO,aO,e] at d;refine⟨⟨j, ?_,⟨rfl,.inl ⟨rfl,rfl⟩⟩,by omega,by simp[Value.ownBlock]⟩,aG (aG i B) C⟩;rw[e];exact d
theorem Ud(x:Ex)(v:aaL)(h b:aaM)(a:Option Addr)(n c:Nat)(fs:List dQ)(w:aaK)(l:Good w)(d:dR (fun _=>True) w x v)(hF:aZ w (.slice a n c) fs)(y:rX fs)(s:h.size≤100002000)(A:b.size≤100000)(q:tE x)(z:cC x≤1000000000):
 Calls Tryz.prog 103 #[v,.agg #[.string h,.string b,.slice a n c]] w (cN w (.bool (oz (bt (gr h.data.toList b.data.toList fs) x).1))):=by
 obtain⟨k,t,u,ka,kn,kc,rfl⟩:=d.F4;have j:=ad (yR w k t u (.slice ka kn kc) h b a n c _ _ _ rfl rfl rfl);have i:=ad (Qh w l (w.heap.size+1+1) h b a n c fs hF y s A x q _ _ 0 _ _ d j.o.1 (by omega));obtain⟨V,p⟩:∃V,bt (gr h.data.toList b.data.toList fs) x=V:=⟨_,rfl⟩;rw[p] at i⊢;clear d hF p q z l;go_enter Tryz.func103,Tryz.ntmps103;go_upto_region 2 with fail;generalize((w.alloc (.cells (dC k t u (.slice ka kn kc)).toArray 171)).alloc (.cells #[.string h,.string b,.slice a n c] 47)).alloc (.cells #[.string h,.string b,.slice a n c,.slice none 0 0] 205)=M at*;obtain⟨B,C,D,E,F,G,H,I,J,K⟩:=aM j.o.2;go_wp2_with fail;refine i.o.m ?_;rintro e L⟨av,xs,rfl,r,-⟩;clear B C D E F G H I J K;go_wp2_with fail;refine(Bk V.1 L).m ?_;rintro e N⟨rfl,rfl⟩;go_wp2_with fail;go_ret;exact⟨rfl,r.o.1.up⟩
def DT(w:aaK)(l:List (Bs×Bs×Bool)):Ending→aaK→Prop:=fun e w'=>∃v,e=.returned v∧kR w' v l∧Below w.heap.size w w'∧∀g,v.ownBlock=some g→w.heap.size≤g
theorem K2(x:Ex)(v:aaL)(h b:aaM)(a:Option Addr)(n c:Nat)(fs:List dQ)(w:aaK)(r:Good w)(l:dR (fun _=>True) w x v)(hF:aZ w (.slice a n c) fs)(E:rX fs)(D:h.size≤100002000)(G:b.size≤100000)(y:tE x)(F:cC x≤1000000000):
 Calls Tryz.prog 102 #[v,.agg #[.string h,.string b,.slice a n c]] w (DT w (cT (bt (gr h.data.toList b.data.toList fs) x).2)):=by
 obtain⟨k,t,u,ka,kn,kc,rfl⟩:=l.F4;have q:=ad (yR w k t u (.slice ka kn kc) h b a n c _ _ _ rfl rfl rfl);have p:=ad (Qh w r (w.heap.size+1+1) h b a n c fs hF E D G x y _ _ 0 _ _ l q.o.1 (by omega));obtain⟨V,s⟩:∃V,bt (gr h.data.toList b.data.toList fs) x=V:=⟨_,rfl⟩;rw[s] at p⊢;clear l hF s y F r;go_enter Tryz.func102,Tryz.ntmps102;go_upto_region 2 with fail;generalize((w.alloc (.cells (dC k t u (.slice ka kn kc)).toArray 171)).alloc (.cells #[.string h,.string b,.slice a n c] 47)).alloc (.cells #[.string h,.string b,.slice a n c,.slice none 0 0] 205)=T at*;obtain⟨H,I,J,K,L,M,N,O,Q,R⟩:=aM q.o.2;go_wp2_with fail;refine p.o.m ?_;rintro e S⟨av,xs,rfl,d,B⟩;clear H I J K L M N O Q R;have i:=d.o.1.own;rw[B.o,kK,dH] at i;have j:=Qi i;obtain⟨aa,ac,rfl⟩:=CD d.o.1.own;rw[dH] at j;have A:=ad (show kR S (.slice aa V.2.length ac) (cT V.2) from j);have W:=aj d.o.1.box 3;have z:=ad (show∀g,(Value.slice aa V.2.length ac).ownBlock=some g→w.heap.size≤g from fun g C=>(i.lt g (by rw[dH];exact C)).1);clear i j;go_wp2_with fail;go_ret;exact⟨_,rfl,A.o,d.o.1.up,z.o⟩
variable{b k:Bs}{w:List dQ}{r:iZ}
attribute[local go_sem↓] Go.wp_at_zero Go.wp_at_succ
theorem Pm(a:(dK b k w r.name r.key r.hk).2=true):jD b k w r=dK b k w r.name r.key r.hk:=by unfold jD;rw[a];rfl
theorem Pn(a:(dK b k w r.name r.key r.hk).2=false)(c:r.hd=true):jD b k w r=(r.cK,true):=by unfold jD;rw[a,c];rfl
theorem SC(a:(dK b k w r.name r.key r.hk).2=false)(c:r.hd=false):jD b k w r=([],false):=by unfold jD;rw[a,c];rfl
theorem LJ(u:iZ)(h t:aaM)(a:Option Addr)(n c:Nat)(fs:List dQ)(w:aaK)(B:Good w)(hF:aZ w (.slice a n c) fs)(Q:rX fs)(R:t.size≤100000)(V:u.key.length≤100000):
 Calls Tryz.prog 162 #[.agg #[.int .i64 u.src,.int .i64 u.to,.string ⟨u.name.toArray⟩,.string ⟨u.key.toArray⟩,.string ⟨u.cK.toArray⟩,.bool u.hk,.bool u.hd],.agg #[.string h,.string t,.slice a n c]] w (cN w (.tuple #[.string ⟨(jD h.data.toList t.data.toList fs u).1.toArray⟩,.bool (jD h.data.toList t.data.toList fs u).2])):=by
 have b:=ad (jG w (.cells #[.int .i64 u.src,.int .i64 u.to,.string ⟨u.name.toArray⟩,.string ⟨u.key.toArray⟩,.string ⟨u.cK.toArray⟩,.bool u.hk,.bool u.hd] 168) (.cells #[.string h,.string t,.slice a n c] 47));have x:=ad B;have s:=ad hF;clear B hF;go_enter Tryz.func162,Tryz.ntmps162;go_wp2_with fail;generalize(w.alloc (.cells #[.int .i64 u.src,.int .i64 u.to,.string ⟨u.name.toArray⟩,.string ⟨u.key.toArray⟩,.string ⟨u.cK.toArray⟩,.bool u.hk,.bool u.hd] 168)).alloc (.cells #[.string h,.string t,.slice a n c] 47)=W0 at*;have C:=x.o.next b.o.below;have A:=s.o.below b.o.below;have k:=ad b.o.below;have p:sU W0 w.heap.size u:=b.o.b1;have r:=ad p;clear b x s p;refine(E3 h t ⟨u.name.toArray⟩ ⟨u.key.toArray⟩ a n c fs u.hk _ C A Q R (by simp[ByteArray.size];omega)).m ?_;rintro e W⟨rfl,l⟩;have y:dK h.data.toList t.data.toList fs (⟨u.name.toArray⟩:aaM).data.toList (⟨u.key.toArray⟩:aaM).data.toList u.hk=dK h.data.toList t.data.toList fs u.name u.key u.hk:=rfl;rw[y];clear y C A;obtain⟨⟨D,E,F,G,S,H,T⟩,I,J,K,L,M,N,O⟩:=ln (r.o.next l);have j:=ad (k.o.t (l.m k.o.size));clear l k r D E F G H I J K L M N O;rcases i:(dK h.data.toList t.data.toList fs u.name u.key u.hk).2 with _|_
 ·have q:=ad i;rcases z:u.hd with _|_
  ·have d:=ad (SC i z);go_wp2;go_ret2;rw[d.o];exact⟨rfl,j.o⟩
  ·have d:=ad (Pn i z);go_wp2;go_ret2;rw[d.o];exact⟨rfl,j.o⟩
 ·have d:=ad (Pm i);have q:=ad i;go_wp2;go_ret2;rw[d.o,q.o];exact⟨rfl,j.o⟩
variable{j:Bs}{Z:List Value}{a d:Nat}{i V:World}
structure bX (b B:Nat) (w w':World):Prop where
 os:w'.os=w.os
 tape:w'.tape=w.tape
 output:w'.output=w.output
 size:w.heap.size≤w'.heap.size
 block:∀k,k<B→k≠b→w'.heap[k]? =w.heap[k]?
 other:∀k,k<w.heap.size→k≠b→(∀cs fr,w.heap[k]? ≠some (.cells cs 5 fr))→w'.heap[k]? =w.heap[k]?
theorem bX.refl(b B:Nat)(w:World):bX b B w w:=⟨rfl,rfl,rfl,ag _,fun _ _ _=>rfl,fun _ _ _ _=>rfl⟩
theorem bX.t{b B:Nat}{w i j:World}(a:bX b B w i)(c:bX b B i j):bX b B w j:=
 ⟨c.os.t a.os,c.tape.t a.tape,c.output.t a.output,bP a.size c.size,fun k d e=>(c.block k d e).t (a.block k d e),
  fun k d e h=>(c.other k (ej d a.size) e (fun l m=>by rw[a.other k d e h];exact h l m)).t (a.other k d e h)⟩
theorem bX.ai(h:Below i.heap.size i V)(e:d≤i.heap.size):bX a d i V:=⟨h.os,h.tape,h.output,h.size,fun k c _=>h.block k (by omega),fun k c _ _=>h.block k c⟩
theorem bX.set{b B j:Nat}{v:Value}:bX b B i (i.setCell ⟨b,j,none⟩ v):=
 ⟨rfl,rfl,rfl,by rw[show(i.setCell ⟨b,j,none⟩ v).heap.size=i.heap.size by simp[World.setCell]];exact ag _,fun k _ a=>Below.heap_setCell i ⟨b,j,none⟩ v k a,fun k _ a _=>Below.heap_setCell i ⟨b,j,none⟩ v k a⟩
theorem bX.grown{row:Option Nat}(h:i.grownBy V row)(m:∀k,row=some k→d≤k∧∃c j,i.heap[k]? =some (.cells c 5 j))(p:d≤i.heap.size):bX a d i V:=
 ⟨h.os,h.tape,h.output,h.size,fun k l _=>h.block k (by omega) (by intro e;have:=(m k e.symm).1;omega),
  fun k l _ n=>h.block k l (by intro e;obtain⟨_,c,j,o⟩:=m k e.symm;exact n c j o)⟩
theorem bX.below{b B n:Nat}(h:bX b B i V)(a:n≤B)(c:n≤b):Below n i V:=⟨h.os,h.tape,h.output,h.size,fun k d=>h.block k (by omega) (by omega)⟩
theorem QT{v:Value}(h:i.ownsRow a 5 1 v d Z):∀k,v.ownBlock=some k→a≤k∧∃c e,i.heap[k]? =some (.cells c 5 e):=by
 intro k b;have l:=(h.lt k b).1;rcases h.2 with⟨rfl,_⟩|⟨g,cap,m,rfl,_,j,_⟩
 ·cases b
 ·simp only[Value.ownBlock,gR] at b;subst b;exact⟨l,_,_,j⟩
theorem wP{e:TypeId}{size:Nat}{v:Value}{n:Nat}(h:i.ownsRow a e size v n Z)(c:d≤a):i.ownsRow d e size v n Z:=by
 refine⟨h.1, ?_⟩;rcases h.2 with h|⟨g,cap,b,l,j,k⟩
 ·exact .inl h
 ·exact .inr ⟨g,cap,b,l,bP c j,k⟩
def BA(w:World)(b B:Nat)(l:Bs):Prop:=
 ∃p v,w.heap[b]? =some (.cells #[p,v] 121 (0,0))∧(p=.pointer none∨p=.pointer (some ⟨b,0,none⟩))∧w.ownsRow B 5 1 v l.length (da l)∧v.ownBlock≠some b
theorem QU(w:World)(B:Nat):BA (w.alloc (.cells #[.pointer none,.slice none 0 0] 121)) w.heap.size B []:=
 ⟨_,_,heap_alloc_new w _,.inl rfl,World.ownsRow_nil _ _ _ _,by simp[Value.ownBlock]⟩
theorem BA.lt(h:BA i a d j):a<i.heap.size:=by
 obtain⟨p,v,c,_⟩:=h;by_cases e:a<i.heap.size
 ·exact e
 ·rw[Kl (by omega)] at c;cases c
theorem BA.next{w w':World}(h:BA w a d j)(c:Below w.heap.size w w'):BA w' a d j:=by have n:=h.lt;obtain⟨p,v,e,i,k,m⟩:=h;exact⟨p,v,(c.block a n).t e,i,cp k c,m⟩
theorem BA.WX(h:BA i a d j)(o:a≤d):Lib.IsBuilder 121 5 a a (Lib.byteCells j) i:=by
 obtain⟨p,v,c,m,n,e⟩:=h;have r:(Lib.byteCells j).length=j.length:=by simp[Lib.byteCells]
 have q:Lib.byteCells j=da j:=rfl;have k:i.ownsRow a 5 1 v (Lib.byteCells j).length (Lib.byteCells j):=by rw[r,q];exact wP n o
 rcases m with rfl|rfl
 ·exact .inl ⟨ag _,v,c,k,e⟩
 ·exact .inr ⟨ag _,v,c,k,e⟩
theorem Vf:(Tryz.prog.info? 121).map (fun j=>j.size)=some 2:=by kernel_rfl
theorem Wj:Tryz.prog.underlying 119=some (.pointer 121):=by kernel_rfl
theorem WY:Tryz.prog.underlying 210=some .unsafePointer:=by kernel_rfl
theorem BB(b:Nat)(w:World)(c:w.cell? ⟨b,0,none⟩=some (.pointer (some ⟨b,0,none⟩))):
 Calls Tryz.prog 104 #[.pointer (some ⟨b,0,none⟩)] w fun e w'=>e=.returned (.tuple #[])∧w'=w:=by
 obtain⟨j,a,_⟩:=qG.1 Vf;go_enter Tryz.func104,Tryz.ntmps104;go_wp2;rw[Lib.run_neq_ptr_same w _ Wj a];go_wp2
 go_end0
 exact⟨rfl,rfl⟩
theorem zr(b:Nat)(w:World)(h:w.cell? ⟨b,0,none⟩=some (.pointer none))(c:w.shape? b=some (121,2))(i:w.frozen? ⟨b,0,none⟩=false):
 Calls Tryz.prog 104 #[.pointer (some ⟨b,0,none⟩)] w fun e w'=>e=.returned (.tuple #[])∧w'=w.setCell ⟨b,0,none⟩ (.pointer (some ⟨b,0,none⟩)):=by
 obtain⟨j,a,d⟩:=qG.1 Vf;go_enter Tryz.func104,Tryz.ntmps104;go_wp2;rw[Lib.run_to_unsafe w ⟨b,0,none⟩ Wj WY a (by rw[d];decide) c (Nat.zero_lt_succ 1)];simp only[Result.andThen];rw[Oper.upon_value];go_wp2;rw[run_callFunc_extern Tryz.func145 (by kernel_rfl) (by kernel_rfl) (by kernel_rfl) (e:=Extern.AbiNoEscape.same) (by kernel_rfl)];rw[Lib.run_noEscape];simp only[Result.andThen];rw[Oper.upon_value];go_wp2;rw[Lib.run_from_unsafe w ⟨b,0,none⟩ WY Wj a c (by kernel_rfl)];simp only[Result.andThen];rw[Oper.upon_value];go_wp2
 go_end0
 exact⟨rfl,rfl⟩
def Checked(b B:Nat)(l:Bs)(w w':World):Prop:=
 (∃v,w'.heap[b]? =some (.cells #[.pointer (some ⟨b,0,none⟩),v] 121 (0,0))∧w'.ownsRow B 5 1 v l.length (da l)∧v.ownBlock≠some b)∧bX b B w w'∧w'.heap.size=w.heap.size
theorem C1(b B:Nat)(l:Bs)(w:World)(h:BA w b B l):
 Calls Tryz.prog 104 #[.pointer (some ⟨b,0,none⟩)] w fun e w'=>e=.returned (.tuple #[])∧Checked b B l w w':=by
 obtain⟨p,v,a,o,i,c⟩:=h;have d:w.cell? ⟨b,0,none⟩=some p:=by simp[World.cell?,a]
 rcases o with rfl|rfl
 ·have q:w.shape? b=some (121,2):=by simp[World.shape?,a]
  have j:w.frozen? ⟨b,0,none⟩=false:=by simp[World.frozen?,a]
  refine(zr b w d q j).m ?_;rintro e w'⟨rfl,rfl⟩;refine⟨rfl,⟨v, ?_, ?_,c⟩,bX.set,by simp[World.setCell]⟩
  ·simp[World.setCell,Array.getElem?_modify,a]
  ·exact i.kept (row:=some b) ⟨rfl,rfl,rfl,by simp[World.setCell],fun k _ n=>Below.heap_setCell _ _ _ _ (fun e=>n (by simp[e]))⟩ (Or.inr c)
 ·refine(BB b w d).m ?_;rintro e w'⟨rfl,rfl⟩;exact⟨rfl,⟨v,a,i,c⟩,bX.refl _ _ _,rfl⟩
def MQ(b B:Nat)(l:Bs)(w w':World):Prop:=BA w' b B l∧bX b B w w'
theorem strCells_eq(s:ByteArray):Lib.strCells s=da s.data.toList:=rfl
theorem MR{s:ByteArray}{c:World}{v v':Value}(n:bX a d i V)(m:V.heap[a]? =some (.cells #[.pointer (some ⟨a,0,none⟩),v] 121 (0,0)))(D:v.ownBlock≠some a)(F:∀k,v.ownBlock=some k→d≤k∧∃r u,V.heap[k]? =some (.cells r 5 u))(x:d≤V.heap.size)
 (E:c.ownsRow d 5 1 v' (j.length+s.size) (da j++Lib.strCells s))(o:V.grownBy c v.ownBlock):
 MQ a d (j++s.data.toList) i (c.setCell ⟨a,1,none⟩ v')∧c.cell? ⟨a,1,none⟩=some v∧c.frozen? ⟨a,1,none⟩=false:=by
 have C:a<V.heap.size:=by
  by_cases y:a<V.heap.size
  ·exact y
  ·rw[Kl (by omega)] at m;cases m
 have h:c.heap[a]? =some (.cells #[.pointer (some ⟨a,0,none⟩),v] 121 (0,0)):=(o.block a C (fun e=>D e.symm)).t m;have A:(j++s.data.toList).length=j.length+s.size:=by rw[bB,bj]
 have z:da (j++s.data.toList)=da j++Lib.strCells s:=by rw[strCells_eq];simp[da]
 have q:c.ownsRow d 5 1 v' (j++s.data.toList).length (da (j++s.data.toList)):=by rw[A,z];exact E
 have p:v'.ownBlock≠some a:=Lib.ownBlock_ne q h (by decide);refine⟨⟨⟨.pointer (some ⟨a,0,none⟩),v', ?_,.inr rfl, ?_,p⟩,(n.t (bX.grown o F x)).t bX.set⟩, ?_, ?_⟩
 ·simp[World.setCell,Array.getElem?_modify,h]
 ·exact q.kept (row:=some a) ⟨rfl,rfl,rfl,by simp[World.setCell],fun k _ n=>Below.heap_setCell _ _ _ _ (fun e=>n (by simp[e]))⟩ (Or.inr p)
 ·simp[World.cell?,h]
 ·simp[World.frozen?,h]
theorem pR(b B:Nat)(l:Bs)(s:ByteArray)(w:World)(h:BA w b B l)(C:B≤w.heap.size)(L:l.length+s.size≤1000000000):
 Calls Tryz.prog 55 #[.pointer (some ⟨b,0,none⟩),.string s] w fun e w'=>e=.returned (.tuple #[.int .i64 s.size,.nilIface])∧MQ b B (l++s.data.toList) w w':=by
 obtain⟨H,E,G,F,D⟩:=info_parts Ti;have i:=Lib.hid h;clear h;go_enter Tryz.func55,Tryz.ntmps55;go_wp2_with fail;refine(C1 b B l w i.out).m ?_;rintro e r⟨rfl,⟨v,a,c,p⟩,o,q⟩;have A:r.cell? ⟨b,1,none⟩=some v:=by simp[World.cell?,a]
 have t:=Lib.hid a;have u:=Lib.hid o;have k:=Lib.hid (q▸C:B≤r.heap.size);have z:=Lib.hid (QT c);have y:=Lib.hid c;have x:=Lib.hid p;clear a o q p c i;go_wp2_with (at_builtin;refine Lib.wpList_append_own_string _ rfl _ _ 83 9 rfl B 5 H u83 u9 E G F D _ _ _ rfl y.out s rfl (by unfold maxLen;omega) (by omega) k.out ?_;intro v' N d n _;obtain⟨I,J,rfl⟩:=aX d;have j:=Lib.hid (MR u.out t.out x.out z.out k.out d n);obtain⟨M,K⟩:=j.out.2;clear d n A);go_ret2;exact⟨rfl,j.out.1⟩
theorem C2(b B:Nat)(l:Bs)(w:World)(h:BA w b B l)(a:b≤B):Calls Tryz.prog 56 #[.pointer (some ⟨b,0,none⟩)] w fun e w'=>e=.returned (.string ⟨l.toArray⟩)∧Below b w w':=
 Tryz.Builder_String_any b b l w (h.WX a) (om h.lt)
theorem Tj(b B:Nat)(l:Bs)(w:World)(h:BA w b B l)(a:b≤B):Calls Tryz.prog 163 #[.pointer (some ⟨b,0,none⟩)] w fun e w'=>e=.returned (.int .i64 l.length)∧w=w':=by refine(Tryz.Builder_Len b b _ w (h.WX a)).m ?_;rintro e w'⟨rfl,rfl⟩;refine⟨?_,rfl⟩;simp[Lib.byteCells]
variable{a:Bs}{b:List dQ}{l:List iZ}{d p q E:Nat}{e W:Option Addr}{k s:aaK}{S K:aaM}
attribute[local go_sem↓] Go.wp_at_zero Go.wp_at_succ
theorem Y9{p:gi}(h:gj a=some p):p.key.length≤64:=by
 unfold gj at h;cases j:cD (a.takeWhile dt)
 ·rw[j] at h;cases h
 ·rw[j] at h;simp only[aS] at h;cases b:ey (a.dropWhile dt) with
  |none=>rw[b] at h;cases h
  |some q=>
   obtain⟨k,l,m⟩:=q;rw[b] at h;change dz (a.takeWhile dt) k l m=some p at h;have s:k.length≤64:=by
    unfold ey at b;cases e:Lib.hasPrefix (a.dropWhile dt) [123]
    ·rw[e] at b;cases b;exact aH _
    ·rw[e] at b;simp only[aS] at b;cases c:((Lib.trimPrefix (a.dropWhile dt) [123]).contains 125&&fJ (upto 125 (Lib.trimPrefix (a.dropWhile dt) [123])))
     ·rw[c] at b;cases b
     ·rw[c] at b;simp only[aS,gR,kj] at b;rw[cW] at c;have i:=c.2;unfold fJ at i;rw[cW] at i;have:=dv i.1;rw[←b.1];omega
   unfold dz at h;cases e:gm m with
   |none=>rw[e] at h;cases h
   |some q=>
    obtain⟨d,o,n⟩:=q;rw[e] at h;change gH (a.takeWhile dt) k d l o n=some p at h;unfold gH at h;cases c:Lib.hasPrefix n [41]
    ·rw[c] at h;cases h
    ·rw[c] at h;simp only[aS,gR] at h;subst h;exact s
theorem Found.key{u:iZ}(h:Found a d u):u.key.length≤64:=by obtain⟨p,c,b⟩:=h.parts;rw[b];exact Y9 c
theorem DG{s:Bs}:∀{l:List iZ} {i:Nat},yn s i l→∀{k:Nat} {u:iZ},l[k]? =some u→∃j,Found s j u∧yn s u.to (l.drop (k+1))
 |v::l,i,h,0,u,a=>by
  obtain rfl:v=u:=by simpa using a
  exact⟨i,h.1,h.2⟩
 |v::l,i,h,k+1,u,a=>by obtain⟨j,b,c⟩:=DG h.2 (k:=k) (u:=u) (by simpa using a);exact⟨j,b,by simpa using c⟩
theorem Sv(s:aaM)(a b:Nat):(s.extract a b).data.toList=(s.data.toList.drop a).take (b-a):=cf s a b
def EX(w:aaK)(a:Option Addr)(b B:Nat)(c:List iZ):Prop:=∀(j:Nat) (u:iZ),c[j]? =some u→∃g,a=some ⟨g,0,none⟩∧g≠b∧g<B∧
 w.cell? ⟨g,j*7,none⟩=some (.int .i64 u.src)∧w.cell? ⟨g,j*7+1,none⟩=some (.int .i64 u.to)∧w.cell? ⟨g,j*7+2,none⟩=some (.string ⟨u.name.toArray⟩)∧w.cell? ⟨g,j*7+3,none⟩=some (.string ⟨u.key.toArray⟩)∧w.cell? ⟨g,j*7+4,none⟩=some (.string ⟨u.cK.toArray⟩)∧w.cell? ⟨g,j*7+5,none⟩=some (.bool u.hk)∧w.cell? ⟨g,j*7+6,none⟩=some (.bool u.hd)
theorem tV:∀(a:List iZ) (j i:Nat) (u:iZ) (v:aaL),a[j]? =some u→(lR u)[i]? =some v→(pq a)[j*7+i]? =some v
 |[],j,i,u,v,h,_=>by simp at h
 |x::a,0,i,u,v,h,b=>by
  obtain rfl:x=u:=by simpa using h
  show(lR x++pq a)[0*7+i]? =some v;have c:i<(lR x).length:=by
   by_cases d:i<(lR x).length
   ·exact d
   ·rw[List.getElem?_eq_none (by omega)] at b;cases b
  rw[Nat.zero_mul,dH,qC c];exact b
 |x::a,j+1,i,u,v,h,b=>by have:=tV a j i u v (by simpa using h) b;show(lR x++pq a)[(j+1)*7+i]? =some v;rw[jL (by simp[lR];omega)];simp only[lR,bF,lH];rw[show(j+1)*7+i-(0+1+1+1+1+1+1+1)=j*7+i by omega];exact this
theorem Pa(h:zu k d (.slice e l.length q) l)(y:p<d):EX k e p k.heap.size l:=by
 intro j u n;have s:=fun(g:Nat) (o:(Value.slice e l.length q).ownBlock=some g)=>h.cells o;have t:=h.lt;rcases h.2 with⟨m,r⟩|⟨g,cap,x,m,z,o,_⟩
 ·rw[jn r] at n;simp at n
 ·obtain rfl:e=some ⟨g,0,none⟩:=by simp only[Value.slice.injEq] at m;exact m.1
  have cell:∀i v,(lR u)[i]? =some v→k.cell? ⟨g,j*7+i,none⟩=some v:=by intro i v m;have:=s g rfl _ _ (tV l j i u v n m);rw[F6] at this;rw[dH] at this;exact this
  exact⟨g,rfl,by omega,(t g rfl).2,cell 0 _ rfl,cell 1 _ rfl,cell 2 _ rfl,cell 3 _ rfl,cell 4 _ rfl,cell 5 _ rfl,cell 6 _ rfl⟩
theorem bX.cell(h:bX d p k s){v:aaL}(e:q<p)(i:q≠d)(c:k.cell? ⟨q,E,none⟩=some v):s.cell? ⟨q,E,none⟩=some v:=
 (uL (a:=⟨q,E,none⟩) (h.block q e i)).t c
theorem EX.kept(h:EX k e d p l)(m:bX d p k s):EX s e d p l:=by intro j u A;obtain⟨g,z,c,i,n,o,q,r,t,x,y⟩:=h j u A;exact⟨g,z,c,i,m.cell i c n,m.cell i c o,m.cell i c q,m.cell i c r,m.cell i c t,m.cell i c x,m.cell i c y⟩
def VJ(W:aaK)(b:Nat)(h t:aaM)(v:aaL):Prop:=W.heap[b]? =some (.cells #[.string h,.string t,v] 47)
def Gy(p:Bs×Int):aaL:=.tuple #[.string ⟨p.1.toArray⟩,.int .i64 p.2]
structure TM (w w3 wr:aaK) (bb B:Nat) (a ua:Option Addr) (n c:Nat) (h t:aaM) (fs:List dQ) (us:List iZ):Prop where
 kept:bX bb B w3 wr
 room:B≤wr.heap.size
 below:Below w.heap.size w wr
 VK:VJ wr w.heap.size h t (.slice a n c)
 fields:aZ wr (.slice a n c) fs
 VL:EX wr ua bb B us
 aq:Good wr
theorem TM.kb{w k wr w':aaK}(x:TM w k wr d p e W q E S K b l)(i:bX d p wr w')(s:d=w.heap.size+1)(r:d<p)(m:aZ w (.slice e q E) b)(o:Good w):TM w k w' d p e W q E S K b l:=by have j:Below w.heap.size w w':=x.below.t (i.below (by omega) (by omega));exact⟨x.kept.t i,bP x.room i.size,j,(i.block _ (by omega) (by omega)).t x.VK,m.below j,x.VL.kept i,o.next j⟩
theorem TM.nx{w i wr w':aaK}(x:TM w i wr d p e W q E S K b l)(r:Below wr.heap.size wr w')(k:d=w.heap.size+1)(j:d<p)(m:aZ w (.slice e q E) b)(o:Good w):TM w i w' d p e W q E S K b l:=
 x.kb (bX.ai r x.room) k j m o
theorem Ig{v:aaL}(x:VJ k d S K v):k.cell? ⟨d,0,none⟩=some (.string S)∧k.cell? ⟨d,1,none⟩=some (.string K)∧k.cell? ⟨d,2,none⟩=some v:=
 ⟨tH _ _ 0 _ _ _ x,tH _ _ 1 _ _ _ x,tH _ _ 2 _ _ _ x⟩
theorem rI{h t:Bs}{fs:List dQ}{s:Bs}(a:oP<(uW h t fs s).length):eA h t fs s=([],3):=by unfold eA;rw[cL (by omega)];rfl
theorem Pb{h t:Bs}{fs:List dQ}{s:Bs}(a:(uW h t fs s).length≤oP):eA h t fs s=(uW h t fs s,0):=by unfold eA;rw[bN a];rfl
theorem KS(s h t:aaM)(a:Option Addr)(n c:Nat)(fs:List dQ)(w:aaK)(hg:Good w)(hF:aZ w (.slice a n c) fs)(bg:rX fs)(ht:t.size≤100000)(hs:s.size≤1000000):
 Calls Tryz.prog 130 #[.string s,.agg #[.string h,.string t,.slice a n c]] w (cN w (Gy (eA h.data.toList t.data.toList fs s.data.toList))):=by
 have d:=ad (jG w (.cells #[.string h,.string t,.slice a n c] 47) (.cells #[.pointer none,.slice none 0 0] 121));have r:=ad hg;have E:=ad hF;clear hg hF;go_enter Tryz.func130,Tryz.ntmps130;go_wp2_with fail;generalize(w.alloc (.cells #[.string h,.string t,.slice a n c] 47)).alloc (.cells #[.pointer none,.slice none 0 0] 121)=W2 at*;have a2:=r.o.next d.o.below;refine(DJ s W2 a2 (by omega)).m ?_;rintro e j⟨v,rfl,ai,Q⟩;obtain⟨ua,uc,rfl⟩:=aX ai;have bd:w.heap.size+1<j.heap.size:=by have:=d.o.size;have:=Q.size;omega
 have HI:=ad (show TM w j j (w.heap.size+1) j.heap.size a ua n c h t fs (mT s.data.toList) from by have ab:Below w.heap.size w j:=d.o.below.t (Q.m d.o.below.size);refine⟨bX.refl _ _ _,ag _,ab,(Q.block _ (by have:=d.o.size;omega)).t d.o.b1,E.o.below ab, ?_,r.o.next ab⟩;exact Pa ai (by have:=d.o.size;omega))
 have am:=ad (show BA j (w.heap.size+1) j.heap.size [] from BA.next (w:=W2) ⟨_,_,d.o.b2,.inl rfl,jO _ _ _ _,by simp[Value.ownBlock]⟩ Q);have a0:=nC s.data.toList (s.data.toList.length+1) 0;have an:=ad (show yn s.data.toList 0 (mT s.data.toList) from a0);have bk:=A5 s.data.toList;rw[bj] at bk;have ap:=ad (show UE s.data.toList (fun u=>(jD h.data.toList t.data.toList fs u).1) 0 (mT s.data.toList)=uW h.data.toList t.data.toList fs s.data.toList from rfl);clear d a2 ai Q a0;generalize mT s.data.toList=b at*;generalize aU:w.heap.size+1=bb at*;generalize a9:j.heap.size=B at*;have D:=ad aU.symm;clear aU a9;generalize a3:uW h.data.toList t.data.toList fs s.data.toList=tx at*;have O:=ad a3;clear a3;go_wp2_with fail
 go_loopw [7,15] (fun at' ix wr=>∃(k p:Nat) (l:Bs),at'=.int .i64 p∧ix=.int .i64 k∧k≤b.length∧p≤s.size∧l.length≤524288∧Hid (yn s.data.toList p (b.drop k))∧Hid (l++UE s.data.toList (fun u=>(jD h.data.toList t.data.toList fs u).1) p (b.drop k)=tx)∧Hid (BA wr bb B l)∧Hid (TM w j wr bb B a ua n c h t fs b)) (fun _ ix _=>b.length-(intOf ix).toNat)
 case atStart=>exact⟨0,0,[],rfl,rfl,aH _,aH _,aH _,an,ap,am,HI⟩
 case round=>
  clear an ap am HI;obtain⟨k,p,l,rfl,rfl,hk,hp,bs,Z,R,K,F⟩:=hrel;by_cases bi:k<b.length
  ·obtain⟨u,hu⟩:∃u,b[k]? =some u:=⟨b[k],cA bi⟩;obtain⟨g,rfl,bo,bn,c0,T,c2,c3,c4,c5,c6⟩:=F.o.VL k u hu;have A:=Z.o;have ac:b.drop k=u::b.drop (k+1):=by obtain⟨h1,h2⟩:=cH.1 hu;rw[lG h1,h2]
   rw[ac] at A;have bl:=A.1.ge;have bm:=A.1.lt;have a1:=A.1.le;rw[bj] at a1;have bp:=A.1.key;have a7:=ad A.2;have z:=R.o;rw[ac] at z;have J:=ad (show l++(((s.data.toList.drop p).take (u.src-p))++(jD h.data.toList t.data.toList fs u).1++UE s.data.toList (fun u=>(jD h.data.toList t.data.toList fs u).1) u.to (b.drop (k+1)))=tx from z);clear A ac hu z R Z;have i1:(p:Int)≤(u.src:Int):=by omega
   have i2:(u.src:Int)≤(s.size:Int):=by omega
   go_wp2_with fail;have W:sU (wr.alloc (.cells #[.int .i64 u.src,.int .i64 u.to,.string ⟨u.name.toArray⟩,.string ⟨u.key.toArray⟩,.string ⟨u.cK.toArray⟩,.bool u.hk,.bool u.hd] 168)) wr.heap.size u:=au wr _;have b4:=(ar wr.heap.size wr).alloc (ag _) (.cells #[.int .i64 u.src,.int .i64 u.to,.string ⟨u.name.toArray⟩,.string ⟨u.key.toArray⟩,.string ⟨u.cK.toArray⟩,.bool u.hk,.bool u.hd] 168);generalize wr.alloc (.cells #[.int .i64 u.src,.int .i64 u.to,.string ⟨u.name.toArray⟩,.string ⟨u.key.toArray⟩,.string ⟨u.cK.toArray⟩,.bool u.hk,.bool u.hd] 168)=W4 at*;have bJ:bb<wr.heap.size:=K.o.lt;have aa:=ad (F.o.nx b4 D.o (by omega) E.o r.o);have al:=ad (K.o.next b4);generalize wr.heap.size=I at*;clear b4 F K c0 T c2 c3 c4 c5 c6;have hex:(s.extract p u.src).size=u.src-p:=by simp[ByteArray.size_extract];omega
   refine(pR bb B l (s.extract p u.src) W4 al.o aa.o.room (by omega)).m ?_;rintro e C⟨rfl,G,H⟩;have X:sU C I u:=(H.other I (ll W) (by omega) (fun cs fr=>by rw[W];intro e;cases e)).t W;have q:=ad (aa.o.kb H D.o (by omega) E.o r.o);have bv:I<C.heap.size:=ll X;rw[Sv] at G;have br:(l++(s.data.toList.drop p).take (u.src-p)).length≤524288+1000000:=by rw[bB,gu,bK,bj];omega
   have S:=ad (show(l++(s.data.toList.drop p).take (u.src-p))++((jD h.data.toList t.data.toList fs u).1++UE s.data.toList (fun u=>(jD h.data.toList t.data.toList fs u).1) u.to (b.drop (k+1)))=tx by rw[←J.o];simp);clear J al aa H W hex;generalize l++(s.data.toList.drop p).take (u.src-p)=i at*;have L:=ad G;have ao:=ad X;obtain⟨⟨c0,T,c2,c3,c4,c5,c6⟩,f0,f1,f2,f3,f4,f5,f6⟩:=ln X;obtain⟨v0,v1,v2⟩:=Ig q.o.VK;clear G X f0 f1 f2 f3 f4 f5 f6;go_wp2_with fail;refine(LJ u h t a n c fs C q.o.aq q.o.fields bg ht (by omega)).m ?_;rintro e w6⟨rfl,V⟩;generalize hx:(jD h.data.toList t.data.toList fs u).1=x at*;clear hx;have M:=ad (q.o.nx V D.o (by omega) E.o r.o);have Y:=ad (L.o.next V);have N:=ad (ao.o.next V);have bx:I<w6.heap.size:=ll N.o;clear q L ao V c0 T c2 c3 c4 c5 c6 v0 v1 v2;go_wp2_with fail;refine(Tj bb B i w6 Y.o (by omega)).m ?_;rintro e w7⟨rfl,rfl⟩;by_cases hl:i.length≤262144
   ·have i3:(i.length:Int)≤262144:=by omega
    by_cases hx:x.length≤262144
    ·have i4:(x.length:Int)≤262144:=by omega
     go_wp2_with fail;refine(pR bb B i ⟨x.toArray⟩ w6 Y.o M.o.room (by show i.length+x.length≤_;omega)).m ?_;rintro e w8⟨rfl,ay,af⟩;have n8:sU w8 I u:=(af.other I (ll N.o) (by omega) (fun cs fr=>by rw[N.o];intro e;cases e)).t N.o;have a8:=ad (M.o.kb af D.o (by omega) E.o r.o);have T:=aj n8 1;have a5:=ad (show BA w8 bb B (i++x) from ay);have a4:=ad (show(i++x)++UE s.data.toList (fun u=>(jD h.data.toList t.data.toList fs u).1) u.to (b.drop (k+1))=tx by rw[←S.o];simp);clear ay af n8 N Y M S;go_wp2_with fail
     go_roundw
     case rel=>exact⟨k+1,u.to,i++x,rfl,by go_num,by omega,a1,by rw[bB];omega,a7,a4,a5,a8⟩
     case measure=>(simp[intOf]<;>omega)
    ·have i4:(262144:Int)<(x.length:Int):=by omega
     have y:=ad (rI (h:=h.data.toList) (t:=t.data.toList) (fs:=fs) (s:=s.data.toList) (by rw[O.o,←S.o];unfold oP;simp only[bB];omega));go_wp2_with fail;go_ret2;rw[y.o];exact⟨rfl,M.o.below⟩
   ·have i3:(262144:Int)<(i.length:Int):=by omega
    have y:=ad (rI (h:=h.data.toList) (t:=t.data.toList) (fs:=fs) (s:=s.data.toList) (by rw[O.o,←S.o];unfold oP;simp only[bB];omega));go_wp2_with fail;go_ret2;rw[y.o];exact⟨rfl,M.o.below⟩
  ·have bf:k=b.length:=by omega
   have z:=R.o;rw[bf,qA (ag _)] at z;have J:=ad (show l++s.data.toList.drop p=tx from z);have i1:(p:Int)≤(s.size:Int):=by omega
   clear z R Z;go_wp2_with fail;rw[uu];have be:(⟨(s.data.toList.drop p).toArray⟩:aaM).size≤1000000:=by show(s.data.toList.drop p).length≤_;rw[bK,bj];omega
   refine(pR bb B l ⟨(s.data.toList.drop p).toArray⟩ wr K.o F.o.room (by omega)).m ?_;rintro e C⟨rfl,G,H⟩;have av:BA C bb B tx:=by rw[←J.o];exact G
   have q:=ad (F.o.kb H D.o bd E.o r.o);have L:=ad av;clear G av H F K J be;go_wp2_with fail;refine(Tj bb B tx C L.o (by omega)).m ?_;rintro e w7⟨rfl,rfl⟩;by_cases hl:tx.length≤262144
   ·have i3:(tx.length:Int)≤262144:=by omega
    have y:=ad (Pb (h:=h.data.toList) (t:=t.data.toList) (fs:=fs) (s:=s.data.toList) (by rw[O.o];exact hl));go_wp2_with fail;refine(C2 bb B tx C L.o (by omega)).m ?_;rintro e w8⟨rfl,aN⟩;have a6:=ad (q.o.below.t (aN.m (by have:=D.o;omega)));clear aN;go_wp2_with fail;go_ret2;rw[y.o,O.o];exact⟨rfl,a6.o⟩
   ·have i3:(262144:Int)<(tx.length:Int):=by omega
    have y:=ad (rI (h:=h.data.toList) (t:=t.data.toList) (fs:=fs) (s:=s.data.toList) (by rw[O.o];unfold oP;omega));go_wp2_with fail;go_ret2;rw[y.o];exact⟨rfl,q.o.below⟩
theorem DF(name key:aaM)(has:Bool)(w:aaK)(r:key.size≤140737488351232):
 Calls Tryz.prog 142 #[.string name,.string key,.bool has] w (cN w (.string ⟨(eT name.data.toList key.data.toList has).toArray⟩)):=by
 rcases nJ name.data.toList with a|a|a|a|a|a|a
 ·obtain rfl:=dn a;have c:=ad (show eT (⟨kX.toArray⟩:aaM).data.toList key.data.toList has=[104,111,115,116] from rfl);have q:=ad a;clear a;have hq:((⟨[104,111,115,116].toArray⟩:aaM).toList==[99,111,111,107,105,101])=false:=by rw[oE];rfl
  have i:=Eh;go_enter Tryz.func142,Tryz.ntmps142;go_wp2_with fail;refine(bO _).m ?_;rintro e p⟨b,k,l,n,rfl,d,h⟩;have j:=RY d;go_wp2;go_ret;rw[c.o];exact⟨jF (by simp),h⟩
 ·obtain rfl:=dn a;have c:=ad (show eT (⟨dZ.toArray⟩:aaM).data.toList key.data.toList has=dP from rfl);have q:=ad a;clear a;have hq:((⟨dP.toArray⟩:aaM).toList==[99,111,111,107,105,101])=false:=by rw[oE];rfl
  have i:=Eh;go_enter Tryz.func142,Tryz.ntmps142;go_wp2_with fail;refine(bO _).m ?_;rintro e p⟨b,k,l,n,rfl,d,h⟩;have j:=ZX d;go_wp2;go_ret;rw[c.o];exact⟨jF (by simp),h⟩
 ·obtain rfl:=dn a;have c:=ad (show eT (⟨iE.toArray⟩:aaM).data.toList key.data.toList has=agentName from rfl);have q:=ad a;clear a;have hq:((⟨agentName.toArray⟩:aaM).toList==[99,111,111,107,105,101])=false:=by rw[oE];rfl
  have i:=Eh;go_enter Tryz.func142,Tryz.ntmps142;go_wp2_with fail;refine(bO _).m ?_;rintro e p⟨b,k,l,n,rfl,d,h⟩;have j:=R0 d;go_wp2;go_ret;rw[c.o];exact⟨jF (by simp),h⟩
 ·obtain rfl:=dn a;clear a;rcases has with _|_
  ·have c:=ad (show eT (⟨eU.toArray⟩:aaM).data.toList key.data.toList false=bA from rfl);have hq:((⟨bA.toArray⟩:aaM).toList==[99,111,111,107,105,101])=true:=by rw[oE];rfl
   have i:=Eh;go_enter Tryz.func142,Tryz.ntmps142;go_wp2_with fail;refine(bO _).m ?_;rintro e p⟨b,k,l,n,rfl,d,h⟩;have j:=JO d;go_wp2;go_ret;rw[c.o];exact⟨jF (by simp[bA]),h⟩
  ·have c:=ad (show eT (⟨eU.toArray⟩:aaM).data.toList key.data.toList true=(bA++[46]++key.data.toList) from rfl);have hq:((⟨bA.toArray⟩:aaM).toList==[99,111,111,107,105,101])=true:=by rw[oE];rfl
   have i:=Eh;go_enter Tryz.func142,Tryz.ntmps142;go_wp2_with fail;refine(bO _).m ?_;rintro e p⟨b,k,l,n,rfl,d,h⟩;have j:=JO d;go_wp2;go_ret;rw[c.o];exact⟨jF (by simp[bA]),h⟩
 ·obtain rfl:=dn a;have c:=ad (show eT (⟨iF.toArray⟩:aaM).data.toList key.data.toList has=[] from rfl);have q:=ad a;clear a;have i:=Eh;go_enter Tryz.func142,Tryz.ntmps142;go_wp2_with fail;refine(bO _).m ?_;rintro e p⟨b,k,l,n,rfl,d,h⟩;have j:=R1 d;go_wp2;go_ret;rw[c.o];exact⟨jF (by simp),h⟩
 ·obtain rfl:=dn a;have c:=ad (show eT (⟨kY.toArray⟩:aaM).data.toList key.data.toList has=ed from rfl);have q:=ad a;clear a;have hq:((⟨ed.toArray⟩:aaM).toList==[99,111,111,107,105,101])=false:=by rw[oE];rfl
  have i:=Eh;go_enter Tryz.func142,Tryz.ntmps142;go_wp2_with fail;refine(bO _).m ?_;rintro e p⟨b,k,l,n,rfl,d,h⟩;have j:=R3 d;go_wp2;go_ret;rw[c.o];exact⟨jF (by simp),h⟩
 ·have c:=ad (show eT name.data.toList key.data.toList has=[] by unfold eT;rw[Lm a];rfl);have q:=ad a;clear a;have i:=Eh;go_enter Tryz.func142,Tryz.ntmps142;go_wp2_with fail;refine(bO _).m ?_;rintro e p⟨b,k,l,n,rfl,d,h⟩;have j:=R4 d q.o;go_wp2;go_ret;rw[c.o];exact⟨jF (by simp),h⟩
theorem IZ(c pa d:Bs)(j:Int)(hq:Bool)(w:World)(hg:GX w)(hl:xv ⟨[104,116,116,112],c,j,pa,d,hq⟩):
 Calls Tryz.prog 14 #[uV ⟨[104,116,116,112],c,j,pa,d,hq⟩] w (cN w (.int .i64 (aQ ⟨[104,116,116,112],c,j,pa,d,hq⟩))):=by
 have HB:=Lib.hid (sP w ⟨[104,116,116,112],c,j,pa,d,hq⟩);have F:=Lib.hid ((Below.refl w.heap.size w).alloc (ag _) (.cells #[.string ⟨([104,116,116,112]:Bs).toArray⟩,.string ⟨c.toArray⟩,.int .i64 j,.string ⟨pa.toArray⟩,.string ⟨d.toArray⟩,.bool hq] 23));have I:=Lib.hid hg;have HL:=Lib.hid hl;obtain⟨l1,l2,l3,l4⟩:=hl;simp only at l1 l2 l3 l4;clear hg l1;by_cases J:1≤c.length∧c.length≤253
 ·have H:¬c=[]:=by rintro rfl;simp at J
  have a2:c.isEmpty=false:=by cases c with|nil=>exact(H rfl).elim|cons a b=>rfl
  have k2:(c.length:Int)≤253:=by omega
  go_enter Tryz.func14,Tryz.ntmps14;go_wp2_with fail;generalize w.alloc (.cells #[.string ⟨([104,116,116,112]:Bs).toArray⟩,.string ⟨c.toArray⟩,.int .i64 j,.string ⟨pa.toArray⟩,.string ⟨d.toArray⟩,.bool hq] 23)=W at*;refine(tm c W (by omega)).m ?_;rintro e w1⟨rfl,R⟩;have O:=Lib.hid (HB.out.next R);have o:=Lib.hid (F.out.t (R.m F.out.size));obtain⟨q,r,s,x,y,z⟩:=O.out.cells;simp only at q r s x y z;clear R HB F;rcases E:c.all mh with _|_
  ·have l:=Lib.hid (cV (Bp (u:=⟨[104,116,116,112],c,j,pa,d,hq⟩) E));have al:=tq E;have a3:¬Lib.trimS c dA=[]:=by intro e;rw[e] at al;cases al
   clear E;go_wp2_with fail;go_ret;exact⟨bW l.out.symm,o.out⟩
  ·rw[Br E];have ab:=Lib.hid E;clear E;by_cases T:0≤j∧j≤65535
   ·obtain⟨Y,Z⟩:=T;go_wp2_with fail;refine(cj ⟨pa.toArray⟩ ⟨#[47]⟩ w1).m ?_;rintro e w2⟨rfl,rfl⟩;rcases L:Lib.hasPrefix pa [47] with _|_
    ·have l:=Lib.hid (cV (tj (u:=⟨[104,116,116,112],c,j,pa,d,hq⟩) (by unfold jE;rw[L];rfl)));clear L;go_wp2_with fail;go_ret;exact⟨bW l.out.symm,o.out⟩
    ·have aU:=Lib.hid L;clear L;go_wp2_with fail;refine(FG pa w1 (I.out.next o.out).aq (by omega)).m ?_;rintro e w2⟨rfl,S⟩;have aa:=Lib.hid (O.out.next S);have p:=Lib.hid (o.out.t (S.m o.out.size));clear S q r s x y z O o;obtain⟨q,r,s,x,y,z⟩:=aa.out.cells;simp only at q r s x y z;rcases K:bh mi pa with _|_
     ·have l:=Lib.hid (cV (tj (u:=⟨[104,116,116,112],c,j,pa,d,hq⟩) (by unfold jE;rw[K,CU])));clear K;go_wp2_with fail;go_ret;exact⟨bW l.out.symm,p.out⟩
     ·have aN:=Lib.hid K;clear K;by_cases V:hq=false∧¬d=[]
      ·obtain⟨q1,q2⟩:=V;have l:=Lib.hid (cV (Qn (u:=⟨[104,116,116,112],c,j,pa,d,hq⟩) q1 q2));subst q1;have a4:d.isEmpty=false:=by cases d with|nil=>exact(q2 rfl).elim|cons a b=>rfl
       go_wp2_with fail;go_ret;exact⟨bW l.out.symm,p.out⟩
      ·have Q:=Lib.hid (show hq=true∨d=[] by
        cases hq
        ·exact .inr (by by_cases h:d=[];exact h;exact(V ⟨rfl,h⟩).elim)
        ·exact .inl rfl)
       clear V;rcases C:bh mB d with _|_
       ·have a0:hq=true:=by
         rcases Q.out with h|h
         ·exact h
         ·rw[h] at C;cases C
        subst a0;have l:=Lib.hid (cV (Bq (u:=⟨[104,116,116,112],c,j,pa,d,true⟩) C));go_wp2_with fail;refine(qq d w2 (I.out.next p.out).aq (by omega)).m ?_;rintro e n⟨rfl,D⟩;have G:=Lib.hid (p.out.t (D.m p.out.size));rw[C];clear D C;go_wp2_with fail;go_ret;exact⟨bW l.out.symm,G.out⟩
       ·have HF:=Lib.hid ((ef ⟨[104,116,116,112],c,j,pa,d,hq⟩).2 ⟨.inl rfl,J,ab.out,⟨Y,Z⟩,mj (by unfold jE;rw[aU.out,aN.out];rfl),Q.out,C⟩);have ay:=Lib.hid (show∀N:Nat,(0:Int)≤(N:Int) from fun N=>by omega);obtain⟨A,M⟩:∃A,gU ⟨[104,116,116,112],c,j,pa,d,hq⟩=A:=⟨_,rfl⟩;have ap:=Lib.hid (show A.length≤ee→aQ ⟨[104,116,116,112],c,j,pa,d,hq⟩=0 from fun h=>yW HF.out (by rw[M];exact h));have av:=Lib.hid (show ee<A.length→aQ ⟨[104,116,116,112],c,j,pa,d,hq⟩=3 from fun h=>yV HF.out (by rw[M];exact h));have am:=Lib.hid (show∀n,Hid (Below w.heap.size w n)→Calls Tryz.prog 31 #[uV ⟨[104,116,116,112],c,j,pa,d,hq⟩] n (cN n (.string ⟨A.toArray⟩)) from fun n h=>by rw[←M];exact CJ ⟨[104,116,116,112],c,j,pa,d,hq⟩ n (I.out.next h.out) HL.out ⟨Y,Z⟩);clear M;rcases hq with _|_;all_goals
         first
         |(have a1:d=[]:=by(rcases Q.out with h|h;cases h;exact h)
           subst a1)
         |skip
         go_wp2_with fail;refine(qq _ w2 (I.out.next p.out).aq (by first|exact aH _|omega)).m ?_;rintro e n⟨rfl,D⟩;have an:=Lib.hid (aa.out.next D);have G:=Lib.hid (p.out.t (D.m p.out.size));rw[C];clear D q r s x y z;obtain⟨q,r,s,x,y,z⟩:=an.out.cells;simp only at q r s x y z;go_wp2_with fail
         go_loop [63] (fun i=>∃k:Nat,k≤c.length∧i=.int .i64 k) (fun i=>c.length-(intOf i).toNat)
         case atStart=>exact⟨0,aH _,rfl⟩
         case round=>
          obtain⟨k,hk,rfl⟩:=hrel;by_cases B:k<c.length
          ·have i1:(k:Int)<(c.length:Int):=by omega
           have i0:(0:Int)≤(k:Int):=by omega
           have ai:dA.contains (c[k]'B)=true:=by
            rw[show dA.contains (c[k]'B)=mh (c[k]'B) from congrFun od _]
            exact eV.1 ab.out _ (wI B)
           have ao:=Lib.hid ai;clear ai;go_wp2_with fail;refine(eO ⟨dA.toArray⟩ (c[k]'B) n).m ?_
           rintro e w4⟨rfl,rfl⟩;rw[ah (show(⟨dA.toArray⟩:ByteArray).data.toList.contains (c[k]'B)=true from ao.out)]
           generalize lead (·!=c[k]'B) (⟨dA.toArray⟩:ByteArray).data.toList=N at*
           have hm:=ay.out N;go_wp2_with fail
           go_round
           case rel=>exact⟨k+1,by omega,by go_num⟩
           case measure=>(simp[intOf]<;>omega)
          ·have i1:(c.length:Int)≤(k:Int):=by omega
           go_wp2_with fail;refine(am.out n G).m ?_;rintro e w4⟨rfl,af⟩;have ac:=Lib.hid (G.out.t (af.m G.out.size));clear af q r s x y z;by_cases X:A.length≤ee
           ·have l:=Lib.hid (ap.out X);unfold ee at X;have ht:(A.length:Int)≤1024:=by omega
            go_wp2_with fail;go_ret;exact⟨bW l.out.symm,ac.out⟩
           ·have l:=Lib.hid (av.out (by omega));unfold ee at X;have ht:(1024:Int)<(A.length:Int):=by omega
            go_wp2_with fail;go_ret;exact⟨bW l.out.symm,ac.out⟩
   ·have l:=Lib.hid (cV (yU (u:=⟨[104,116,116,112],c,j,pa,d,hq⟩) T));by_cases Y:j<0
    ·go_wp2_with fail;go_ret;exact⟨bW l.out.symm,o.out⟩
    ·have p0:0≤j:=by omega
     have Z:65535<j:=by omega
     clear T;go_wp2_with fail;go_ret;exact⟨bW l.out.symm,o.out⟩
 ·have l:=Lib.hid (cV (FF (u:=⟨[104,116,116,112],c,j,pa,d,hq⟩) J));by_cases H:c=[]
  ·subst H;go_enter Tryz.func14,Tryz.ntmps14;go_wp2_with fail;go_ret;exact⟨bW l.out.symm,F.out⟩
  ·have a2:c.isEmpty=false:=by cases c with|nil=>exact(H rfl).elim|cons a b=>rfl
   have k2:(253:Int)<(c.length:Int):=by have:0<c.length:=abb.2 H;omega
   clear J;go_enter Tryz.func14,Tryz.ntmps14;go_wp2_with fail;go_ret;exact⟨bW l.out.symm,F.out⟩
theorem FI(c pa d:Bs)(j:Int)(hq:Bool)(w:World)(hg:GX w)(hl:xv ⟨[104,116,116,112,115],c,j,pa,d,hq⟩):
 Calls Tryz.prog 14 #[uV ⟨[104,116,116,112,115],c,j,pa,d,hq⟩] w (cN w (.int .i64 (aQ ⟨[104,116,116,112,115],c,j,pa,d,hq⟩))):=by
 have HB:=Lib.hid (sP w ⟨[104,116,116,112,115],c,j,pa,d,hq⟩);have F:=Lib.hid ((Below.refl w.heap.size w).alloc (ag _) (.cells #[.string ⟨([104,116,116,112,115]:Bs).toArray⟩,.string ⟨c.toArray⟩,.int .i64 j,.string ⟨pa.toArray⟩,.string ⟨d.toArray⟩,.bool hq] 23));have I:=Lib.hid hg;have HL:=Lib.hid hl;obtain⟨l1,l2,l3,l4⟩:=hl;simp only at l1 l2 l3 l4;clear hg l1;by_cases J:1≤c.length∧c.length≤253
 ·have H:¬c=[]:=by rintro rfl;simp at J
  have a2:c.isEmpty=false:=by cases c with|nil=>exact(H rfl).elim|cons a b=>rfl
  have k2:(c.length:Int)≤253:=by omega
  go_enter Tryz.func14,Tryz.ntmps14;go_wp2_with fail;generalize w.alloc (.cells #[.string ⟨([104,116,116,112,115]:Bs).toArray⟩,.string ⟨c.toArray⟩,.int .i64 j,.string ⟨pa.toArray⟩,.string ⟨d.toArray⟩,.bool hq] 23)=W at*;refine(tm c W (by omega)).m ?_;rintro e w1⟨rfl,R⟩;have O:=Lib.hid (HB.out.next R);have o:=Lib.hid (F.out.t (R.m F.out.size));obtain⟨q,r,s,x,y,z⟩:=O.out.cells;simp only at q r s x y z;clear R HB F;rcases E:c.all mh with _|_
  ·have l:=Lib.hid (cV (Bp (u:=⟨[104,116,116,112,115],c,j,pa,d,hq⟩) E));have al:=tq E;have a3:¬Lib.trimS c dA=[]:=by intro e;rw[e] at al;cases al
   clear E;go_wp2_with fail;go_ret;exact⟨bW l.out.symm,o.out⟩
  ·rw[Br E];have ab:=Lib.hid E;clear E;by_cases T:0≤j∧j≤65535
   ·obtain⟨Y,Z⟩:=T;go_wp2_with fail;refine(cj ⟨pa.toArray⟩ ⟨#[47]⟩ w1).m ?_;rintro e w2⟨rfl,rfl⟩;rcases L:Lib.hasPrefix pa [47] with _|_
    ·have l:=Lib.hid (cV (tj (u:=⟨[104,116,116,112,115],c,j,pa,d,hq⟩) (by unfold jE;rw[L];rfl)));clear L;go_wp2_with fail;go_ret;exact⟨bW l.out.symm,o.out⟩
    ·have aU:=Lib.hid L;clear L;go_wp2_with fail;refine(FG pa w1 (I.out.next o.out).aq (by omega)).m ?_;rintro e w2⟨rfl,S⟩;have aa:=Lib.hid (O.out.next S);have p:=Lib.hid (o.out.t (S.m o.out.size));clear S q r s x y z O o;obtain⟨q,r,s,x,y,z⟩:=aa.out.cells;simp only at q r s x y z;rcases K:bh mi pa with _|_
     ·have l:=Lib.hid (cV (tj (u:=⟨[104,116,116,112,115],c,j,pa,d,hq⟩) (by unfold jE;rw[K,CU])));clear K;go_wp2_with fail;go_ret;exact⟨bW l.out.symm,p.out⟩
     ·have aN:=Lib.hid K;clear K;by_cases V:hq=false∧¬d=[]
      ·obtain⟨q1,q2⟩:=V;have l:=Lib.hid (cV (Qn (u:=⟨[104,116,116,112,115],c,j,pa,d,hq⟩) q1 q2));subst q1;have a4:d.isEmpty=false:=by cases d with|nil=>exact(q2 rfl).elim|cons a b=>rfl
       go_wp2_with fail;go_ret;exact⟨bW l.out.symm,p.out⟩
      ·have Q:=Lib.hid (show hq=true∨d=[] by
        cases hq
        ·exact .inr (by by_cases h:d=[];exact h;exact(V ⟨rfl,h⟩).elim)
        ·exact .inl rfl)
       clear V;rcases C:bh mB d with _|_
       ·have a0:hq=true:=by
         rcases Q.out with h|h
         ·exact h
         ·rw[h] at C;cases C
        subst a0;have l:=Lib.hid (cV (Bq (u:=⟨[104,116,116,112,115],c,j,pa,d,true⟩) C));go_wp2_with fail;refine(qq d w2 (I.out.next p.out).aq (by omega)).m ?_;rintro e n⟨rfl,D⟩;have G:=Lib.hid (p.out.t (D.m p.out.size));rw[C];clear D C;go_wp2_with fail;go_ret;exact⟨bW l.out.symm,G.out⟩
       ·have HF:=Lib.hid ((ef ⟨[104,116,116,112,115],c,j,pa,d,hq⟩).2 ⟨.inr rfl,J,ab.out,⟨Y,Z⟩,mj (by unfold jE;rw[aU.out,aN.out];rfl),Q.out,C⟩);have ay:=Lib.hid (show∀N:Nat,(0:Int)≤(N:Int) from fun N=>by omega);obtain⟨A,M⟩:∃A,gU ⟨[104,116,116,112,115],c,j,pa,d,hq⟩=A:=⟨_,rfl⟩;have ap:=Lib.hid (show A.length≤ee→aQ ⟨[104,116,116,112,115],c,j,pa,d,hq⟩=0 from fun h=>yW HF.out (by rw[M];exact h));have av:=Lib.hid (show ee<A.length→aQ ⟨[104,116,116,112,115],c,j,pa,d,hq⟩=3 from fun h=>yV HF.out (by rw[M];exact h));have am:=Lib.hid (show∀n,Hid (Below w.heap.size w n)→Calls Tryz.prog 31 #[uV ⟨[104,116,116,112,115],c,j,pa,d,hq⟩] n (cN n (.string ⟨A.toArray⟩)) from fun n h=>by rw[←M];exact CJ ⟨[104,116,116,112,115],c,j,pa,d,hq⟩ n (I.out.next h.out) HL.out ⟨Y,Z⟩);clear M;rcases hq with _|_;all_goals
         first
         |(have a1:d=[]:=by(rcases Q.out with h|h;cases h;exact h)
           subst a1)
         |skip
         go_wp2_with fail;refine(qq _ w2 (I.out.next p.out).aq (by first|exact aH _|omega)).m ?_;rintro e n⟨rfl,D⟩;have an:=Lib.hid (aa.out.next D);have G:=Lib.hid (p.out.t (D.m p.out.size));rw[C];clear D q r s x y z;obtain⟨q,r,s,x,y,z⟩:=an.out.cells;simp only at q r s x y z;go_wp2_with fail
         go_loop [63] (fun i=>∃k:Nat,k≤c.length∧i=.int .i64 k) (fun i=>c.length-(intOf i).toNat)
         case atStart=>exact⟨0,aH _,rfl⟩
         case round=>
          obtain⟨k,hk,rfl⟩:=hrel;by_cases B:k<c.length
          ·have i1:(k:Int)<(c.length:Int):=by omega
           have i0:(0:Int)≤(k:Int):=by omega
           have ai:dA.contains (c[k]'B)=true:=by
            rw[show dA.contains (c[k]'B)=mh (c[k]'B) from congrFun od _]
            exact eV.1 ab.out _ (wI B)
           have ao:=Lib.hid ai;clear ai;go_wp2_with fail;refine(eO ⟨dA.toArray⟩ (c[k]'B) n).m ?_
           rintro e w4⟨rfl,rfl⟩;rw[ah (show(⟨dA.toArray⟩:ByteArray).data.toList.contains (c[k]'B)=true from ao.out)]
           generalize lead (·!=c[k]'B) (⟨dA.toArray⟩:ByteArray).data.toList=N at*
           have hm:=ay.out N;go_wp2_with fail
           go_round
           case rel=>exact⟨k+1,by omega,by go_num⟩
           case measure=>(simp[intOf]<;>omega)
          ·have i1:(c.length:Int)≤(k:Int):=by omega
           go_wp2_with fail;refine(am.out n G).m ?_;rintro e w4⟨rfl,af⟩;have ac:=Lib.hid (G.out.t (af.m G.out.size));clear af q r s x y z;by_cases X:A.length≤ee
           ·have l:=Lib.hid (ap.out X);unfold ee at X;have ht:(A.length:Int)≤1024:=by omega
            go_wp2_with fail;go_ret;exact⟨bW l.out.symm,ac.out⟩
           ·have l:=Lib.hid (av.out (by omega));unfold ee at X;have ht:(1024:Int)<(A.length:Int):=by omega
            go_wp2_with fail;go_ret;exact⟨bW l.out.symm,ac.out⟩
   ·have l:=Lib.hid (cV (yU (u:=⟨[104,116,116,112,115],c,j,pa,d,hq⟩) T));by_cases Y:j<0
    ·go_wp2_with fail;go_ret;exact⟨bW l.out.symm,o.out⟩
    ·have p0:0≤j:=by omega
     have Z:65535<j:=by omega
     clear T;go_wp2_with fail;go_ret;exact⟨bW l.out.symm,o.out⟩
 ·have l:=Lib.hid (cV (FF (u:=⟨[104,116,116,112,115],c,j,pa,d,hq⟩) J));by_cases H:c=[]
  ·subst H;go_enter Tryz.func14,Tryz.ntmps14;go_wp2_with fail;go_ret;exact⟨bW l.out.symm,F.out⟩
  ·have a2:c.isEmpty=false:=by cases c with|nil=>exact(H rfl).elim|cons a b=>rfl
   have k2:(253:Int)<(c.length:Int):=by have:0<c.length:=abb.2 H;omega
   clear J;go_enter Tryz.func14,Tryz.ntmps14;go_wp2_with fail;go_ret;exact⟨bW l.out.symm,F.out⟩
theorem kJ(u:U)(w:World)(i:GX w)(j:xv u):Calls Tryz.prog 14 #[uV u] w (cN w (.int .i64 (aQ u))):=by
 by_cases e:u.scheme=my
 ·obtain⟨d,a,b,pa,c,hq⟩:=u;obtain rfl:d=[104,116,116,112]:=e;exact IZ a pa c b hq w i j
 ·by_cases h:u.scheme=ir
  ·obtain⟨d,a,b,pa,c,hq⟩:=u;obtain rfl:d=[104,116,116,112,115]:=h;exact FI a pa c b hq w i j
  ·exact sQ u w e h
theorem pZ{u:U}(h:okB u=true):xv u:=by
 unfold okB at h;rw[cW,eM] at h;have a:=h.2;have f:=(ef u).1 h.1;unfold ee at a;unfold gU at a;simp only[bB] at a;have hq:u.query.length≤10000:=by
  rcases f.query with e|e
  ·rw[e] at a;simp at a;omega
  ·rw[e];exact aH _
 exact⟨by omega,by omega,by omega,hq⟩
theorem wa(u:U)(w:World)(p:GX w)(q:xv u):Calls Tryz.prog 34 #[uV u] w (cN w (.string ⟨(nE u).toArray⟩)):=by
 have r:=Lib.hid (sP w u);have i:=Lib.hid ((Below.refl w.heap.size w).alloc (ag _) (.cells #[.string ⟨u.scheme.toArray⟩,.string ⟨u.host.toArray⟩,.int .i64 u.port,.string ⟨u.path.toArray⟩,.string ⟨u.query.toArray⟩,.bool u.hq] 23));have l:=Lib.hid p;have n:=Lib.hid q;clear p q;go_enter Tryz.func34,Tryz.ntmps34;go_wp2_with fail;generalize w.alloc (.cells #[.string ⟨u.scheme.toArray⟩,.string ⟨u.host.toArray⟩,.int .i64 u.port,.string ⟨u.path.toArray⟩,.string ⟨u.query.toArray⟩,.bool u.hq] 23)=W at*;refine(kJ u W (l.out.next i.out) n.out).m ?_;rintro e z⟨rfl,j⟩;have s:=Lib.hid (r.out.next j);have a:=Lib.hid (i.out.t (j.m i.out.size));clear j;obtain⟨A,B,C,D,E,F⟩:=s.out.cells;by_cases b:aQ u=0
 ·have k:=(eC u).1 b;have d:=Lib.hid (show nE u=gU u by unfold nE;rw[k];rfl);have c:=k;unfold okB at c;rw[cW] at c;have x:=Lib.hid ((ef u).1 c.1).port;rw[b];clear b k c;go_wp2_with fail;refine(CJ u z (l.out.next a.out) n.out x.out).m ?_;rintro e G⟨rfl,o⟩;have y:=Lib.hid (a.out.t (o.m a.out.size));clear o;go_wp2_with fail;go_ret;exact⟨by rw[d.out];rfl,y.out⟩
 ·have d:=Lib.hid (show nE u=[] by
   have:okB u=false:=by cases h:okB u;rfl;exact(b ((eC u).2 h)).elim
   unfold nE;rw[this];rfl)
  go_wp2_with fail;go_ret;exact⟨by rw[d.out];rfl,a.out⟩
