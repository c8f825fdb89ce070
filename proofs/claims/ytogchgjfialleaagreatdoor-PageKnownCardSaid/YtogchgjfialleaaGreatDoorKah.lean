/- The tests' trees and the parser's box in memory. -/
import Derived.Test.YtogchgjfialleaaGreatDoorKag
import Derived.StillTail
set_option linter.unusedVariables false
set_option maxRecDepth 100000
set_option maxHeartbeats 4000000
namespace Go.Proofs.YtogchgjfialleaaGreatDoor
open Go.RowKit
abbrev dC(k:Int)(t:Bs)(u:bc)(kv:Value):List Value:=[.int .i64 k,.string ⟨t.toArray⟩,.int .i64 u.src,.int .i64 u.bJ,.string ⟨u.name.toArray⟩,.string ⟨u.key.toArray⟩,.string ⟨u.cK.toArray⟩,.bool u.hk,.bool u.hd,kv]
abbrev dY(k:Int)(t:Bs)(u:bc)(kv:Value):Value:=.agg #[.int .i64 k,.string ⟨t.toArray⟩,.int .i64 u.src,.int .i64 u.bJ,.string ⟨u.name.toArray⟩,.string ⟨u.key.toArray⟩,.string ⟨u.cK.toArray⟩,.bool u.hk,.bool u.hd,kv]
def eI(W:World)(b o:Nat)(l:List Value):Prop:=∀(j:Nat) (u:Value),l[j]? =some u→W.cell? ⟨b,o+j,none⟩=some u
theorem eI.cO{W W':World}{b o:Nat}{l:List Value}(h:eI W b o l)(a:W'.heap[b]? =W.heap[b]?):eI W' b o l:=fun j u c=>by have:=h j u c;unfold World.cell? at this⊢;show(match W'.heap[b]? with|_=>_)=_;rw[a];exact this
mutual
def dR (A:Nat→Prop) (W:World):Ex→Value→Prop
 |.mk k t u l,v=>∃kv,v=dY k t u kv∧((l=[]∧∃a c,kv=.slice a 0 c)∨∃b o c,kv=.slice (some ⟨b,o,none⟩) l.length c∧l.length≤c∧A b∧b<W.heap.size∧gn A W l b o)
def gn (A:Nat→Prop) (W:World):List Ex→Nat→Nat→Prop
 |[],_,_=>True
 |x::r,b,o=>(∃cs,dR A W x (.agg cs)∧eI W b o cs.toList)∧gn A W r b (o+10)
end
def PH(A:Nat→Prop)(W:World)(l:List Ex)(kv:Value):Prop:=(l=[]∧∃a c,kv=.slice a 0 c)∨∃b o c,kv=.slice (some ⟨b,o,none⟩) l.length c∧l.length≤c∧A b∧b<W.heap.size∧gn A W l b o
theorem pH{A:Nat→Prop}{W:World}{k:Int}{t:Bs}{u:bc}{l:List Ex}{v:Value}:dR A W (.mk k t u l) v↔∃kv,v=dY k t u kv∧PH A W l kv:=by rw[dR];rfl
theorem lr{A:Nat→Prop}{W:World}{x:Ex}{r:List Ex}{b o:Nat}:gn A W (x::r) b o↔(∃a,dR A W x (.agg a)∧eI W b o a.toList)∧gn A W r b (o+10):=by rw[gn]
theorem Bc{A:Nat→Prop}{W:World}{b o:Nat}:gn A W [] b o:=by rw[gn];trivial
mutual
theorem kG {A:Nat→Prop} {W W':World} (hs:W.heap.size≤W'.heap.size) (hk:∀b,A b→b<W.heap.size→W'.heap[b]? =W.heap[b]?):∀(x:Ex) (v:Value),dR A W x v→dR A W' x v
 |.mk k t u l,v,h=>by
  rw[dR] at h⊢;obtain⟨kv,hv,h⟩:=h;refine⟨kv,hv, ?_⟩;rcases h with h|⟨b,o,c,h1,h2,h3,h4,h5⟩
  ·exact .inl h
  ·exact .inr ⟨b,o,c,h1,h2,h3,ej h4 hs,yF hs hk l b o h3 h4 h5⟩
theorem yF {A:Nat→Prop} {W W':World} (hs:W.heap.size≤W'.heap.size) (hk:∀b,A b→b<W.heap.size→W'.heap[b]? =W.heap[b]?):∀(l:List Ex) (b o:Nat),A b→b<W.heap.size→gn A W l b o→gn A W' l b o
 |[],_,_,_,_,_=>by rw[gn];trivial
 |x::r,b,o,h1,h2,h=>by rw[gn] at h⊢;obtain⟨⟨cs,h3,h4⟩,h5⟩:=h;exact⟨⟨cs,kG hs hk x _ h3,h4.cO (hk b h1 h2)⟩,yF hs hk r b (o+10) h1 h2 h5⟩
end
theorem dR.next{A:Nat→Prop}{W W':World}{x:Ex}{v:Value}(h:dR A W x v)(a:Below W.heap.size W W'):dR A W' x v:=kG a.size (fun b _ h=>a.block b h) x v h
theorem dR.aN{A:Nat→Prop}{p:Nat}{W W':World}{x:Ex}{v:Value}(h:dR A W x v)(a:ak p W W')(i:¬A p):dR A W' x v:=
 kG a.size (fun b c d=>a.block b d (by intro e;cases e;exact i c)) x v h
mutual
theorem jJ {A A':Nat→Prop} {W:World} (hl:∀b,b<W.heap.size→A b→A' b):∀(x:Ex) (v:Value),dR A W x v→dR A' W x v
 |.mk k t u l,v,h=>by
  rw[dR] at h⊢;obtain⟨kv,hv,h⟩:=h;refine⟨kv,hv, ?_⟩;rcases h with h|⟨b,o,c,h1,h2,h3,h4,h5⟩
  ·exact .inl h
  ·exact .inr ⟨b,o,c,h1,h2,hl b h4 h3,h4,Fb hl l b o h5⟩
theorem Fb {A A':Nat→Prop} {W:World} (hl:∀b,b<W.heap.size→A b→A' b):∀(l:List Ex) (b o:Nat),gn A W l b o→gn A' W l b o
 |[],_,_,_=>by rw[gn];trivial
 |x::r,b,o,h=>by rw[gn] at h⊢;obtain⟨⟨cs,h3,h4⟩,h5⟩:=h;exact⟨⟨cs,jJ hl x _ h3,h4⟩,Fb hl r b (o+10) h5⟩
end
theorem nd(A:Nat→Prop)(W:World)(k:Int)(t:Bs)(u:bc):dR A W (.mk k t u []) (dY k t u (.slice none 0 0)):=pH.2 ⟨_,rfl,.inl ⟨rfl,_,_,rfl⟩⟩
theorem Cr(A:Nat→Prop)(W:World):dR A W sF (dY 0 [] aC (.slice none 0 0)):=nd A W 0 [] aC
def Cs(v:Value):Prop:=∃k t u a n c,v=dY k t u (.slice a n c)
theorem dR.F4{A:Nat→Prop}{W:World}{x:Ex}{v:Value}(h:dR A W x v):Cs v:=by
 obtain⟨k,t,u,l⟩:=x;obtain⟨kv,rfl,d⟩:=pH.1 h;rcases d with⟨_,a,c,rfl⟩|⟨b,o,c,rfl,_⟩
 ·exact⟨_,_,_,_,_,_,rfl⟩
 ·exact⟨_,_,_,_,_,_,rfl⟩
theorem pI{W:World}{b:Nat}{a:Array Value}{T:TypeId}{o:Nat}{l:List Value}(h:W.heap[b]? =some (.cells a T))(c:∀j u,l[j]? =some u→a[o+j]? =some u):eI W b o l:=fun j u d=>(tH _ _ _ _ _ _ h).trans (c j u d)
theorem PI{A:Nat→Prop}{W:World}{x:Ex}{a:Int}{c:Bs}{u1:bc}{b:Value}{T:TypeId}(k:Int)(i:dR A W x (dY a c u1 b))(d:A W.heap.size):
 dR A (W.alloc (.cells (dC a c u1 b).toArray T)) (ry k x) (dY k [] aC (.slice (some ⟨W.heap.size,0,none⟩) 1 1)):=by
 have e:=au W (.cells (dC a c u1 b).toArray T);refine pH.2 ⟨_,rfl,.inr ⟨W.heap.size,0,1,rfl,ag _,d,by rw[aO];omega, ?_⟩⟩;rw[lr];exact⟨⟨_,i.next ((ar _ _).alloc (ag _) _),pI e (fun j u h=>by simpa using h)⟩,Bc⟩
theorem Fc{A:Nat→Prop}{W:World}{x y:Ex}{b c:Int}{h i:Bs}{u1 u2:bc}{d e:Value}{T:TypeId}(k:Int)(o:dR A W x (dY b h u1 d))(p:dR A W y (dY c i u2 e))(n:A W.heap.size):
 dR A (W.alloc (.cells (dC b h u1 d++dC c i u2 e).toArray T)) (oA k x y) (dY k [] aC (.slice (some ⟨W.heap.size,0,none⟩) 2 2)):=by
 have m:=au W (.cells (dC b h u1 d++dC c i u2 e).toArray T);have l:=(ar W.heap.size W).alloc (ag _) (.cells (dC b h u1 d++dC c i u2 e).toArray T);refine pH.2 ⟨_,rfl,.inr ⟨W.heap.size,0,2,rfl,ag _,n,by rw[aO];omega, ?_⟩⟩;rw[lr,lr];refine⟨⟨_,o.next l,pI m (fun j u a=> ?_)⟩,⟨_,p.next l,pI m (fun j u a=> ?_)⟩,Bc⟩
 ·rw[List.getElem?_toArray,dH,qC (cH.1 a).1];exact a
 ·rw[List.getElem?_toArray,dH,jL (by simp)];simpa using a
def PB(W:World)(p:Nat)(s:Bs)(i op:Nat)(bad:Int):Prop:=W.heap[p]? =some (.cells #[.string ⟨s.toArray⟩,.int .i64 (i:Int),.int .i64 (op:Int),.int .i64 bad] 176)
structure PC (W:World) (p:Nat) (s:Bs) (i op:Nat) (bad:Int):Prop where
 c0:W.cell? ⟨p,0,none⟩=some (.string ⟨s.toArray⟩)
 c1:W.cell? ⟨p,1,none⟩=some (.int .i64 (i:Int))
 c2:W.cell? ⟨p,2,none⟩=some (.int .i64 (op:Int))
 c3:W.cell? ⟨p,3,none⟩=some (.int .i64 bad)
 f0:W.frozen? ⟨p,0,none⟩=false
 f1:W.frozen? ⟨p,1,none⟩=false
 f2:W.frozen? ⟨p,2,none⟩=false
 f3:W.frozen? ⟨p,3,none⟩=false
section
variable{W W':World}{p:Nat}{s:Bs}{i op:Nat}{bad:Int}
theorem PB.pc(h:PB W p s i op bad):PC W p s i op bad:=
 ⟨aj 0 h,aj 1 h,aj 2 h,aj 3 h,aF _ _ 0 _ _ h,aF _ _ 1 _ _ h,aF _ _ 2 _ _ h,aF _ _ 3 _ _ h⟩
theorem PB.lt(h:PB W p s i op bad):p<W.heap.size:=aV h.pc.c0
theorem PB.next(h:PB W p s i op bad)(a:Below W.heap.size W W'):PB W' p s i op bad:=(a.block p h.lt).trans h
theorem PB.iD(h:PB W p s i op bad)(x:Nat):PB (W.setCell ⟨p,1,none⟩ (.int .i64 (x:Int))) p s x op bad:=aw (j:=1) h
theorem PB.Dz(h:PB W p s i op bad)(x:Nat):PB (W.setCell ⟨p,2,none⟩ (.int .i64 (x:Int))) p s i x bad:=aw (j:=2) h
theorem PB.Gp(h:PB W p s i op bad)(x:Int):PB (W.setCell ⟨p,3,none⟩ (.int .i64 x)) p s i op x:=aw (j:=3) h
end
end Go.Proofs.YtogchgjfialleaaGreatDoor
namespace Go.Proofs.YtogchgjfialleaaGreatDoor
open Go.RowKit
abbrev VW(u:bc):Value:=.agg #[.int .i64 u.src,.int .i64 u.bJ,.string ⟨u.name.toArray⟩,.string ⟨u.key.toArray⟩,.string ⟨u.cK.toArray⟩,.bool u.hk,.bool u.hd]
structure BW (W:World) where
 val:World
 below:Below W.heap.size W val
theorem Bb{A:Nat→Prop}{W:World}:∀{l:List Ex} {b o i:Nat} {x:Ex},gn A W l b o→l[i]? =some x→∃a,dR A W x (.agg a)∧eI W b (o+i*10) a.toList
 |[],_,_,_,_,_,h=>by simp at h
 |y::r,b,o,0,x,h,c=>by simp at c;subst c;rw[lr] at h;exact h.1
 |y::r,b,o,i+1,x,h,c=>by rw[lr] at h;obtain⟨a,d,e⟩:=Bb h.2 (by simpa using c);exact⟨a,d,by rw[show o+(i+1)*10=o+10+i*10 by omega];exact e⟩
theorem fS{W:World}{b o:Nat}{k:Int}{t:Bs}{u:bc}{kv:Value}(h:eI W b o (dC k t u kv)):
 W.cell? ⟨b,o,none⟩=some (.int .i64 k)∧W.cell? ⟨b,o+1,none⟩=some (.string ⟨t.toArray⟩)∧W.cell? ⟨b,o+2,none⟩=some (.int .i64 u.src)∧W.cell? ⟨b,o+3,none⟩=some (.int .i64 u.bJ)∧W.cell? ⟨b,o+4,none⟩=some (.string ⟨u.name.toArray⟩)∧W.cell? ⟨b,o+5,none⟩=some (.string ⟨u.key.toArray⟩)∧W.cell? ⟨b,o+6,none⟩=some (.string ⟨u.cK.toArray⟩)∧W.cell? ⟨b,o+7,none⟩=some (.bool u.hk)∧W.cell? ⟨b,o+8,none⟩=some (.bool u.hd)∧W.cell? ⟨b,o+9,none⟩=some kv:=
 ⟨h 0 _ rfl,h 1 _ rfl,h 2 _ rfl,h 3 _ rfl,h 4 _ rfl,h 5 _ rfl,h 6 _ rfl,h 7 _ rfl,h 8 _ rfl,h 9 _ rfl⟩
theorem BW.next{W w':World}(B:BW W)(a:Below B.val.heap.size B.val w'):Below W.heap.size W w':=B.below.trans (a.mono B.below.size)
structure VX (W:World) (b o:Nat) (x:Ex) (k:Int) (t:Bs) (u:bc) (a:Option Addr) (n c:Nat):Prop where
 ex:∀B:BW W,dR (fun _=>True) B.val x (dY k t u (.slice a n c))
 c0:∀B:BW W,B.val.cell? ⟨b,o,none⟩=some (.int .i64 k)
 c1:∀B:BW W,B.val.cell? ⟨b,o+1,none⟩=some (.string ⟨t.toArray⟩)
 c2:∀B:BW W,B.val.cell? ⟨b,o+2,none⟩=some (.int .i64 u.src)
 c3:∀B:BW W,B.val.cell? ⟨b,o+3,none⟩=some (.int .i64 u.bJ)
 c4:∀B:BW W,B.val.cell? ⟨b,o+4,none⟩=some (.string ⟨u.name.toArray⟩)
 c5:∀B:BW W,B.val.cell? ⟨b,o+5,none⟩=some (.string ⟨u.key.toArray⟩)
 c6:∀B:BW W,B.val.cell? ⟨b,o+6,none⟩=some (.string ⟨u.cK.toArray⟩)
 c7:∀B:BW W,B.val.cell? ⟨b,o+7,none⟩=some (.bool u.hk)
 c8:∀B:BW W,B.val.cell? ⟨b,o+8,none⟩=some (.bool u.hd)
 c9:∀B:BW W,B.val.cell? ⟨b,o+9,none⟩=some (.slice a n c)
theorem dR.any{A:Nat→Prop}{W:World}{x:Ex}{v:Value}(h:dR A W x v):dR (fun _=>True) W x v:=jJ (fun _ _ _=>trivial) _ _ h
theorem nS{A:Nat→Prop}{w W:World}{l:List Ex}{b o i:Nat}{x:Ex}(h:gn A w l b o)(s:l[i]? =some x)(e:Below w.heap.size w W)(m:b<w.heap.size):
 ∃k t u a n c,VX W b (o+i*10) x k t u a n c:=by
 obtain⟨p,j,q⟩:=Bb h s;obtain⟨k,t,u,a,n,c,r⟩:=j.F4;obtain rfl:p=(dC k t u (.slice a n c)).toArray:=by injection r
 have d:∀B:BW W,eI B.val b (o+i*10) (dC k t u (.slice a n c)):=fun B=>q.cO ((B.below.block b (ej m e.size)).trans (e.block b m));exact⟨k,t,u,a,n,c,fun B=>((j.any).next e).next B.below,fun B=>(fS (d B)).1,fun B=>(fS (d B)).2.1,fun B=>(fS (d B)).2.2.1,fun B=>(fS (d B)).2.2.2.1,fun B=>(fS (d B)).2.2.2.2.1,fun B=>(fS (d B)).2.2.2.2.2.1,fun B=>(fS (d B)).2.2.2.2.2.2.1,fun B=>(fS (d B)).2.2.2.2.2.2.2.1,fun B=>(fS (d B)).2.2.2.2.2.2.2.2.1,fun B=>(fS (d B)).2.2.2.2.2.2.2.2.2⟩
theorem PG{A:Nat→Prop}{W:World}{l:List Ex}{kv:Value}{i:Nat}{x:Ex}(h:PH A W l kv)(k:l[i]? =some x):∃b o c,kv=.slice (some ⟨b,o,none⟩) l.length c∧l.length≤c∧b<W.heap.size∧gn A W l b o:=by
 rcases h with⟨rfl,_⟩|⟨b,o,c,a,d,m,e,j⟩
 ·simp at k
 ·exact⟨b,o,c,a,d,e,j⟩
end Go.Proofs.YtogchgjfialleaaGreatDoor
namespace Go.Proofs.YtogchgjfialleaaGreatDoor
open Go.RowKit
theorem yE{P:Program}(w:World)(base:Nat)(t m e:TypeId)(i:TypeInfo)(z:Value)(size bytes:Nat)(r:P.underlying t=some (.slice e))(o:P.info? e=some i)(D:i.zero=some z)
 (C:i.size=size)(A:i.bytes=bytes)(I:z.cells.size=size)(H:0<size)
 (v:Value)(n:Nat)(xs:List Value)(l:w.ownsRow base e size v n xs)
 (a:Addr)(c:Nat)(news:List Value)(h:news.length=1*size)(p:∀j u,news[j]? =some u→w.cell? (a.add j)=some u)(x:∀u∈news,u.oneCell'=true)
 (y:n+1≤maxLen)(B:(n+1)*bytes≤140737488355328)(L:base≤w.heap.size):
 ∃v' w',(Builtin.append_ #[t,t] m #[v,.slice (some a) 1 c]).run P w=.ok v' w'∧w'.ownsRow base e size v' (n+1) (xs++news)∧w.grownBy w' v.ownBlock∧(v'.ownBlock=v.ownBlock∨∃k,v'.ownBlock=some k∧w.heap.size≤k):=by
 obtain⟨v',w',q,J,K,R⟩:=run_append_own (P:=P) w base t m e i z size bytes r o D C A I H v n xs l a 1 c news h p x y B L;refine⟨v',w',q,J,K, ?_⟩;rcases l.2 with⟨rfl,rfl⟩|⟨g,cap,E,rfl,S,O,V,T,M,W⟩
 ·have Q:xs=[]:=jn (by simpa using l.1);subst Q;obtain⟨v2,X,b,F,_,_⟩:=run_append_own (P:=P) w w.heap.size t m e i z size bytes r o D C A I H (.slice none 0 0) 0 [] (jO w _ _ _) a 1 c news h p x y B (ag _);rw[q] at b;injection b with d s;subst d s;obtain⟨g,cap,rfl⟩:=se F;exact .inr ⟨g,rfl,(F.lt g rfl).1⟩
 ·subst C;subst A;by_cases G:n+1≤cap
  ·have N:n*i.size+news.length≤E.size:=by rw[h,M,←Nat.add_mul];exact Nat.mul_le_mul_right _ G
   have b:=run_append_room (P:=P) w t m e i r o g n cap E O a 1 c news h p x G N;rw[q] at b;injection b with d s;subst d;exact .inl rfl
  ·have holds:∀j u,xs[j]? =some u→w.cell? ((⟨g,0,none⟩:Addr).add j)=some u:=l.cells (g:=g) rfl;have b:=run_append_grow (P:=P) w t m e i z r o D ⟨g,0,none⟩ n cap xs l.1 holds a 1 c news h p (by omega) (by simp only[maxLen] at y;omega) (growslice_fits (by omega) B);rw[q] at b;injection b with d s;subst d;exact .inr ⟨w.heap.size,rfl,ag _⟩
theorem gM{P:Program}{ops:Array Oper}{o:Oper}{a:Act}{K:Act→World→Prop}{Q:Exit→Act→World→Prop}{E:Prop}{W:World}(A:o.guard=none)(s x:Operand)(t:TypeId)
 (H:o.op=.call {callee:=.builtin .append,args:=#[s,x],argTypes:=#[t,t]})
 (e:TypeId)(z:Value)(size bytes:Nat)(O:P.underlying t=some (.slice e))(C:(P.info? e).map (fun i=>(i.zero,i.size,i.bytes))=some (some z,size,bytes))
 (V:z.cells.size=size)(N:0<size)(base:Nat)(w:World)
 (v:Value)(n:Nat)(xs:List Value)(L:a.eval s=v)(I:w.ownsRow base e size v n xs)
 (b:List Value)(R:W=w.alloc (.cells b.toArray e))(Z:b.length=size)(S:a.eval x=.slice (some ⟨w.heap.size,0,none⟩) 1 1)(m:∀u∈b,u.oneCell'=true)
 (y:(n+1)*bytes≤140737488355328)(X:n+1≤140737488355328)(Y:base≤w.heap.size)
 (h:∀g cap w',w'.ownsRow base e size (.slice (some ⟨g,0,none⟩) (n+1) cap) (n+1) (xs++b)→(w.alloc (.cells b.toArray e)).grownBy w' v.ownBlock→(some g=v.ownBlock∨w.heap.size+1≤g)→
  K (a.put o.dst (.slice (some ⟨g,0,none⟩) (n+1) cap)) w'):
 if Region.wanted o (yielded ops a.tmps)=true then Oper.wp P o a W K Q else E:=by
 subst R;rw[ah (show Region.wanted o (yielded ops a.tmps)=true by simp[Region.wanted,A])];obtain⟨i,B,T,M,r⟩:=info_parts C;obtain⟨v',w',J,l,p,c⟩:=yE (P:=P) (w.alloc (.cells b.toArray e)) base t o.type e i z size bytes O B T M r V N v n xs (I.alloc _) ⟨w.heap.size,0,none⟩ 1 b (by omega) (by
  intro j u D;have F:b.toArray[j]? =some u:=by simpa using D
  have G:(w.alloc (.cells b.toArray e)).heap[w.heap.size]? =some (.cells b.toArray e):=au w _;have:((⟨w.heap.size,0,none⟩:Addr).add j)=⟨w.heap.size,j,none⟩:=by
   unfold Addr.add;by_cases d:j=0
   ·subst d;rfl
   ·rw[ae d];simp
  rw[this];unfold World.cell?;rw[show(w.alloc (.cells b.toArray e)).heap[(⟨w.heap.size,j,none⟩:Addr).block]? =_ from G];simpa using F) m (by unfold maxLen;omega) y (by simp;omega)
 unfold Oper.wp execOp;simp only[H,resolve,invoke,builtin,Sem.run_bind,Sem.run_pure,Result.andThen_ok,List.map_toArray,kg,List.map_nil,L,S,J];obtain⟨g,cap,rfl⟩:=se l;refine h g cap w' l p ?_;rcases c with c|⟨k,c,q⟩
 ·exact .inl c
 ·right;have:g=k:=by simpa[Value.ownBlock] using c
  subst this;rw[aO] at q;omega
end Go.Proofs.YtogchgjfialleaaGreatDoor
namespace Go.Proofs.YtogchgjfialleaaGreatDoor
open Go.RowKit
structure dX (W w':World) (b:Nat) (av av':Value):Prop where
 size:W.heap.size≤w'.heap.size
 block:∀k,k<W.heap.size→k≠b→some k≠av.ownBlock→w'.heap[k]? =W.heap[k]?
 own:av'.ownBlock=av.ownBlock∨∃g,av'.ownBlock=some g∧W.heap.size≤g
theorem dX.refl(W:World)(b:Nat)(av:Value):dX W W b av av:=⟨ag _,fun _ _ _ _=>rfl,.inl rfl⟩
theorem dX.next{W a c:World}{b:Nat}{av d:Value}(H:dX W a b av d)(h:Below a.heap.size a c):dX W c b av d:=
 ⟨bP H.size h.size,fun k e i j=>(h.block k (ej e H.size)).trans (H.block k e i j),H.own⟩
theorem dX.trans{W c d:World}{b:Nat}{av h i:Value}(H:dX W c b av h)(a:dX c d b h i):dX W d b av i:=by
 refine⟨bP H.size a.size,fun k j l m=> ?_, ?_⟩
 ·refine(a.block k (ej j H.size) l ?_).trans (H.block k j l m);rcases H.own with e|⟨g,e,n⟩
  ·rw[e];exact m
  ·rw[e];intro o;cases o;omega
 ·rcases a.own with e|⟨g,e,n⟩
  ·rw[e];exact H.own
  ·exact .inr ⟨g,e,bP H.size n⟩
end Go.Proofs.YtogchgjfialleaaGreatDoor
namespace Go.Proofs.YtogchgjfialleaaGreatDoor
section
variable{P:Program}{ops:Array Oper}{md:Region.Mode}{C:World→Prop}{n:Nat}{T:Act→Prop}
def US(md:Region.Mode)(ops:Array Oper)(n:Nat)(listed:Array Bool):Prop:=Region.ready md ops listed=[n]∧Region.ready md ops (listed.setIfInBounds n true)=[]
def td(P:Program)(md:Region.Mode)(ops:Array Oper)(C:World→Prop)(n:Nat)(T:Act→Prop):Nat→Array Bool→Act→Prop
 |0,listed,a=>US md ops n listed∧T a
 |f+1,listed,a=>n∉Region.ready md ops listed∧Region.ready md ops listed≠[]∧∀i∈Region.ready md ops listed,qOp P ops C i (td P md ops C n T f (listed.setIfInBounds i true)) a
theorem vC{Q:Exit→Act→World→Prop}(j:∀a w,T a→C w→wpOp P ops Q n (fun b w'=>Q .normal b w') a w):∀(f:Nat) (listed:Array Bool) (a:Act) (w:World),C w→td P md ops C n T f listed a→wpAny P md ops Q (f+1) listed a w
 |0,listed,a,w,e,h=>by
  refine⟨fun c=>(by rw[h.1.1] at c;cases c),fun i d=> ?_⟩;rw[h.1.1] at d;obtain rfl:i=n:=by simpa using d
  exact wpOp_mono (fun b w' hq=>⟨h.1.2,hq⟩) (j a w h.2 e)
 |f+1,listed,a,w,e,h=>⟨fun c=>absurd c h.2.1,fun i d=>wpOp_of_qOp e (fun b w' l k=>vC j f _ b w' l k) (h.2.2 i d)⟩
def yI(md:Region.Mode)(ops:Array Oper)(listed:Array Bool):Prop:=∀j a,ops[j]? =some a→listed.getD j false=true→∀e∈a.after,Region.binds md e=true→listed.getD e.on false=true
theorem yI.set{listed:Array Bool}{i:Nat}(h:yI md ops listed)(n:i∈Region.ready md ops listed):yI md ops (listed.setIfInBounds i true):=by
 obtain⟨_,p,o,m⟩:=mem_ready.1 n;intro j l d k e b a;by_cases c:i=j
 ·subst c;obtain rfl:l=p:=iS (d.symm.trans o);exact getD_set_true (m e b a)
 ·rw[getD_set_ne false c] at k;exact getD_set_true (h j l d k e b a)
theorem SI{listed:Array Bool}{j:Nat}(h:listed.getD j false=true):listed.getD j true=true:=by
 by_cases a:j<listed.size
 ·simp[a] at h⊢;exact h
 ·simp[Kl (Nat.le_of_not_lt a)] at h
theorem LY(l:Region.sinkB md ops n=true){listed:Array Bool}(p:yI md ops listed)(t:n∈Region.ready md ops listed):∀(d j:Nat),n-j=d→j<n→listed.getD j false=true:=by
 obtain⟨_,on,u,o⟩:=mem_ready.1 t;intro d;induction d using Nat.strongRecOn with
 |_ d w=>
  intro j x q;unfold Region.sinkB at l;have m:=eV.1 l j (List.mem_range.2 q);obtain⟨k,r,a⟩:=lF.1 m;rw[cW,eM] at a;have z:k<n+1:=List.mem_range.1 r;obtain⟨ok,i,e,c,b,h⟩:=Region.waitsFor_spec a.2;rcases Nat.lt_or_ge k n with s|y
  ·have:=p k ok i (w (n-k) (by omega) k rfl s) e c b;rw[h] at this;exact this
  ·obtain rfl:k=n:=by omega
   obtain rfl:ok=on:=iS (i.symm.trans u);have:=o e c b;rw[h] at this;exact this
theorem II{i:Nat}{t:Oper}{v:Value}(x:ops[i]? =some t)(G:∀(j:Nat) (o:Oper) r b,ops[j]? =some o→o.op≠.select r b)(O:i<n)
 (S:Region.sinkB md ops n=true):
 ∀(f:Nat) (listed:Array Bool) (a:Act),yI md ops listed→
  (∀j p,ops[j]? =some p→j≠i→listed.getD j true=false→(∀e∈p.after,Region.binds md e=true→e.on≠i)→t.apart ops p=true)→
  i∈Region.ready md ops listed→YieldsIn P ops C t v a→
  td P md ops C n T f (listed.setIfInBounds i true) (a.put t.dst v)→td P md ops C n T (f+1) listed a:=by
 have z:∀listed,yI md ops listed→i∈Region.ready md ops listed→n∉Region.ready md ops listed:=fun listed m c V=>by have u:=SI (LY S m V _ i rfl O);rw[(mem_ready.1 c).1] at u;cases u
 intro f;induction f with
 |zero=>
  intro listed a m _ c w H;refine⟨z listed m c,fun h=>(by rw[h] at c;cases c),fun j q=> ?_⟩;by_cases d:j=i
  ·subst d;exact w.qOp x H
  ·have F:=ready_mono q d;rw[H.1.1] at F;obtain rfl:j=n:=by simpa using F
   exact absurd q (z listed m c)
 |succ f Y=>
  intro listed a m A c w H;refine⟨z listed m c,fun h=>(by rw[h] at c;cases c),fun j q=> ?_⟩;by_cases d:j=i
  ·subst d;exact w.qOp x H
  ·have u:=H.2.2 j (ready_mono q d);obtain⟨D,p,y,K⟩:=mem_ready.1 q;have I:=(mem_ready.1 c).1;have X:∀e∈p.after,Region.binds md e=true→e.on≠i:=fun e M L N=>by
    have l:=K e M L;rw[N] at l;by_cases s:i<listed.size
    ·simp[s] at I l;rw[I] at l;cases l
    ·simp[Kl (Nat.le_of_not_lt s)] at l
   have l:=qOp_put y (A j p y d D X) (fun r b=>G i t r b x) (fun r b=>G j p r b y) w u;refine qOp_mono (fun J s=>Y (listed.setIfInBounds j true) J (m.set q) (fun k ok Q R E W=>A k ok Q R ?_ W) (ready_mono c (eo d)) s.1 ?_) l
   ·by_cases B:j=k
    ·subst B;exact D
    ·rw[getD_set_ne true B] at E;exact E
   ·rw[Array.setIfInBounds_comm _ _ d];exact s.2
def qm(md:Region.Mode)(ops:Array Oper)(n:Nat):Nat→Nat→Array Bool→Bool
 |0,_,listed=>decide (Region.ready md ops listed=[n])&&decide (Region.ready md ops (listed.setIfInBounds n true)=[])
 |f+1,k,listed=>(Region.ready md ops listed).contains k&&Region.free md ops listed k&&decide (k<n)&&qm md ops n f (k+1) (listed.setIfInBounds k true)
theorem Ff(p:Region.noSelect ops=true)(e:Region.sinkB md ops n=true):∀(l:List Oper) (k:Nat) (listed:Array Bool) (a:Act),yI md ops listed→(∀j,j<l.length→l[j]? =ops[k+j]?)→
 qm md ops n l.length k listed=true→wpQuiet P ops C T l a→td P md ops C n T l.length listed a
 |[],_,listed,a,_,_,b,h=>by simp only[lH,qm,cW,eM] at b;exact⟨⟨b.1,b.2⟩,h⟩
 |o::l,k,listed,a,d,i,b,h=>by
  have c:ops[k]? =some o:=by have:=i 0 (by simp);simpa using this.symm
  simp only[bF,qm,cW,eM] at b;obtain⟨⟨⟨m,s⟩,u⟩,q⟩:=b;have w:qOp P ops C k (wpQuiet P ops C T l) a:=by unfold qOp;simp only[c];exact h
  obtain⟨v,x,r⟩:=yieldsIn_of_qOp c w;exact II c (Region.noSelect_spec p) u e l.length listed a d (Region.free_spec c s) (by simpa using m) x
   (Ff p e l (k+1) _ _ (d.set (by simpa using m)) (fun j t=>by have:=i (j+1) (by simpa using t);simpa[oh,Nat.add_comm 1 j] using this) q r)
theorem yJ{id:Nat}{Q:Exit→Act→World→Prop}{a:Act}{w:World}{l:List Oper}{o:Oper}(q:P.follows .mixedOrders=true)(C:World→Prop)(k:C w.drew)
 (s:Region.noSelect (l++[o]).toArray=true)(u:Region.sinkB .any (l++[o]).toArray l.length=true)(c:qm .any (l++[o]).toArray l.length l.length 0 (Array.replicate (l++[o]).toArray.size false)=true)
 (h:wpQuiet P (l++[o]).toArray C (fun b=>∀w',C w'→if Region.wanted o (yielded (l++[o]).toArray b.tmps)=true then Oper.wp P o b w' (fun i y=>Q .normal i y) Q else Q .normal (b.put o.dst undef) w') l a):(Code.region id (l++[o]).toArray true).wp P Q a w:=by
 refine wp_region_any q ?_;have t:(l++[o]).toArray.size=l.length+1:=by simp
 rw[t] at c⊢;refine vC (C:=C) (n:=l.length) (fun b w' m x=> ?_) l.length _ a _ k (Ff s u l 0 _ a (fun j z _ d=>by rw[getD_replicate_false] at d;cases d) (fun j p=>by simp[qC p]) c h);have:=m w' x;have r:(l++[o]).toArray[l.length]? =some o:=by simp
 unfold wpOp;simp only[r];by_cases e:Region.wanted o (yielded (l++[o]).toArray b.tmps)=true
 ·rw[ah e] at this⊢;exact .inl this
 ·rw[ae e] at this⊢;exact this
theorem aY{id:Nat}{Q:Exit→Act→World→Prop}{a:Act}{w:World}{L:List Oper}{o:Oper}{e:Type}(n:Nat)(f:e→World)(d:e)(m:w.drew=f d)(q:P.follows .mixedOrders=true)
 (r:(L.take n).length=n)(p:L.drop n=[o])(s:Region.noSelect L.toArray=true)(t:Region.sinkB .any L.toArray n=true)(j:qm .any L.toArray n n 0 (Array.replicate L.toArray.size false)=true)
 (h:wpQuiet P L.toArray (fun w'=>∃b,w'=f b) (fun c=>∀w',(∃b,w'=f b)→if Region.wanted o (yielded L.toArray c.tmps)=true then Oper.wp P o c w' (fun i u=>Q .normal i u) Q else Q .normal (c.put o.dst undef) w') (L.take n) a):(Code.region id L.toArray true).wp P Q a w:=by
 have k:L=L.take n++[o]:=by rw[←p,List.take_append_drop]
 generalize L.take n=l at*;subst k;subst r;exact yJ q (fun w'=>∃b,w'=f b) ⟨d,m⟩ s t j h
end
end Go.Proofs.YtogchgjfialleaaGreatDoor
namespace Go.Proofs.YtogchgjfialleaaGreatDoor
open Go.RowKit
theorem gp(w:World)(p:Nat)(s:Bs)(i op:Nat)(bad a:Int)(h:PB w p s i op bad):
 Calls Tryz.prog 113 #[.pointer (some ⟨p,0,none⟩),.int .i64 a] w fun e w'=>e=.returned (.tuple #[])∧PB w' p s i op (if bad=0 then a else bad)∧ak p w w':=by
 have c:=ad h;obtain⟨-,-,-,j,-,-,-,k⟩:=h.pc;clear h;rcases dT (bad=0) with rfl|b
 ·go_enter Tryz.func113,Tryz.ntmps113;go_wp2_with fail
  go_end0
  exact⟨rfl,c.out.Gp a,(ak.refl p w).set⟩
 ·have q:(bad==0)=false:=aL.2 b;have d:=ad b;clear b;go_enter Tryz.func113,Tryz.ntmps113;go_wp2_with fail
  go_end0
  exact⟨rfl,c.out,ak.refl p w⟩
theorem Ds:∀(j:Nat) (b:UInt8),(⟨#[32,9,10,13]⟩:ByteArray).data.toList[j]? =some b→b.toNat<128:=by intro j b h;have:b∈([32,9,10,13]:Bs):=eQ h;simp only[bL,uK,or_false] at this;rcases this with rfl|rfl|rfl|rfl<;>decide
theorem Dt(d:Bs):Lib.trimLeftS (⟨d.toArray⟩:ByteArray).data.toList (⟨#[32,9,10,13]⟩:ByteArray).data.toList=d.dropWhile mE:=Cl d G5 mE An
structure PW (w:World) (p:Nat) (s:Bs) (i op:Nat) where
 val:World
 pb:PB val p s i op 0
 aN:ak p w val
theorem LZ(s:Bs){i:Nat}(a:i≤s.length):∃(d r:Bs) (n:Nat),(⟨s.toArray⟩:ByteArray).extract i s.length=⟨d.toArray⟩∧d.length+i=s.length∧d.dropWhile mE=r∧rs s i=r∧r.length≤d.length∧pa s i=n∧(i:Int)+((d.length:Int)-(r.length:Int))=(n:Int):=by
 refine⟨s.drop i,rs s i,pa s i,ic s i s.length (ag _),by rw[bK];omega,rfl,rfl, ?_,rfl, ?_⟩
 ·exact cB mE (s.drop i)
 ·have b:=nP s a;have c:=cY s i;have e:=jP s a;rw[bK];omega
theorem dF(w:World)(p:Nat)(s:Bs)(i op:Nat)(u:i≤s.length)(R:s.length≤100000)(h:PB w p s i op 0):
 Calls Tryz.prog 112 #[.pointer (some ⟨p,0,none⟩)] w fun e w'=>e=.returned (.string ⟨(rs s i).toArray⟩)∧PB w' p s (pa s i) op 0∧ak p w w':=by
 have k:=ad (show PB w.drew p s i op 0 from h);obtain⟨c,j,-,B,-,C,-,-⟩:=h.pc;have D:w.drew.cell? ⟨p,0,none⟩=some (.string ⟨s.toArray⟩):=c;have E:w.drew.cell? ⟨p,1,none⟩=some (.int .i64 (i:Int)):=j;obtain⟨d,r,n,F,N,t,y,Q,x,z⟩:=LZ s u;have A:=ad t;have m:=ad y;have b:=ad x;have S:(0:Int)≤(i:Int):=by omega
 have T:(i:Int)≤(s.length:Int):=by omega
 have K:IntKind.i64.wrap ((d.length:Int)-(r.length:Int))=(d.length:Int)-(r.length:Int):=IntWalk.i64_in _ (by omega);have L:IntKind.i64.wrap ((i:Int)+((d.length:Int)-(r.length:Int)))=(n:Int):=by rw[z];exact IntWalk.i64_in _ (by omega)
 clear h t y x z;go_enter Tryz.func112,Tryz.ntmps112;go_wp2_with fail;have H:∀W:PW w p s i op,W.val.cell? ⟨p,0,none⟩=some (.string ⟨s.toArray⟩):=fun W=>W.pb.pc.c0;have I:∀W:PW w p s i op,W.val.cell? ⟨p,1,none⟩=some (.int .i64 (i:Int)):=fun W=>W.pb.pc.c1;have J:∀W:PW w p s i op,W.val.frozen? ⟨p,1,none⟩=false:=fun W=>W.pb.pc.f1
 haveI:Nonempty (PW w p s i op):=⟨⟨w.drew,k.out,⟨rfl,rfl,rfl,ag _,fun _ _ _=>rfl⟩⟩⟩
 clear c j B C D E;refine aY 29 (fun W:PW w p s i op=>W.val) ⟨w.drew,k.out,⟨rfl,rfl,rfl,ag _,fun _ _ _=>rfl⟩⟩ rfl (by kernel_rfl) (by rfl) (by rfl) (by kernel_rfl) (by kernel_rfl) (by kernel_rfl) ?_;simp only[ki,kL];repeat(quiet_step ((go_at_call 76;refine(fw ⟨d.toArray⟩ ⟨#[32,9,10,13]⟩ _ (by decide) Ds).mono ?_;rintro e v1⟨rfl,o⟩;rw[Dt,A.out];exact⟨rfl,⟨v1,PB.next (PW.pb _) o,(PW.aN _).trans (ak.ai o)⟩,rfl⟩)))
 refine wpQuiet_nil ?_;rintro w'⟨W,rfl⟩;rw[ah (by rfl)];have l:=ad (W.pb.iD n);have a:=ad (show ak p w (W.val.setCell ⟨p,1,none⟩ (.int .i64 (n:Int))) from W.aN.set);have O:n≤s.length:=by rw[←b.out];exact cY s i
 have q:s.drop n=r:=by rw[←b.out,sZ s u,m.out]
 have G:=ic s n s.length (ag _);rw[q] at G;have V:(0:Int)≤(n:Int):=by omega
 have n1:(n:Int)≤(s.length:Int):=by omega
 clear K L q F;go_simp;generalize W.val.setCell ⟨p,1,none⟩ (.int .i64 (n:Int))=M at*;clear H I J;obtain⟨c,j,-,-,-,-,-,-⟩:=l.out.pc;go_wp2_with fail
 go_quiet (fail)
 go_wp2_with fail;go_ret;exact⟨by rw[m.out];rfl,by rw[b.out];exact l.out,⟨a.out.os,a.out.tape,a.out.output,a.out.size,a.out.block⟩⟩
end Go.Proofs.YtogchgjfialleaaGreatDoor
namespace Go.Proofs.YtogchgjfialleaaGreatDoor
open Go.RowKit
theorem iQ(w:World)(p:Nat)(s:Bs)(i op:Nat)(bad:Int)(k:i≤s.length)(l:s.length≤100000)(a:bad≠0)(h:PB w p s i op bad):
 Calls Tryz.prog 112 #[.pointer (some ⟨p,0,none⟩)] w fun e w'=>e=.returned (.string ⟨(s.drop i).toArray⟩)∧PB w' p s i op bad∧ak p w w':=by
 have b:=ad h;obtain⟨c,d,-,j,-,-,-,-⟩:=h.pc;have q:(bad==0)=false:=aL.2 a;have m:=ic s i s.length (ag _);have n:(0:Int)≤(i:Int):=by omega
 have o:(i:Int)≤(s.length:Int):=by omega
 clear h a;go_enter Tryz.func112,Tryz.ntmps112;go_wp2_with fail
 go_quiet (fail)
 go_wp2_with fail;go_ret;exact⟨rfl,b.out,⟨rfl,rfl,rfl,ag _,fun _ _ _=>rfl⟩⟩
theorem qo(w:World)(p:Nat)(s:Bs)(i op:Nat)(bad:Int)(t:ByteArray)(a:bad≠0)(h:PB w p s i op bad):
 Calls Tryz.prog 199 #[.pointer (some ⟨p,0,none⟩),.string t] w fun e w'=>e=.returned (.bool false)∧PB w' p s i op bad∧ak p w w':=by
 have b:=ad h;obtain⟨-,-,-,c,-,-,-,-⟩:=h.pc;have q:(bad==0)=false:=aL.2 a;have d:(bad !=0)=true:=by rw[bne,q];rfl
 clear h a;go_enter Tryz.func199,Tryz.ntmps199;go_wp2_with fail;go_ret;exact⟨rfl,b.out,ak.refl p w⟩
theorem fM(w:World)(p:Nat)(s:Bs)(i op:Nat)(t:Bs)(y:i≤s.length)(A:s.length≤100000)(E:t.length≤100)(h:PB w p s i op 0):
 Calls Tryz.prog 199 #[.pointer (some ⟨p,0,none⟩),.string ⟨t.toArray⟩] w fun e w'=>e=.returned (.bool (Lib.hasPrefix (rs s i) t))∧PB w' p s (bif Lib.hasPrefix (rs s i) t then pa s i+t.length else pa s i) op 0∧ak p w w':=by
 have k:=ad h;obtain⟨-,-,-,x,-,-,-,-⟩:=h.pc;have z:=cY s i;clear h;go_enter Tryz.func199,Tryz.ntmps199;go_wp2_with fail;refine(dF w p s i op y A k.out).mono ?_;rintro e B⟨rfl,q,u⟩;have a:=ad q;have o:=ad u;clear q u x k;obtain⟨r,j⟩:∃r,rs s i=r:=⟨_,rfl⟩;rw[j];have m:=ad j;obtain⟨n,d⟩:∃n,pa s i=n:=⟨_,rfl⟩;rw[d] at a z;have l:=ad d;clear j d;obtain⟨-,C,-,-,-,D,-,-⟩:=a.out.pc;go_wp2_with fail;refine(cj ⟨r.toArray⟩ ⟨t.toArray⟩ B).mono ?_;rintro e F⟨rfl,rfl⟩;rw[show Lib.hasPrefix (⟨r.toArray⟩:ByteArray).data.toList (⟨t.toArray⟩:ByteArray).data.toList=Lib.hasPrefix r t from rfl];cases b:Lib.hasPrefix r t
 ·have c:=ad b;clear b;go_wp2_with fail;go_ret;rw[m.out,c.out,l.out];exact⟨rfl,a.out,o.out⟩
 ·have c:=ad b;clear b;go_wp2_with fail;go_ret;rw[m.out,c.out,l.out];exact⟨rfl,a.out.iD (n+t.length),o.out.set⟩
theorem tf(w:World)(p:Nat)(s:Bs)(i op:Nat)(bad:Int)(j:op<16)(h:PB w p s i op bad):
 Calls Tryz.prog 200 #[.pointer (some ⟨p,0,none⟩)] w fun e w'=>e=.returned (.tuple #[])∧PB w' p s i (op+1) bad∧ak p w w':=by
 have b:=ad h;obtain⟨-,-,c,-,-,-,d,-⟩:=h.pc;have k:=(h.Dz (op+1)).pc.c2;have a:=ad (h.Dz (op+1));have o1:¬(16:Int)<(op:Int)+1:=by omega
 clear h;go_enter Tryz.func200,Tryz.ntmps200;go_wp2_with fail
 go_end0
 exact⟨rfl,a.out,(ak.refl p w).set⟩
theorem pL(w:World)(p:Nat)(s:Bs)(i op:Nat)(y:1≤i)(z:i≤1000000)(m:op=16)(h:PB w p s i op 0):
 Calls Tryz.prog 200 #[.pointer (some ⟨p,0,none⟩)] w fun e w'=>e=.returned (.tuple #[])∧PB w' p s (i-1) (op+1) 3∧ak p w w':=by
 subst m;have n:=ad h;obtain⟨-,r,t,-,-,u,x,-⟩:=h.pc;have o:=ad (h.Dz 17);have a:=(h.Dz 17).iD (i-1);rw[show((i-1:Nat):Int)=(i:Int)-1 by omega] at a;have c:=gp _ p s (i-1) 17 0 3 a;have q:=ad a;have k:=ad c;clear c;clear h a;go_enter Tryz.func200,Tryz.ntmps200;go_wp2_with fail;refine k.out.mono ?_;rintro e A⟨rfl,b,d⟩;have j:=ad b;have l:=ad (((ak.refl p w).set.set).trans d);clear b d;go_wp2_with fail
 go_end0
 exact⟨rfl,j.out,l.out⟩
end Go.Proofs.YtogchgjfialleaaGreatDoor
