/- The walks of a row where something is wrong, of the row's maker, and of an or. -/
import Derived.Test.YtlemddnecmmfgaaGreatDoorKaf
set_option linter.unusedVariables false
set_option maxRecDepth 100000
set_option maxHeartbeats 4000000
namespace Go.Proofs.YtlemddnecmmfgaaGreatDoor
open Go.RowKit
variable{e:Array aaL}{r D:Bs}{J:Ex}{j L:Int}{d B C E H:Nat}{Q:Nat→cG}{A:Option Addr}{a:TypeId}{i:UInt8}{l I:aaK}{n:aaL}{y:bc}{G:cG}
def GP(p:Nat)(W:aaK):Prop:=Good W∧0<p
theorem GP.aN{p:Nat}{W W':aaK}(h:GP p W)(a:ak p W W'):GP p W':=⟨h.1.aN a h.2,h.2⟩
def du(n:Nat):Nat→Prop:=fun b=>n≤b
def gP(W:aaK)(p:Nat)(s:Bs)(op:Nat)(A:Nat→Prop):cG→aaL→Prop
 |.aq x t,v=>(∃a:Nat,a≤s.length∧t≤s.length∧rs s a=rs s t∧PB W p s a op 0)∧dR A W x v
 |.ay q e,v=>e≠0∧q≤s.length∧PB W p s q op e∧Cs v
theorem gP.F4{W:aaK}{p:Nat}{s:Bs}{op:Nat}{A:Nat→Prop}{g:cG}{v:aaL}(h:gP W p s op A g v):Cs v:=by
 cases g with
 |aq x t=>exact h.2.F4
 |ay q e=>exact h.2.2.2
def XE(f:FuncId)(vs:Array aaL)(p:Nat)(s:Bs)(op:Nat)(g:Nat→cG)(K:aaK→Prop):Prop:=
 ∀(w:aaK) (i:Nat),i≤s.length→K w→PB w p s i op 0→Calls Tryz.prog f vs w fun e w'=>∃v,e=.returned v∧ak p w w'∧gP w' p s op (du w.heap.size) (g i) v
def iC(f:FuncId)(vs:Array aaL)(p:Nat)(s:Bs)(K:aaK→Prop):Prop:=
 ∀(w:aaK) (i op:Nat) (bad:Int),i≤s.length→bad≠0→K w→PB w p s i op bad→Calls Tryz.prog f vs w fun e w'=>∃v,e=.returned v∧ak p w w'∧PB w' p s i op bad∧Cs v
structure uw (W:aaK) (p b1 b2 b3 b4:Nat) (fv:aaL) (sg:UInt8) (kind:Int):Prop where
 c1:W.cell? ⟨b1,0,none⟩=some fv
 c2:W.cell? ⟨b2,0,none⟩=some (.pointer (some ⟨p,0,none⟩))
 c3:W.cell? ⟨b3,0,none⟩=some (.string ⟨#[sg]⟩)
 c4:W.cell? ⟨b4,0,none⟩=some (.int .i64 kind)
 n1:b1≠p
 n2:b2≠p
 n3:b3≠p
 n4:b4≠p
theorem qp{W W':aaK}{p b j:Nat}{v:aaL}(h:W.cell? ⟨b,j,none⟩=some v)(i:ak p W W')(a:b≠p):W'.cell? ⟨b,j,none⟩=some v:=by have d:=aV h;have c:=i.block b d (by intro e;cases e;exact a rfl);unfold World.cell? at h⊢;show(match W'.heap[b]? with|_=>_)=_;rw[c];exact h
theorem uw.aN{W W':aaK}(h:uw W d B C E H n i j)(a:ak d W W'):uw W' d B C E H n i j:=
 ⟨qp h.c1 a h.n1,qp h.c2 a h.n2,qp h.c3 a h.n3,qp h.c4 a h.n4,h.n1,h.n2,h.n3,h.n4⟩
def Be(p:Nat)(s:Bs)(W:aaK):Nat:=
 match W.cell? ⟨p,3,none⟩,W.cell? ⟨p,1,none⟩ with
 |some (.int _ 0),some (.int _ n)=>1+(s.length-pa s n.toNat)
 |_,_=>0
theorem Bf(h:PB l d r B C 0):Be d r l=1+(r.length-pa r B):=by unfold Be;rw[h.pc.c3,h.pc.c1];rfl
theorem PM(h:PB l d r B C j)(b:j≠0):Be d r l=0:=by
 unfold Be;rw[h.pc.c3,h.pc.c1];split
 ·rename_i a _;cases a;exact absurd rfl b
 ·rfl
structure RI (w W:aaK) (p b:Nat) (s:Bs) (op:Nat) (one:Nat→cG) (kind:Int) (sg:UInt8) (F:cG) (k:Int) (t:Bs) (u:bc) (a:Option Addr) (n c:Nat):Prop where
 aN:ak p w W
 far:w.heap.size≤b
 box:W.heap[b]? =some (.cells (dC k t u (.slice a n c)).toArray 171)
 res:(∃(q tt m:Nat) (x:Ex),PB W p s q op 0∧q≤s.length∧tt≤s.length∧rs s q=rs s tt∧dR (fun z=>w.heap.size≤z∧z≠b) W x (dY k t u (.slice a n c))∧F=kp one kind sg s m x tt∧s.length<tt+m)∨(∃(q:Nat) (e:Int),PB W p s q op e∧e≠0∧q≤s.length∧F=.ay q e)
theorem aM(h:l.heap[d]? =some (.cells (dC j r y n).toArray a)):
 l.cell? ⟨d,0,none⟩=some (.int .i64 j)∧l.cell? ⟨d,1,none⟩=some (.string ⟨r.toArray⟩)∧l.cell? ⟨d,2,none⟩=some (.int .i64 y.src)∧l.cell? ⟨d,3,none⟩=some (.int .i64 y.bJ)∧l.cell? ⟨d,4,none⟩=some (.string ⟨y.name.toArray⟩)∧l.cell? ⟨d,5,none⟩=some (.string ⟨y.key.toArray⟩)∧l.cell? ⟨d,6,none⟩=some (.string ⟨y.cK.toArray⟩)∧l.cell? ⟨d,7,none⟩=some (.bool y.hk)∧l.cell? ⟨d,8,none⟩=some (.bool y.hd)∧l.cell? ⟨d,9,none⟩=some n:=
 ⟨tH _ _ 0 _ _ _ h,tH _ _ 1 _ _ _ h,tH _ _ 2 _ _ _ h,tH _ _ 3 _ _ _ h,tH _ _ 4 _ _ _ h,tH _ _ 5 _ _ _ h,tH _ _ 6 _ _ _ h,tH _ _ 7 _ _ _ h,tH _ _ 8 _ _ _ h,tH _ _ 9 _ _ _ h⟩
theorem aJ(h:l.heap[d]? =some (.cells e a)):
 l.frozen? ⟨d,0,none⟩=false∧l.frozen? ⟨d,1,none⟩=false∧l.frozen? ⟨d,2,none⟩=false∧l.frozen? ⟨d,3,none⟩=false∧l.frozen? ⟨d,4,none⟩=false∧l.frozen? ⟨d,5,none⟩=false∧l.frozen? ⟨d,6,none⟩=false∧l.frozen? ⟨d,7,none⟩=false∧l.frozen? ⟨d,8,none⟩=false∧l.frozen? ⟨d,9,none⟩=false:=
 ⟨aF _ _ 0 _ _ h,aF _ _ 1 _ _ h,aF _ _ 2 _ _ h,aF _ _ 3 _ _ h,aF _ _ 4 _ _ h,aF _ _ 5 _ _ h,aF _ _ 6 _ _ h,aF _ _ 7 _ _ h,aF _ _ 8 _ _ h,aF _ _ 9 _ _ h⟩
theorem aR{v1 v2 c e i j k m o:aaL}(h:l.heap[d]? =some (.cells #[n,v1,v2,c,e,i,j,k,m,o] a)):
 l.cell? ⟨d,0,none⟩=some n∧l.cell? ⟨d,1,none⟩=some v1∧l.cell? ⟨d,2,none⟩=some v2∧l.cell? ⟨d,3,none⟩=some c∧l.cell? ⟨d,4,none⟩=some e∧l.cell? ⟨d,5,none⟩=some i∧l.cell? ⟨d,6,none⟩=some j∧l.cell? ⟨d,7,none⟩=some k∧l.cell? ⟨d,8,none⟩=some m∧l.cell? ⟨d,9,none⟩=some o:=
 ⟨tH _ _ 0 _ _ _ h,tH _ _ 1 _ _ _ h,tH _ _ 2 _ _ _ h,tH _ _ 3 _ _ _ h,tH _ _ 4 _ _ _ h,tH _ _ 5 _ _ _ h,tH _ _ 6 _ _ _ h,tH _ _ 7 _ _ _ h,tH _ _ 8 _ _ _ h,tH _ _ 9 _ _ _ h⟩
theorem vD{b j:Nat}{v:aaL}(h:l.cell? ⟨b,j,none⟩=some v)(O:Obj):(l.alloc O).cell? ⟨b,j,none⟩=some v:=by have a:=aV h;unfold World.cell? at h⊢;show(match(l.alloc O).heap[b]? with|_=>_)=_;rw[((ar l.heap.size l).alloc (ag _) O).block b a];exact h
theorem aG{o:Obj}(h:l.heap[d]? =some o)(O:Obj):(l.alloc O).heap[d]? =some o:=(((ar l.heap.size l).alloc (ag _) O).block d (aB.1 h).1).t h
theorem Zb(h:l.heap[d]? =some (.cells (dC j r y n).toArray a)):
 (∀O,(l.alloc O).cell? ⟨d,0,none⟩=some (.int .i64 j))∧(∀O,(l.alloc O).cell? ⟨d,1,none⟩=some (.string ⟨r.toArray⟩))∧(∀O,(l.alloc O).cell? ⟨d,2,none⟩=some (.int .i64 y.src))∧(∀O,(l.alloc O).cell? ⟨d,3,none⟩=some (.int .i64 y.bJ))∧(∀O,(l.alloc O).cell? ⟨d,4,none⟩=some (.string ⟨y.name.toArray⟩))∧(∀O,(l.alloc O).cell? ⟨d,5,none⟩=some (.string ⟨y.key.toArray⟩))∧(∀O,(l.alloc O).cell? ⟨d,6,none⟩=some (.string ⟨y.cK.toArray⟩))∧(∀O,(l.alloc O).cell? ⟨d,7,none⟩=some (.bool y.hk))∧(∀O,(l.alloc O).cell? ⟨d,8,none⟩=some (.bool y.hd))∧(∀O,(l.alloc O).cell? ⟨d,9,none⟩=some (n)):=
 ⟨fun O=>tH _ _ 0 _ _ _ (aG h O),fun O=>tH _ _ 1 _ _ _ (aG h O),fun O=>tH _ _ 2 _ _ _ (aG h O),fun O=>tH _ _ 3 _ _ _ (aG h O),fun O=>tH _ _ 4 _ _ _ (aG h O),fun O=>tH _ _ 5 _ _ _ (aG h O),fun O=>tH _ _ 6 _ _ _ (aG h O),fun O=>tH _ _ 7 _ _ _ (aG h O),fun O=>tH _ _ 8 _ _ _ (aG h O),fun O=>tH _ _ 9 _ _ _ (aG h O)⟩
theorem PN(h:l.heap[d]? =some (.cells e a)):
 (∀O,(l.alloc O).frozen? ⟨d,0,none⟩=false)∧(∀O,(l.alloc O).frozen? ⟨d,1,none⟩=false)∧(∀O,(l.alloc O).frozen? ⟨d,2,none⟩=false)∧(∀O,(l.alloc O).frozen? ⟨d,3,none⟩=false)∧(∀O,(l.alloc O).frozen? ⟨d,4,none⟩=false)∧(∀O,(l.alloc O).frozen? ⟨d,5,none⟩=false)∧(∀O,(l.alloc O).frozen? ⟨d,6,none⟩=false)∧(∀O,(l.alloc O).frozen? ⟨d,7,none⟩=false)∧(∀O,(l.alloc O).frozen? ⟨d,8,none⟩=false)∧(∀O,(l.alloc O).frozen? ⟨d,9,none⟩=false):=
 ⟨fun O=>aF _ _ 0 _ _ (aG h O),fun O=>aF _ _ 1 _ _ (aG h O),fun O=>aF _ _ 2 _ _ (aG h O),fun O=>aF _ _ 3 _ _ (aG h O),fun O=>aF _ _ 4 _ _ (aG h O),fun O=>aF _ _ 5 _ _ (aG h O),fun O=>aF _ _ 6 _ _ (aG h O),fun O=>aF _ _ 7 _ _ (aG h O),fun O=>aF _ _ 8 _ _ (aG h O),fun O=>aF _ _ 9 _ _ (aG h O)⟩
abbrev dO(W:aaK)(b:Nat)(k:Int)(t:Bs)(u:bc)(kv:aaL):aaK:=
 (((((((((W.setCell ⟨b,0,none⟩ (.int .i64 k)).setCell ⟨b,1,none⟩ (.string ⟨t.toArray⟩)).setCell ⟨b,2,none⟩ (.int .i64 u.src)).setCell ⟨b,3,none⟩ (.int .i64 u.bJ)).setCell ⟨b,4,none⟩ (.string ⟨u.name.toArray⟩)).setCell ⟨b,5,none⟩ (.string ⟨u.key.toArray⟩)).setCell ⟨b,6,none⟩ (.string ⟨u.cK.toArray⟩)).setCell ⟨b,7,none⟩ (.bool u.hk)).setCell ⟨b,8,none⟩ (.bool u.hd)).setCell ⟨b,9,none⟩ kv
theorem aK{k:Int}{t:Bs}{u:bc}{kv v0 v1 v2 w x y z A B C:aaL}(h:l.heap[d]? =some (.cells #[v0,v1,v2,w,x,y,z,A,B,C] a)):(dO l d k t u kv).heap[d]? =some (.cells (dC k t u kv).toArray a):=by have c:=aw (j:=0) (v:=.int .i64 k) h;simp only[jM,jN] at c;have e:=aw (j:=1) (v:=.string ⟨t.toArray⟩) c;simp only[jM,jN,kh] at e;have i:=aw (j:=2) (v:=.int .i64 u.src) e;simp only[jM,jN,kh] at i;have m:=aw (j:=3) (v:=.int .i64 u.bJ) i;simp only[jM,jN,kh] at m;have n:=aw (j:=4) (v:=.string ⟨u.name.toArray⟩) m;simp only[jM,jN,kh] at n;have o:=aw (j:=5) (v:=.string ⟨u.key.toArray⟩) n;simp only[jM,jN,kh] at o;have p:=aw (j:=6) (v:=.string ⟨u.cK.toArray⟩) o;simp only[jM,jN,kh] at p;have q:=aw (j:=7) (v:=.bool u.hk) p;simp only[jM,jN,kh] at q;have r:=aw (j:=8) (v:=.bool u.hd) q;simp only[jM,jN,kh] at r;have s:=aw (j:=9) (v:=kv) r;simp only[jM,jN,kh] at s;exact s
theorem dx(W:aaK)(b:Nat)(k:Int)(t:Bs)(u:bc)(kv:aaL):ak b W (dO W b k t u kv):=(ak.refl b W).set.set.set.set.set.set.set.set.set.set
theorem iH{w W W':aaK}(h:ak d w W)(a:ak B W W')(j:w.heap.size≤B):ak d w W':=
 ⟨a.os.t h.os,a.tape.t h.tape,a.output.t h.output,bP h.size a.size,fun k c i=>(a.block k (ej c h.size) (by intro e;cases e;omega)).t (h.block k c i)⟩
theorem PB.aN{W W':aaK}(h:PB W d r C E j)(a:ak B W W')(c:d≠B):PB W' d r C E j:=(a.block d h.lt (by intro e;cases e;exact c rfl)).t h
theorem gP.aN{W W':aaK}{p b:Nat}{s:Bs}{op:Nat}{A:Nat→Prop}{g:cG}{v:aaL}(h:gP W p s op A g v)(a:ak b W W')(c:p≠b)(m:¬A b):gP W' p s op A g v:=by
 cases g with
 |aq x t=>obtain⟨⟨q,d,i,j,k⟩,l⟩:=h;exact⟨⟨q,d,i,j,k.aN a c⟩,l.aN a m⟩
 |ay q e=>exact⟨h.1,h.2.1,h.2.2.1.aN a c,h.2.2.2⟩
theorem gP.VY{A A':Nat→Prop}{v:aaL}(h:gP l d r B A G v)(a:∀z,z<l.heap.size→A z→A' z):gP l d r B A' G v:=by
 cases G with
 |aq x t=>exact⟨h.1,jJ a _ _ h.2⟩
 |ay q e=>exact h
theorem J4{w W0 e:aaK}{p b op:Nat}{F:cG}(l:ak p w e)(o:p<w.heap.size)(q:W0.heap.size=w.heap.size+1)(m:gP e p r op (fun z=>W0.heap.size≤z∧z≠b) F (dY j D y (.slice A d B))):
 ak p w (dO e w.heap.size j D y (.slice A d B))∧gP (dO e w.heap.size j D y (.slice A d B)) p r op (du w.heap.size) F (dY j D y (.slice A d B)):=by
 have i:=dx e w.heap.size j D y (.slice A d B);refine⟨iH l i (ag _),(m.aN i (by omega) (by omega)).VY (fun z _ h=> ?_)⟩;show w.heap.size≤z;omega
def PO(one:Nat→cG)(kind:Int)(sg:UInt8)(s:Bs)(m:Nat)(x:Ex):cG→cG
 |.ay p e=>.ay p e
 |.aq y a=>kp one kind sg s m (oA kind x y) a
theorem Zc(h:Lib.hasPrefix (rs r B) [i]=true):kp Q j i r (d+1) J B=PO Q j i r d J (Q (pa r B+1)):=by
 conv=>lhs;rw[kp,h]
 rw[aS];cases Q (pa r B+1)<;>rfl
theorem PQ(h:Lib.hasPrefix (rs r B) [i]=false):kp Q j i r (d+1) J B=.aq J B:=by
 conv=>lhs;rw[kp,h]
 rfl
theorem SJ{o:aaK}{op:Nat}{M:Int}{N:Bs}{u u2:bc}{a2:Option Addr}{n c n2 w:Nat}
 (hT:ak d l I)(a4:d<l.heap.size)(hb:l.heap.size≤B)(ab:I.heap[B]? =some (.cells (dC L D u (.slice A n c)).toArray 171))(hx:dR (fun z=>l.heap.size≤z∧z≠B) I J (dY L D u (.slice A n c)))
 (Z:ak d I o)(Y:gP o d r op (du I.heap.size) (Q (pa r C+1)) (dY M N u2 (.slice a2 n2 w)))(af:Fits r (pa r C+1) (Q (pa r C+1)))(hF:G=PO Q j i r H J (Q (pa r C+1)))(a3:r.length<E+(H+1))(hq:pa r C=pa r E)(a5:pa r C+1≤r.length)(av:E≤r.length):
 RI l (dO (o.alloc (.cells (dC L D u (.slice A n c)++dC M N u2 (.slice a2 n2 w)).toArray 171)) B j [] aC (.slice (some ⟨o.heap.size,0,none⟩) 2 2)) d B r op Q j i G j [] aC (some ⟨o.heap.size,0,none⟩) 2 2∧
 Be d r (dO (o.alloc (.cells (dC L D u (.slice A n c)++dC M N u2 (.slice a2 n2 w)).toArray 171)) B j [] aC (.slice (some ⟨o.heap.size,0,none⟩) 2 2))<1+(r.length-pa r C):=by
 have aa:d≠B:=by omega
 have ao:B<I.heap.size:=(aB.1 ab).1;have X:Below o.heap.size o (o.alloc (.cells (dC L D u (.slice A n c)++dC M N u2 (.slice a2 n2 w)).toArray 171)):=(ar _ _).alloc (ag _) _;have W:=dx (o.alloc (.cells (dC L D u (.slice A n c)++dC M N u2 (.slice a2 n2 w)).toArray 171)) B j [] aC (.slice (some ⟨o.heap.size,0,none⟩) 2 2);have al:o.heap[B]? =_:=(Z.block B ao (by intro e;cases e;exact aa rfl)).t ab;have ap:=(X.block B (aB.1 al).1).t al;have a6:=hT.size;have a7:=Z.size;have ac:=aK (k:=j) (t:=[]) (u:=aC) (kv:=.slice (some ⟨o.heap.size,0,none⟩) 2 2) ap;have am:=iH ((hT.t Z).t (ak.ai X)) W hb;cases ho:Q (pa r C+1) with
 |aq y O=>
  rw[ho] at Y af hF;obtain⟨⟨q2,R,S,V,h4⟩,h5⟩:=Y;have hf:pa r C+1<O∧O≤r.length:=af;have K:=(h4.next X).aN W aa;have aU:dR (fun z=>l.heap.size≤z∧z≠B) o J _:=hx.aN Z (by omega);have a0:dR (fun z=>l.heap.size≤z∧z≠B) o y _:=jJ (fun z _ h=>by have:I.heap.size≤z:=h;omega) _ _ h5;have an:=Fc (T:=171) j aU a0 ⟨by omega,by omega⟩;have a1:=jP r av;refine⟨⟨am,hb,ac,.inl ⟨q2,O,H,oA j J y,K,R,S,V,an.aN W (by omega),hF,by omega⟩⟩, ?_⟩;rw[Bf K];have h6:pa r q2=pa r O:=by unfold pa;rw[V]
  have h7:=jP r S;have h8:=cY r O;omega
 |ay q2 e=>rw[ho] at Y hF;obtain⟨R,S,V,h4⟩:=Y;have K:=(V.next X).aN W aa;refine⟨⟨am,hb,ac,.inr ⟨q2,e,K,R,S,hF⟩⟩, ?_⟩;rw[PM K R];omega
theorem PR{kind:Int}{sg:UInt8}(J:ak d l I)(O:d<l.heap.size)(h:gP I d r C (du l.heap.size) (Q B) (dY j D y (.slice A E H))):
 RI l (I.alloc (.cells (dC j D y (.slice A E H)).toArray 171)) d I.heap.size r C Q kind sg (rz Q kind sg r B) j D y A E H:=by
 have b:=(ar I.heap.size I).alloc (ag _) (.cells (dC j D y (.slice A E H)).toArray 171);refine⟨J.t (ak.ai b),J.size,au I _, ?_⟩;unfold rz;cases G:Q B with
 |aq x M=>rw[G] at h;obtain⟨⟨q,m,o,w,F⟩,K⟩:=h;exact .inl ⟨q,M,r.length+1,x,F.next b,m,o,w,(jJ (fun z N L=>⟨L,by omega⟩) _ _ K).next b,rfl,by omega⟩
 |ay q e=>rw[G] at h;obtain⟨m,o,w,F⟩:=h;exact .inr ⟨q,e,w.next b,m,o,rfl⟩
theorem RI.cells(h:RI l I d B r C Q j i G L D y A E H):
 I.cell? ⟨B,0,none⟩=some (.int .i64 L)∧I.cell? ⟨B,1,none⟩=some (.string ⟨D.toArray⟩)∧I.cell? ⟨B,2,none⟩=some (.int .i64 y.src)∧I.cell? ⟨B,3,none⟩=some (.int .i64 y.bJ)∧I.cell? ⟨B,4,none⟩=some (.string ⟨y.name.toArray⟩)∧I.cell? ⟨B,5,none⟩=some (.string ⟨y.key.toArray⟩)∧I.cell? ⟨B,6,none⟩=some (.string ⟨y.cK.toArray⟩)∧I.cell? ⟨B,7,none⟩=some (.bool y.hk)∧I.cell? ⟨B,8,none⟩=some (.bool y.hd)∧I.cell? ⟨B,9,none⟩=some (.slice A E H):=
 ⟨tH _ _ 0 _ _ _ h.box,tH _ _ 1 _ _ _ h.box,tH _ _ 2 _ _ _ h.box,tH _ _ 3 _ _ _ h.box,tH _ _ 4 _ _ _ h.box,tH _ _ 5 _ _ _ h.box,tH _ _ 6 _ _ _ h.box,tH _ _ 7 _ _ _ h.box,tH _ _ 8 _ _ _ h.box,tH _ _ 9 _ _ _ h.box⟩
theorem SK(w:aaK)(p b1 b2 b3 b4:Nat)(s:Bs)(i op:Nat)(f:FuncId)(fi ca:Array aaL)(one:Nat→cG)(kind:Int)(sg:UInt8)(K:aaK→Prop)(hi:i≤s.length)(hs:s.length≤100000)
 (he:∀(vs:Array aaL) (w:aaK),(callFunc f vs).run Tryz.prog w=.ok (.enter f vs) w)(hR:XE f (fi++ca) p s op one K)(hk:∀W W',K W→ak p W W'→K W')(hF:jV s one)(bg:K w)(a4:uw w p b1 b2 b3 b4 (.func (.func f) fi ca) sg kind)(h:PB w p s i op 0):
 Calls Tryz.prog 208 #[.pointer (some ⟨b1,0,none⟩),.pointer (some ⟨b2,0,none⟩),.pointer (some ⟨b3,0,none⟩),.pointer (some ⟨b4,0,none⟩)] w fun e w'=>∃v,e=.returned v∧ak p w w'∧Hid (gP w' p s op (du w.heap.size) (rz one kind sg s i) v):=by
 have Y:ak p w (w.alloc (.cells #[.int .i64 0,.string ⟨#[]⟩,.int .i64 0,.int .i64 0,.string ⟨#[]⟩,.string ⟨#[]⟩,.string ⟨#[]⟩,.bool false,.bool false,.slice none 0 0] 171)):=ak.ai ((ar _ _).alloc (ag _) _);have aU:=ad (au w (.cells #[.int .i64 0,.string ⟨#[]⟩,.int .i64 0,.int .i64 0,.string ⟨#[]⟩,.string ⟨#[]⟩,.string ⟨#[]⟩,.bool false,.bool false,.slice none 0 0] 171));have HB:=ad (show PB (w.alloc (.cells #[.int .i64 0,.string ⟨#[]⟩,.int .i64 0,.int .i64 0,.string ⟨#[]⟩,.string ⟨#[]⟩,.string ⟨#[]⟩,.bool false,.bool false,.slice none 0 0] 171)) p s i op 0 from h.next ((ar _ _).alloc (ag _) _));have HR:=ad hR;have bs:=ad hk;have HF:=ad hF;have HK:=ad (hk _ _ bg Y);have be:=ad (a4.aN Y);have r:=ad h.lt;obtain⟨d1,d2,E,G,-,-,-,-⟩:=a4.aN Y;have bf:=ad Y;clear h hR hk hF bg a4 Y;go_enter Tryz.func208,Tryz.ntmps208;go_wp2_with fail;refine(HR.o _ i hi HK.o HB.o).m ?_;rintro e w1⟨v,rfl,al,a6⟩;obtain⟨Z,t0,u0,a0,n0,D,rfl⟩:=a6.F4;have b8:=ad (show w1.heap[w.heap.size]? =_ from(al.block w.heap.size (by rw[aO];omega) (by have:=r.o;intro e;cases e;omega)).t aU.o);have d:=ad (PR (kind:=kind) (sg:=sg) al (by rw[aO];have:=r.o;omega) a6);have ap:=ad (show p<w1.heap.size from by have:=al.size;rw[aO] at this;have:=r.o;omega);clear al a6 HB d1 d2 E G;generalize bi:rz one kind sg s i=F at*;have a9:=ad bi;clear bi;generalize a8:w.alloc (.cells #[.int .i64 0,.string ⟨#[]⟩,.int .i64 0,.int .i64 0,.string ⟨#[]⟩,.string ⟨#[]⟩,.string ⟨#[]⟩,.bool false,.bool false,.slice none 0 0] 171)=W0 at*;have cb:=ad a8;have C:=ad (show W0.heap.size=w.heap.size+1 by rw[←a8,aO]);clear a8;go_wp2_with fail;generalize w1.alloc (.cells (dC Z t0 u0 (.slice a0 n0 D)).toArray 171)=W1 at*;generalize w1.heap.size=b at*
 go_loopw [] (fun wr=>∃(k:Int) (t:Bs) (u:bc) (a:Option Addr) (n c:Nat),Hid (RI W0 wr p b s op one kind sg F k t u a n c)) (fun wr=>Be p s wr)
 case atStart=>exact⟨_,_,_,_,_,_,d⟩
 case round=>
  clear d;obtain⟨k,t,u,a,n,c,d⟩:=hrel;have b6:=ad (be.o.aN d.o.aN);obtain⟨d1,d2,E,G,-,-,-,-⟩:=b6.o;rcases d.o.res with⟨q,tt,an,x,H,I,h3,X,h5,h6,h7⟩|⟨q,e,H,I,h3,X⟩
  ·obtain⟨an,rfl⟩:∃m',an=m'+1:=⟨an-1,by omega⟩;have bx:=ad H;have ac:=ad X;have HX:=ad h5;have bb:=ad h6;have bv:=ad (Bf H);clear H X h5 h6;go_wp2_with fail;refine(fM wr p s q op [sg] I hs (by simp) bx.o).m ?_;rintro e l⟨rfl,y,j⟩;have b9:=ad j;have aa:=ad (j.block b (aV d.o.cells.1) (by have:=ap.o;intro e;cases e;omega));cases A:Lib.hasPrefix (rs s q) [sg]
   ·rw[A] at y;have ao:=ad (show PB l p s (pa s q) op 0 from y);have HP:=ad A;have av:=ad (show l.heap[b]? =_ from aa.o.t d.o.box);have B:=ad (show l.heap[w.heap.size]? =_ from((d.o.aN.t j).block w.heap.size (by have:=C.o;omega) (by have:=r.o;intro e;cases e;omega)).t aU.o);obtain⟨D,L,M,N,O,Q,R,S,T,V⟩:=aM av.o;obtain⟨f0,f1,f2,f3,f4,f5,f6,f7,f8,f9⟩:=aJ B.o;obtain⟨g0,g1,g2,g3,g4,g5,g6,g7,g8,g9⟩:=aR B.o;have hF:F=.aq x tt:=by rw[bb.o,PQ (by rw[←ac.o];exact A)]
    have J:=ad (J4 (w:=w) (W0:=W0) (b:=b) (F:=F) ((bf.o.t d.o.aN).t j) r.o C.o (by rw[hF];exact⟨⟨pa s q,cY s q,h3,(fL s I).t ac.o,ao.o⟩,HX.o.aN j (by have:=C.o;have:=r.o;omega)⟩));have a1:=ad (aK (k:=k) (t:=t) (u:=u) (kv:=.slice a n c) B.o);clear y j A hF;go_wp2_with fail;clear D L M N O Q R S T V f0 f1 f2 f3 f4 f5 f6 f7 f8 f9 g0 g1 g2 g3 g4 g5 g6 g7 g8 g9 d1 d2 E G;obtain⟨Z,k1,k2,k3,k4,k5,k6,k7,k8,k9⟩:=aM a1.o;refine aD (v:=dY k t u (.slice a n c)) ?_ rfl ⟨_,rfl,J.o.1,ad (by rw[a9.o];exact J.o.2)⟩;simp[results,Tryz.f208,go_sem,Z,k1,k2,k3,k4,k5,k6,k7,k8,k9]
   ·rw[A] at y;have af:=nR I A;simp only[mF] at af;have ao:=ad (show PB l.drew p s (pa s q+1) op 0 from y);have a5:pa s q=pa s tt:=by unfold pa;rw[ac.o]
    have bn:=ad (show F=PO one kind sg s an x (one (pa s q+1)) by rw[bb.o,Zc (by rw[←ac.o];exact A),a5]);have bJ:=ad a5;have bp:=ad (HF.o (pa s q+1) af);have a3:=ad (show ak p W0 l.drew from(d.o.aN.t j).t ⟨rfl,rfl,rfl,ag _,fun _ _ _=>rfl⟩);have br:=ad (bs.o _ _ HK.o a3.o);have bd:=ad (be.o.aN a3.o);have ab:=ad (show l.drew.heap[b]? =_ from aa.o.t d.o.box);have b7:=ad (show dR (fun z=>W0.heap.size≤z∧z≠b) l.drew x (dY k t u (.slice a n c)) from kG (W:=l) (W':=l.drew) (ag _) (fun _ _ _=>rfl) _ _ (HX.o.aN j (by have:=C.o;have:=r.o;omega)));have b0:=ad (show p<W0.heap.size by have:=C.o;have:=r.o;omega);have bl:=ad (show b<l.drew.heap.size from(aB.1 ab.o).1);have bm:=ad (show some b≠some p by have:=ap.o;intro e;cases e;omega);clear d1 d2 E G y j A a5;obtain⟨d1,d2,E,G,-,-,-,-⟩:=bd.o;obtain⟨D,L,M,N,O,Q,R,S,T,V⟩:=aM ab.o;go_wp2_with fail;go_region_law
     ((go_simp;refine(HR.o _ _ af br.o ao.o).m ?_;rintro e w3⟨v2,rfl,am,a7⟩;obtain⟨k2,t2,u2,a2,n2,cc,rfl⟩:=a7.F4;have HN:=ad (SJ a3.o b0.o d.o.far ab.o b7.o am a7 bp.o bn.o h7 bJ.o af h3);have b5:=ad (bd.o.aN am);have ay:=ad ((am.block b bl.o bm.o).t ab.o);clear am a7;obtain⟨x1,x2,x3,x4,-,-,-,-⟩:=b5.o;have x5:=vD x4;obtain⟨y0,y1,y2,y3,y4,y5,y6,y7,y8,y9⟩:=aM ay.o;obtain⟨z0,z1,z2,z3,z4,z5,z6,z7,z8,z9⟩:=PN ay.o;obtain⟨q0,q1,q2,q3,q4,q5,q6,q7,q8,q9⟩:=Zb ay.o))
    all_goals
     clear d1 d2 E G D L M N O Q R S T V x1 x2 x3 x4 x5 y0 y1 y2 y3 y4 y5 y6 y7 y8 y9 z0 z1 z2 z3 z4 z5 z6 z7 z8 z9 q0 q1 q2 q3 q4 q5 q6 q7 q8 q9;go_wp2_with fail
     go_roundw
     case rel=>exact⟨kind,[],aC,some ⟨w3.heap.size,0,none⟩,2,2,ad HN.o.1⟩
     case measure=>(rw[bv.o];exact HN.o.2)
  ·have bk:=ad H;have bo:=ad X;clear H X;go_wp2_with fail;refine(qo wr p s q op e ⟨#[sg]⟩ I bk.o).m ?_;rintro e2 l⟨rfl,y,j⟩;have aa:=ad (j.block b (aV d.o.cells.1) (by have:=ap.o;intro e;cases e;omega));have av:=ad (show l.heap[b]? =_ from aa.o.t d.o.box);have B:=ad (show l.heap[w.heap.size]? =_ from((d.o.aN.t j).block w.heap.size (by have:=C.o;omega) (by have:=r.o;intro e;cases e;omega)).t aU.o);obtain⟨D,L,M,N,O,Q,R,S,T,V⟩:=aM av.o;obtain⟨f0,f1,f2,f3,f4,f5,f6,f7,f8,f9⟩:=aJ B.o;obtain⟨g0,g1,g2,g3,g4,g5,g6,g7,g8,g9⟩:=aR B.o;have J:=ad (J4 (w:=w) (W0:=W0) (b:=b) (F:=F) ((bf.o.t d.o.aN).t j) r.o C.o (by rw[bo.o];exact⟨I,h3,y,⟨k,t,u,a,n,c,rfl⟩⟩));have a1:=ad (aK (k:=k) (t:=t) (u:=u) (kv:=.slice a n c) B.o);clear y j;go_wp2_with fail;clear D L M N O Q R S T V f0 f1 f2 f3 f4 f5 f6 f7 f8 f9 g0 g1 g2 g3 g4 g5 g6 g7 g8 g9 d1 d2 E G;obtain⟨Z,k1,k2,k3,k4,k5,k6,k7,k8,k9⟩:=aM a1.o;refine aD (v:=dY k t u (.slice a n c)) ?_ rfl ⟨_,rfl,J.o.1,ad (by rw[a9.o];exact J.o.2)⟩;simp[results,Tryz.f208,go_sem,Z,k1,k2,k3,k4,k5,k6,k7,k8,k9]
end Go.Proofs.YtlemddnecmmfgaaGreatDoor
namespace Go.Proofs.YtlemddnecmmfgaaGreatDoor
open Go.RowKit
variable{b:Bs}{j:FuncId}{d e r:Nat}{l q:aaK}{a:aaK→Prop}
theorem Fg(w:aaK)(p b1 b2 b3 b4:Nat)(s:Bs)(i op:Nat)(bad:Int)(f:FuncId)(fi ca:Array aaL)(kind:Int)(sg:UInt8)(K:aaK→Prop)(hi:i≤s.length)(Q:bad≠0)
 (he:∀(vs:Array aaL) (w:aaK),(callFunc f vs).run Tryz.prog w=.ok (.enter f vs) w)(N:iC f (fi++ca) p s K)(R:∀W W',K W→ak p W W'→K W')(M:K w)(D:uw w p b1 b2 b3 b4 (.func (.func f) fi ca) sg kind)(h:PB w p s i op bad):
 Calls Tryz.prog 208 #[.pointer (some ⟨b1,0,none⟩),.pointer (some ⟨b2,0,none⟩),.pointer (some ⟨b3,0,none⟩),.pointer (some ⟨b4,0,none⟩)] w fun e w'=>∃v,e=.returned v∧ak p w w'∧Hid (PB w' p s i op bad∧Cs v):=by
 have j:ak p w (w.alloc (.cells #[.int .i64 0,.string ⟨#[]⟩,.int .i64 0,.int .i64 0,.string ⟨#[]⟩,.string ⟨#[]⟩,.string ⟨#[]⟩,.bool false,.bool false,.slice none 0 0] 171)):=ak.ai ((ar _ _).alloc (ag _) _);have Y:=ad (au w (.cells #[.int .i64 0,.string ⟨#[]⟩,.int .i64 0,.int .i64 0,.string ⟨#[]⟩,.string ⟨#[]⟩,.string ⟨#[]⟩,.bool false,.bool false,.slice none 0 0] 171));have F:=ad (show PB (w.alloc (.cells #[.int .i64 0,.string ⟨#[]⟩,.int .i64 0,.int .i64 0,.string ⟨#[]⟩,.string ⟨#[]⟩,.string ⟨#[]⟩,.bool false,.bool false,.slice none 0 0] 171)) p s i op bad from h.next ((ar _ _).alloc (ag _) _));have Z:=ad N;have G:=ad Q;have X:=ad (R _ _ M j);have aa:=ad (D.aN j);have z:=ad h.lt;obtain⟨d1,d2,A,B,-,-,-,-⟩:=D.aN j;have J:=ad j;clear h N R M D j Q;go_enter Tryz.func208,Tryz.ntmps208;go_wp2_with fail;refine(Z.o _ i op bad hi G.o X.o F.o).m ?_;rintro e d⟨v,rfl,r,E,af⟩;obtain⟨k,t,u,a,n,c,rfl⟩:=af;have q:ak p d (d.alloc (.cells (dC k t u (.slice a n c)).toArray 171)):=ak.ai ((ar _ _).alloc (ag _) _);have S:=ad (show PB (d.alloc (.cells (dC k t u (.slice a n c)).toArray 171)) p s i op bad from E.next ((ar _ _).alloc (ag _) _));have ac:=ad (J.o.t (r.t q));have I:=ad (show(d.alloc (.cells (dC k t u (.slice a n c)).toArray 171)).heap[w.heap.size]? =_ from((r.t q).block w.heap.size (by rw[aO];omega) (by have:=z.o;intro e;cases e;omega)).t Y.o);have L:=ad (au d (.cells (dC k t u (.slice a n c)).toArray 171));have T:=ad (show some d.heap.size≠some p by have:=E.lt;intro e;cases e;omega);clear d1 d2 A B;obtain⟨d1,d2,A,B,-,-,-,-⟩:=aa.o.aN (r.t q);clear r E q F J;go_wp2_with fail;generalize d.alloc (.cells (dC k t u (.slice a n c)).toArray 171)=W1 at*;generalize d.heap.size=b at*;refine wp_loop_once ?_;go_wp2_with fail;refine(qo W1 p s i op bad ⟨#[sg]⟩ G.o S.o).m ?_;rintro e2 l⟨rfl,O,x⟩;have V:=ad (show l.heap[b]? =_ from(x.block b (aB.1 L.o).1 T.o).t L.o);have y:=ad (show l.heap[w.heap.size]? =_ from(x.block w.heap.size (aB.1 I.o).1 (by have:=z.o;intro e;cases e;omega)).t I.o);obtain⟨c0,c1,c2,c3,c4,c5,c6,c7,c8,c9⟩:=aM V.o;obtain⟨f0,f1,f2,f3,f4,f5,f6,f7,f8,f9⟩:=aJ y.o;obtain⟨g0,g1,g2,g3,g4,g5,g6,g7,g8,g9⟩:=aR y.o;have C:=dx l w.heap.size k t u (.slice a n c);have H:=ad (show ak p w (dO l w.heap.size k t u (.slice a n c))∧PB (dO l w.heap.size k t u (.slice a n c)) p s i op bad from⟨iH (ac.o.t x) C (ag _),O.aN C (by have:=z.o;omega)⟩);have ab:=ad (aK (k:=k) (t:=t) (u:=u) (kv:=.slice a n c) y.o);clear O x C;go_wp2_with fail;clear c0 c1 c2 c3 c4 c5 c6 c7 c8 c9 f0 f1 f2 f3 f4 f5 f6 f7 f8 f9 g0 g1 g2 g3 g4 g5 g6 g7 g8 g9 d1 d2 A B;obtain⟨k0,k1,k2,k3,k4,k5,k6,k7,k8,k9⟩:=aM ab.o;refine aD (v:=dY k t u (.slice a n c)) ?_ rfl ⟨_,rfl,H.o.1,ad ⟨H.o.2,⟨k,t,u,a,n,c,rfl⟩⟩⟩;simp[results,Tryz.f208,go_sem,k0,k1,k2,k3,k4,k5,k6,k7,k8,k9]
theorem Fh{p b1 b2 b3 b4:Nat}{fi ca:Array aaL}{one:Nat→cG}{kind:Int}{sg:UInt8}(u:b.length≤100000)
 (q:∀(vs:Array aaL) (w:aaK),(callFunc j vs).run Tryz.prog w=.ok (.enter j vs) w)(o:XE j (fi++ca) p b d one a)(t:∀W W',a W→ak p W W'→a W')(hF:jV b one):
 XE 208 #[.pointer (some ⟨b1,0,none⟩),.pointer (some ⟨b2,0,none⟩),.pointer (some ⟨b3,0,none⟩),.pointer (some ⟨b4,0,none⟩)] p b d (rz one kind sg b) (fun W=>a W∧uw W p b1 b2 b3 b4 (.func (.func j) fi ca) sg kind):=fun w i r c h=>
 (SK w p b1 b2 b3 b4 b i d j fi ca one kind sg a r u q o t hF c.1 c.2 h).m (by rintro e w'⟨v,k,l,n⟩;exact⟨v,k,l,n.out⟩)
theorem vE{p b1 b2 b3 b4:Nat}{fi ca:Array aaL}{kind:Int}{sg:UInt8}
 (q:∀(vs:Array aaL) (w:aaK),(callFunc j vs).run Tryz.prog w=.ok (.enter j vs) w)(n:iC j (fi++ca) p b a)(t:∀W W',a W→ak p W W'→a W'):
 iC 208 #[.pointer (some ⟨b1,0,none⟩),.pointer (some ⟨b2,0,none⟩),.pointer (some ⟨b3,0,none⟩),.pointer (some ⟨b4,0,none⟩)] p b (fun W=>a W∧uw W p b1 b2 b3 b4 (.func (.func j) fi ca) sg kind):=fun w i op bad r o d h=>
 (Fg w p b1 b2 b3 b4 b i op bad j fi ca kind sg a r o q n t d.1 d.2 h).m (by rintro e w'⟨v,k,l,c⟩;exact⟨v,k,l,c.out.1,c.out.2⟩)
end Go.Proofs.YtlemddnecmmfgaaGreatDoor
namespace Go.Proofs.YtlemddnecmmfgaaGreatDoor
open Go.RowKit
variable{b:Bs}{j:FuncId}{d e r:Nat}{l q:aaK}{a:aaK→Prop}
theorem yK(vs:Array aaL)(w:aaK):(callFunc 175 vs).run Tryz.prog w=.ok (.enter 175 vs) w:=cP Tryz.func175 (by kernel_rfl) rfl vs w
theorem vF(vs:Array aaL)(w:aaK):(callFunc 208 vs).run Tryz.prog w=.ok (.enter 208 vs) w:=cP Tryz.func208 (by kernel_rfl) rfl vs w
abbrev UT(b1 b2 b3 b4:Nat):aaL:=.func (.func 208) #[] #[.pointer (some ⟨b1,0,none⟩),.pointer (some ⟨b2,0,none⟩),.pointer (some ⟨b3,0,none⟩),.pointer (some ⟨b4,0,none⟩)]
theorem SL(w:aaK)(p:Nat)(kind:Int)(sg:UInt8)(c:aaL)(j:p<w.heap.size)(a b d e:TypeId):
 Below w.heap.size w ((((w.alloc (.cells #[.pointer (some ⟨p,0,none⟩)] a)).alloc (.cells #[.int .i64 kind] b)).alloc (.cells #[.string ⟨#[sg]⟩] d)).alloc (.cells #[c] e))∧
 uw ((((w.alloc (.cells #[.pointer (some ⟨p,0,none⟩)] a)).alloc (.cells #[.int .i64 kind] b)).alloc (.cells #[.string ⟨#[sg]⟩] d)).alloc (.cells #[c] e)) p (w.heap.size+1+1+1) w.heap.size (w.heap.size+1+1) (w.heap.size+1) c sg kind:=by
 have n1:=au w (.cells #[.pointer (some ⟨p,0,none⟩)] a);have n2:=au (w.alloc (.cells #[.pointer (some ⟨p,0,none⟩)] a)) (.cells #[.int .i64 kind] b);have h:=au ((w.alloc (.cells #[.pointer (some ⟨p,0,none⟩)] a)).alloc (.cells #[.int .i64 kind] b)) (.cells #[.string ⟨#[sg]⟩] d);have i:=au (((w.alloc (.cells #[.pointer (some ⟨p,0,none⟩)] a)).alloc (.cells #[.int .i64 kind] b)).alloc (.cells #[.string ⟨#[sg]⟩] d)) (.cells #[c] e);simp only[aO] at n2 h i;have b1:=(ar w.heap.size w).alloc (ag _) (.cells #[.pointer (some ⟨p,0,none⟩)] a);have b2:=b1.alloc b1.size (.cells #[.int .i64 kind] b);have b3:=b2.alloc b2.size (.cells #[.string ⟨#[sg]⟩] d);have b4:=b3.alloc b3.size (.cells #[c] e);exact⟨b4,⟨tH _ _ 0 _ _ _ i,tH _ _ 0 _ _ _ (aG (aG (aG n1 _) _) _),tH _ _ 0 _ _ _ (aG h _),tH _ _ 0 _ _ _ (aG (aG n2 _) _),by omega,by omega,by omega,by omega⟩⟩
theorem Cv(w:aaK)(p:Nat)(kind:Int)(sg:UInt8)(fn:Fn)(fi ca:Array aaL)(b:p<w.heap.size):
 Calls Tryz.prog 174 #[.pointer (some ⟨p,0,none⟩),.int .i64 kind,.string ⟨#[sg]⟩,.func fn fi ca] w fun e w'=>∃b1 b2 b3 b4,e=.returned (UT b1 b2 b3 b4)∧Below w.heap.size w w'∧uw w' p b1 b2 b3 b4 (.func fn fi ca) sg kind:=by
 have a:=ad (SL w p kind sg (.func fn fi ca) b 197 3 9 200);go_enter Tryz.func174,Tryz.ntmps174;go_wp2_with fail;go_ret;exact⟨_,_,_,_,rfl,a.o.1,a.o.2⟩
theorem Fi{a1 a2 a3 a4 b1 b2 b3 b4:Nat}(c:b.length≤100000)(n:XE 175 #[.pointer (some ⟨d,0,none⟩)] d b e (je b r) (GP d)):
 XE 208 #[.pointer (some ⟨b1,0,none⟩),.pointer (some ⟨b2,0,none⟩),.pointer (some ⟨b3,0,none⟩),.pointer (some ⟨b4,0,none⟩)] d b e (vh b r)
  (fun W=>(GP d W∧uw W d a1 a2 a3 a4 (.func (.func 175) #[.pointer (some ⟨d,0,none⟩)] #[]) 38 2)∧uw W d b1 b2 b3 b4 (UT a1 a2 a3 a4) 124 1):=by
 have j:=Fh (b1:=a1) (b2:=a2) (b3:=a3) (b4:=a4) (fi:=#[.pointer (some ⟨d,0,none⟩)]) (ca:=#[]) (kind:=2) (sg:=38) c yK n (fun _ _ h a=>h.aN a) (lq b r).2;have l:=Fh (b1:=b1) (b2:=b2) (b3:=b3) (b4:=b4) (fi:=#[]) (ca:=#[.pointer (some ⟨a1,0,none⟩),.pointer (some ⟨a2,0,none⟩),.pointer (some ⟨a3,0,none⟩),.pointer (some ⟨a4,0,none⟩)]) (kind:=1) (sg:=124) c vF j (fun W W' h a=>⟨h.1.aN a,h.2.aN a⟩) (yD b r);intro w i o m h;rw[UR];exact l w i o m h
theorem yL{a1 a2 a3 a4 b1 b2 b3 b4:Nat}(e:iC 175 #[.pointer (some ⟨d,0,none⟩)] d b (GP d)):
 iC 208 #[.pointer (some ⟨b1,0,none⟩),.pointer (some ⟨b2,0,none⟩),.pointer (some ⟨b3,0,none⟩),.pointer (some ⟨b4,0,none⟩)] d b
  (fun W=>(GP d W∧uw W d a1 a2 a3 a4 (.func (.func 175) #[.pointer (some ⟨d,0,none⟩)] #[]) 38 2)∧uw W d b1 b2 b3 b4 (UT a1 a2 a3 a4) 124 1):=by
 have c:=vE (b1:=a1) (b2:=a2) (b3:=a3) (b4:=a4) (fi:=#[.pointer (some ⟨d,0,none⟩)]) (ca:=#[]) (kind:=2) (sg:=38) yK e (fun _ _ h a=>h.aN a);exact vE (b1:=b1) (b2:=b2) (b3:=b3) (b4:=b4) (fi:=#[]) (ca:=#[.pointer (some ⟨a1,0,none⟩),.pointer (some ⟨a2,0,none⟩),.pointer (some ⟨a3,0,none⟩),.pointer (some ⟨a4,0,none⟩)]) (kind:=1) (sg:=124) vF c (fun W W' h a=>⟨h.1.aN a,h.2.aN a⟩)
theorem gq{p op N:Nat}{F:cG}{k:Int}{t:Bs}{u:bc}{a:Option Addr}(j:ak p l q)(r:p<l.heap.size)(o:l.heap.size<N)(m:gP q p b op (du N) F (dY k t u (.slice a d e))):
 ak p l (dO q l.heap.size k t u (.slice a d e))∧gP (dO q l.heap.size k t u (.slice a d e)) p b op (du l.heap.size) F (dY k t u (.slice a d e)):=by
 have i:=dx q l.heap.size k t u (.slice a d e);exact⟨iH j i (ag _),(m.aN i (by omega) (fun h=>by have:N≤l.heap.size:=h;omega)).VY (fun z _ h=>by have:N≤z:=h;show l.heap.size≤z;omega)⟩
theorem kD{bad k:Int}{t:Bs}{u:bc}{a:Option Addr}{n c:Nat}(j:ak d l q)(o:d<l.heap.size)(m:PB q d b e r bad):
 ak d l (dO q l.heap.size k t u (.slice a n c))∧PB (dO q l.heap.size k t u (.slice a n c)) d b e r bad∧Cs (dY k t u (.slice a n c)):=by
 have h:=dx q l.heap.size k t u (.slice a n c);exact⟨iH j h (ag _),m.aN h (by omega),⟨k,t,u,a,n,c,rfl⟩⟩
theorem bu{b:aaK}{o:Obj}(a:q.heap[l.heap.size]? =some o)(c:ak d q b)(h:d<l.heap.size):b.heap[l.heap.size]? =some o:=
 (c.block l.heap.size (aB.1 a).1 (by intro e;cases e;omega)).t a
theorem VZ(w:aaK)(p:Nat)(s:Bs)(i op k:Nat)(hi:i≤s.length)(hs:s.length≤100000)(A:XE 175 #[.pointer (some ⟨p,0,none⟩)] p s op (je s k) (GP p))(aa:GP p w)(h:PB w p s i op 0):
 Calls Tryz.prog 139 #[.pointer (some ⟨p,0,none⟩)] w fun e w'=>∃v,e=.returned v∧ak p w w'∧Hid (gP w' p s op (du w.heap.size) (vh s k i) v):=by
 have q:=ad h.lt;have b:=ad (show PB (w.alloc (.cells #[.int .i64 0,.string ⟨#[]⟩,.int .i64 0,.int .i64 0,.string ⟨#[]⟩,.string ⟨#[]⟩,.string ⟨#[]⟩,.bool false,.bool false,.slice none 0 0] 171)) p s i op 0 from h.next ((ar _ _).alloc (ag _) _));have r:=ad (show Below w.heap.size w (w.alloc (.cells #[.int .i64 0,.string ⟨#[]⟩,.int .i64 0,.int .i64 0,.string ⟨#[]⟩,.string ⟨#[]⟩,.string ⟨#[]⟩,.bool false,.bool false,.slice none 0 0] 171)) from(ar _ _).alloc (ag _) _);have N:=ad (au w (.cells #[.int .i64 0,.string ⟨#[]⟩,.int .i64 0,.int .i64 0,.string ⟨#[]⟩,.string ⟨#[]⟩,.string ⟨#[]⟩,.bool false,.bool false,.slice none 0 0] 171));have S:=ad (show(w.alloc (.cells #[.int .i64 0,.string ⟨#[]⟩,.int .i64 0,.int .i64 0,.string ⟨#[]⟩,.string ⟨#[]⟩,.string ⟨#[]⟩,.bool false,.bool false,.slice none 0 0] 171)).heap.size=w.heap.size+1 by rw[aO]);have O:=ad A;have ab:∀(fn:Fn) (first cap:Array aaL) (w:aaK),(Instr.makeFunc fn first cap).run Tryz.prog w=.ok (.func fn first cap) w:=fun _ _ _ _=>rfl;clear h A;go_enter Tryz.func139,Tryz.ntmps139;go_wp2_with fail;generalize w.alloc (.cells #[.int .i64 0,.string ⟨#[]⟩,.int .i64 0,.int .i64 0,.string ⟨#[]⟩,.string ⟨#[]⟩,.string ⟨#[]⟩,.bool false,.bool false,.slice none 0 0] 171)=W0 at*;refine(Cv W0 p 2 38 (.func 175) #[.pointer (some ⟨p,0,none⟩)] #[] b.o.lt).m ?_;rintro e w1⟨a1,a2,a3,a4,rfl,B,C⟩;have c:=ad B;have K:=ad C;clear B C;go_wp2_with fail;refine(Cv w1 p 1 124 (.func 208) #[] _ (ej b.o.lt c.o.size)).m ?_;rintro e I⟨b1,b2,b3,b4,rfl,j,D⟩;have a:=ad (c.o.t (j.m c.o.size));have M:=ad D;have L:=ad (K.o.aN (ak.ai j));have Q:=ad (b.o.next a.o);have J:=ad ((aa.aN (ak.ai r.o)).aN (ak.ai a.o));clear j D;go_wp2_with fail;refine(Fi (a1:=a1) (a2:=a2) (a3:=a3) (a4:=a4) hs O.o I i hi ⟨⟨J.o,L.o⟩,M.o⟩ Q.o).m ?_;rintro e w3⟨v,rfl,E,l⟩;obtain⟨F,H,u9,y,G,z,rfl⟩:=l.F4;have x:=ad ((ak.ai a.o).t E);have d:=ad (bu N.o x.o q.o);have n:=ad (gq ((ak.ai r.o).t x.o) q.o (by have h1:=S.o;have h2:=a.o.size;omega:w.heap.size<I.heap.size) l);have R:=ad (aK (k:=F) (t:=H) (u:=u9) (kv:=.slice y G z) d.o);obtain⟨T,V,W,X,Y,Z,f6,f7,f8,f9⟩:=aJ d.o;obtain⟨g0,g1,g2,g3,g4,g5,g6,g7,g8,g9⟩:=aR d.o;clear E l;go_wp2_with fail;clear T V W X Y Z f6 f7 f8 f9 g0 g1 g2 g3 g4 g5 g6 g7 g8 g9;obtain⟨y0,y1,y2,y3,y4,y5,y6,y7,y8,y9⟩:=aM R.o;refine aD (v:=dY F H u9 (.slice y G z)) ?_ rfl ⟨_,rfl,n.o.1,ad n.o.2⟩;simp[results,Tryz.f139,go_sem,y0,y1,y2,y3,y4,y5,y6,y7,y8,y9]
theorem Zd(w:aaK)(p:Nat)(s:Bs)(i op:Nat)(bad:Int)(hi:i≤s.length)(H:bad≠0)(F:iC 175 #[.pointer (some ⟨p,0,none⟩)] p s (GP p))(aa:GP p w)(h:PB w p s i op bad):
 Calls Tryz.prog 139 #[.pointer (some ⟨p,0,none⟩)] w fun e w'=>∃v,e=.returned v∧ak p w w'∧Hid (PB w' p s i op bad∧Cs v):=by
 have C:=ad h.lt;have b:=ad (show PB (w.alloc (.cells #[.int .i64 0,.string ⟨#[]⟩,.int .i64 0,.int .i64 0,.string ⟨#[]⟩,.string ⟨#[]⟩,.string ⟨#[]⟩,.bool false,.bool false,.slice none 0 0] 171)) p s i op bad from h.next ((ar _ _).alloc (ag _) _));have D:=ad (show Below w.heap.size w (w.alloc (.cells #[.int .i64 0,.string ⟨#[]⟩,.int .i64 0,.int .i64 0,.string ⟨#[]⟩,.string ⟨#[]⟩,.string ⟨#[]⟩,.bool false,.bool false,.slice none 0 0] 171)) from(ar _ _).alloc (ag _) _);have S:=ad (au w (.cells #[.int .i64 0,.string ⟨#[]⟩,.int .i64 0,.int .i64 0,.string ⟨#[]⟩,.string ⟨#[]⟩,.string ⟨#[]⟩,.bool false,.bool false,.slice none 0 0] 171));have ac:=ad (show(w.alloc (.cells #[.int .i64 0,.string ⟨#[]⟩,.int .i64 0,.int .i64 0,.string ⟨#[]⟩,.string ⟨#[]⟩,.string ⟨#[]⟩,.bool false,.bool false,.slice none 0 0] 171)).heap.size=w.heap.size+1 by rw[aO]);have T:=ad F;have af:∀(fn:Fn) (first cap:Array aaL) (w:aaK),(Instr.makeFunc fn first cap).run Tryz.prog w=.ok (.func fn first cap) w:=fun _ _ _ _=>rfl;have M:=ad H;clear h F H;go_enter Tryz.func139,Tryz.ntmps139;go_wp2_with fail;generalize w.alloc (.cells #[.int .i64 0,.string ⟨#[]⟩,.int .i64 0,.int .i64 0,.string ⟨#[]⟩,.string ⟨#[]⟩,.string ⟨#[]⟩,.bool false,.bool false,.slice none 0 0] 171)=W0 at*;refine(Cv W0 p 2 38 (.func 175) #[.pointer (some ⟨p,0,none⟩)] #[] b.o.lt).m ?_;rintro e w1⟨a1,a2,a3,a4,rfl,G,I⟩;have d:=ad G;have O:=ad I;clear G I;go_wp2_with fail;refine(Cv w1 p 1 124 (.func 208) #[] _ (ej b.o.lt d.o.size)).m ?_;rintro e w2⟨b1,b2,b3,b4,rfl,x,J⟩;have l:=ad (d.o.t (x.m d.o.size));have R:=ad J;have Q:=ad (O.o.aN (ak.ai x));have V:=ad (b.o.next l.o);have N:=ad ((aa.aN (ak.ai D.o)).aN (ak.ai l.o));clear x J;go_wp2_with fail;refine(yL (a1:=a1) (a2:=a2) (a3:=a3) (a4:=a4) T.o w2 i op bad hi M.o ⟨⟨N.o,Q.o⟩,R.o⟩ V.o).m ?_;rintro e w3⟨v,rfl,L,K,ab⟩;obtain⟨y,A,u9,q,z,r,rfl⟩:=ab;have E:=ad ((ak.ai l.o).t L);have j:=ad (bu S.o E.o C.o);have B:=ad (kD (k:=y) (t:=A) (u:=u9) (a:=q) (n:=z) (c:=r) ((ak.ai D.o).t E.o) C.o K);have W:=ad (aK (k:=y) (t:=A) (u:=u9) (kv:=.slice q z r) j.o);obtain⟨X,Y,Z,f3,f4,f5,f6,f7,f8,f9⟩:=aJ j.o;obtain⟨g0,g1,g2,g3,g4,g5,g6,g7,g8,g9⟩:=aR j.o;clear L K;go_wp2_with fail;clear X Y Z f3 f4 f5 f6 f7 f8 f9 g0 g1 g2 g3 g4 g5 g6 g7 g8 g9;obtain⟨y0,y1,y2,y3,y4,y5,y6,y7,y8,y9⟩:=aM W.o;refine aD (v:=dY y A u9 (.slice q z r)) ?_ rfl ⟨_,rfl,B.o.1,ad B.o.2⟩;simp[results,Tryz.f139,go_sem,y0,y1,y2,y3,y4,y5,y6,y7,y8,y9]
end Go.Proofs.YtlemddnecmmfgaaGreatDoor
