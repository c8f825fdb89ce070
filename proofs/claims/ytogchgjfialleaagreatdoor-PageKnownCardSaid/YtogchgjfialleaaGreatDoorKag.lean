/- The walks of the reader's small steps: run, cut. The walks of the reader's other steps: a default, the end. -/
import Derived.RangeFuncRecord
import Derived.Test.YtogchgjfialleaaGreatDoorKaf
import Derived.Laws.EntriesVeiled
import Derived.Deep.RegionHeld3
import Derived.Deep.DrawnRows
set_option linter.unusedVariables false
set_option maxRecDepth 100000
namespace Go.Proofs.YtogchgjfialleaaGreatDoor
open Go.RowKit
theorem ad{p:Prop}(h:p):Hid p:=h
theorem aj{w:World}{g:Nat}(j:Nat){a:Array Value}{t:TypeId}{b:Nat×Nat}(c:w.heap[g]? =some (.cells a t b)):w.cell? ⟨g,j,none⟩=a[j]? :=cell_of_row w g j a t b c
abbrev tG:=@Go.RowKit.Below.heap_alloc
abbrev dy:=@Go.RowKit.Below.heap_setCell
abbrev ar:=@Go.RowKit.Below.refl
abbrev mG:=@Go.Calls.quiet_of_same
abbrev oE:=@Go.Lib.toList_data
abbrev oF:=@Go.World.alloc_heap_new
abbrev uL:=@Go.World.cell?_of_block
abbrev jO:=@Go.World.ownsRow_nil
abbrev hX:=@Go.World.putObj_heap_other
abbrev wK:=@Go.World.putObj_heap_same
abbrev aO:=@Go.World.size_alloc
abbrev aD:=@Go.bodyPost_ret
abbrev tH:=@Go.cell_of_row
abbrev cP:=@Go.Proofs.enters_of
abbrev aF:=@Go.frozen_of_row
abbrev iT:=@Go.heap_alloc2_new
abbrev jX:=@Go.heap_alloc2_old
abbrev au:=@Go.heap_alloc_new
abbrev kM:=@Go.run_takeDeferred
end Go.Proofs.YtogchgjfialleaaGreatDoor
namespace Go.Proofs.YtogchgjfialleaaGreatDoor
open Go.RowKit
def ML(l:List (Bs×Value)):List (Value×Value):=l.map fun p=>(.string ⟨p.1.toArray⟩,p.2)
def gg(W:World)(b:Nat)(l:List (Bs×Value)):Prop:=
 ∃es clock,W.heap[b]? =some (.map es clock)∧es.toList.map (fun e=>(e.key,e.val))=ML l
def assoc(l:List (Bs×Value))(k:Bs):Option Value:=(l.find? (·.1==k)).map (·.2)
theorem gg.lt{W:World}{b:Nat}{l:List (Bs×Value)}(h:gg W b l):b<W.heap.size:=by obtain⟨es,c,a,_⟩:=h;exact(aB.1 a).1
theorem gg.below{W W':World}{b n:Nat}{l:List (Bs×Value)}(h:gg W b l)(a:Below n W W')(i:b<n):gg W' b l:=by obtain⟨es,c,e,d⟩:=h;exact⟨es,c,(a.block b i).trans e,d⟩
theorem gg.next{W W':World}{b:Nat}{l:List (Bs×Value)}(h:gg W b l)(a:Below W.heap.size W W'):gg W' b l:=h.below a h.lt
theorem Aw(W:World):gg (W.alloc (.map #[] 0)) W.heap.size []:=⟨#[],0,(MapKept.heap_alloc W _).1,rfl⟩
theorem AM(a b:ByteArray):(a==b)=(a.data.toList==b.data.toList):=by rw[gf,MapKept.bytes_beq];simp only[bZ];exact⟨fun h=>by rw[h],fun h=>uG (Array.toList_inj.1 h)⟩
theorem nM(k:ByteArray):∀(es:List MapEntry) (l:List (Bs×Value)) (i:Nat),es.map (fun e=>(e.key,e.val))=ML l→
 ∃r,Instr.findNow .string (.string k) es i=some r∧r.map (·.2)=assoc l k.data.toList
 |[],[],i,_=>⟨none,rfl,rfl⟩
 |[],p::l,i,h=>by simp[ML] at h
 |e::es,[],i,h=>by simp[ML] at h
 |e::es,p::l,i,h=>by
  simp only[ML,kg,List.cons.injEq,kj] at h;obtain⟨⟨c,m⟩,d⟩:=h;obtain⟨r,a,b⟩:=nM k es l (i+1) d;have j:Instr.sameNow .string (.string k) e.key=some (p.1==k.data.toList):=by rw[c];show some (k==(⟨p.1.toArray⟩:ByteArray))=_;rw[AM];congr 1;rw[gf];simp only[bZ];exact⟨Eq.symm,Eq.symm⟩
  unfold Instr.findNow;rw[j];unfold assoc;rw[uH];cases n:(p.1==k.data.toList)
  ·exact⟨r,a,b⟩
  ·exact⟨some (i,e.val),rfl,by simp[m]⟩
structure QP (b:Nat) (W W':World):Prop where
 os:W'.os=W.os
 tape:W'.tape=W.tape
 output:W'.output=W.output
 size:W'.heap.size=W.heap.size
 block:∀k,k≠b→W'.heap[k]? =W.heap[k]?
theorem QP.below{b n:Nat}{W W':World}(h:QP b W W')(c:n≤b):Below n W W':=⟨h.os,h.tape,h.output,Nat.le_of_eq h.size.symm,fun k a=>h.block k (by omega)⟩
theorem QP.cell{b p o:Nat}{W W':World}(h:QP b W W')(c:p≠b):W'.cell? ⟨p,o,none⟩=W.cell? ⟨p,o,none⟩:=uL (a:=⟨p,o,none⟩) (h.block p c)
theorem JM{W:World}{b:Nat}{l:List (Bs×Value)}(h:gg W b l)(T e:TypeId)(m:Tryz.prog.underlying T=some (.map 9 e))(k:ByteArray)(v:Value)(p:assoc l k.data.toList=none):
 ∃W',(Instr.mapUpdate T (.map (some b)) (.string k) v).run Tryz.prog W=.ok () W'∧gg W' b (l++[(k.data.toList,v)])∧QP b W W':=by
 obtain⟨es,clock,a,d⟩:=h;obtain⟨r,i,c⟩:=nM k es.toList l 0 d;rw[p] at c;cases r with
 |some x=>cases c
 |none=>
 have n:=MapKept.run_checkKey (P:=Tryz.prog) (w:=W) u9 (k:=.string k) trivial false 9999;refine⟨W.putObj b (.map (es.push {key:=.string k,val:=v,born:=clock}) (clock+1)), ?_,⟨_,_,wK ((aB.1 a).1), ?_⟩, ?_⟩
 ·unfold Instr.mapUpdate;simp[run_underlying m,MapKept.run_getObj_map a,n,MapKept.run_findKey u9 i,MapKept.run_setObj_map _ a,Result.andThen,World.putObj]
 ·rw[Array.toList_push,List.map_append,d];simp[ML]
 ·exact⟨rfl,rfl,rfl,by simp,fun j o=>hX o⟩
theorem fz{W:World}{b:Nat}{l:List (Bs×Value)}(h:gg W b l)(T e:TypeId)(a:Tryz.prog.underlying T=some (.map 9 e))(z:Value)(o:(zeroValue e).run Tryz.prog W=.ok z W)(k:ByteArray)(ok:Bool):
 (Instr.lookup T (.map (some b)) (.string k) ok).run Tryz.prog W=.ok (bif ok then .tuple #[(assoc l k.data.toList).getD z,.bool (assoc l k.data.toList).isSome] else(assoc l k.data.toList).getD z) W:=by
 obtain⟨es,clock,c,n⟩:=h;obtain⟨r,j,m⟩:=nM k es.toList l 0 n;have d:=MapKept.run_checkKey (P:=Tryz.prog) (w:=W) u9 (k:=.string k) trivial es.isEmpty 9999;unfold Instr.lookup;rw[←m];have i:=MapKept.run_findKey (w:=W) (P:=Tryz.prog) u9 j;cases r with
 |none=>cases ok<;>simp[run_underlying a,MapKept.run_getObj_map c,d,i,o,Result.andThen]
 |some x=>cases ok<;>simp[run_underlying a,MapKept.run_getObj_map c,d,i,Result.andThen]
end Go.Proofs.YtogchgjfialleaaGreatDoor
namespace Go.Proofs.YtogchgjfialleaaGreatDoor
open Go.RowKit
theorem fP{ops:Array Oper}{rest:List Oper}{o:Oper}{a:Act}{Q:Exit→Act→World→Prop}{W:World}(j:o.guard=none)(m x v:Operand)(T:TypeId)(q:o.op=Op.insert T m x v)
 (e:TypeId)(i:Tryz.prog.underlying T=some (.map 9 e))(b:Nat)(l:List (Bs×Value))(p:a.eval m=.map (some b))(h:gg W b l)(k:ByteArray)(val:Value)(t:a.eval x=.string k)(s:a.eval v=val)
 (n:assoc l k.data.toList=none)
 (c:∀W',gg W' b (l++[(k.data.toList,val)])→QP b W W'→wpList Tryz.prog ops Q rest (a.put o.dst undef) W'):
 wpList Tryz.prog ops Q (o::rest) a W:=by
 refine wpList_plain j fun y d=> ?_;obtain⟨W',r,u,w⟩:=JM h T e i k val n;unfold Oper.wp;simp[execOp,q,p,t,s,r,Result.andThen];exact d _ _ (c W' u w)
theorem rC(s:ByteArray)(w:World):Calls Tryz.prog 204 #[.string s] w fun e w'=>
 e=.returned (.func (.func 239) #[] #[.pointer (some ⟨w.heap.size,0,none⟩)])∧w'=w.alloc (.cells #[.string s] 9):=by
 go_enter Tryz.func204,Tryz.ntmps204;go_wp2;go_ret;exact⟨rfl,rfl⟩
def rv(a:Bs)(f g:Value):Value:=.agg #[.string ⟨a.toArray⟩,f,g]
def RW(k:Nat):Value:=.func (.func k) #[] #[]
def WM(p:Nat):Value:=.func (.func 239) #[] #[.pointer (some ⟨p,0,none⟩)]
def JN(a b c:Nat):List (Bs×Value):=
 [(kX,rv [104,111,115,116] (RW 202) (RW 203)),
  (dZ,rv dP (WM a) (RW 203)),
  (iE,rv agentName (WM b) (RW 205)),
  (eU,rv bA (RW 206) (RW 207)),
  (iF,rv [] (RW 208) (RW 209)),
  (kY,rv ed (WM c) (RW 210))]
structure dr (W:World) (b p1 p2 p3:Nat):Prop where
 map:gg W b (JN p1 p2 p3)
 c1:W.cell? ⟨p1,0,none⟩=some (.string ⟨dP.toArray⟩)
 c2:W.cell? ⟨p2,0,none⟩=some (.string ⟨agentName.toArray⟩)
 c3:W.cell? ⟨p3,0,none⟩=some (.string ⟨ed.toArray⟩)
theorem dr.next{W W':World}{b c d e:Nat}(h:dr W b c d e)(a:Below W.heap.size W W'):dr W' b c d e:=
 ⟨h.map.next a,(a.cell (p:=⟨c,0,none⟩) (aV h.c1)).trans h.c1,(a.cell (p:=⟨d,0,none⟩) (aV h.c2)).trans h.c2,(a.cell (p:=⟨e,0,none⟩) (aV h.c3)).trans h.c3⟩
theorem fg:Tryz.prog.underlying 225=some (.map 9 224):=by kernel_rfl
def OG(w:World)(e:Ending)(w':World):Prop:=∃b a c d,e=.returned (.map (some b))∧dr w' b a c d∧Below w.heap.size w w'
theorem bO(w:World):Calls Tryz.prog 158 #[] w (OG w):=by
 have Q:=@run_makeMap Tryz.prog;have N:=Aw w;have O:=w.heap.size;have G:Below w.heap.size w (w.alloc (.map #[] 0)):=(ar _ _).alloc (ag _) _;go_enter Tryz.func158,Tryz.ntmps158;go_wp2_with (first
  |(refine fP rfl _ _ _ _ rfl _ fg w.heap.size _ rfl (by assumption) _ _ rfl rfl (by rfl) ?_;intro a x u)
  |fail)
 refine(rC ⟨#[114,101,102,101,114,101,114]⟩ _).mono ?_;rintro e v1⟨rfl,n⟩;have hA1:Below a.heap.size a v1:=by rw[n];exact(ar _ _).alloc (ag _) _
 have I:v1.cell? ⟨a.heap.size,0,none⟩=some (.string ⟨#[114,101,102,101,114,101,114]⟩):=by rw[n];exact bH _ _ _ 0 _ rfl
 replace x:=x.next hA1;clear n;go_wp2_with (first
  |(refine fP rfl _ _ _ _ rfl _ fg w.heap.size _ rfl (by assumption) _ _ rfl rfl (by rfl) ?_;intro b l m)
  |fail)
 refine(rC ⟨#[117,115,101,114,45,97,103,101,110,116]⟩ _).mono ?_;rintro e v2⟨rfl,o⟩;have hA2:Below b.heap.size b v2:=by rw[o];exact(ar _ _).alloc (ag _) _
 have J:v2.cell? ⟨b.heap.size,0,none⟩=some (.string ⟨#[117,115,101,114,45,97,103,101,110,116]⟩):=by rw[o];exact bH _ _ _ 0 _ rfl
 replace l:=l.next hA2;clear o;go_wp2_with (first
  |(refine fP rfl _ _ _ _ rfl _ fg w.heap.size _ rfl l _ _ rfl rfl (by rfl) ?_;intro L y h;clear l)
  |(refine fP rfl _ _ _ _ rfl _ fg w.heap.size _ rfl y _ _ rfl rfl (by rfl) ?_;intro M z i;clear y)
  |(refine fP rfl _ _ _ _ rfl _ fg w.heap.size _ rfl z _ _ rfl rfl (by rfl) ?_;intro c A j;clear z)
  |fail)
 refine(rC ⟨#[97,99,99,101,112,116,45,108,97,110,103,117,97,103,101]⟩ _).mono ?_;rintro e C⟨rfl,q⟩;have hA3:Below c.heap.size c C:=by rw[q];exact(ar _ _).alloc (ag _) _
 have K:C.cell? ⟨c.heap.size,0,none⟩=some (.string ⟨#[97,99,99,101,112,116,45,108,97,110,103,117,97,103,101]⟩):=by rw[q];exact bH _ _ _ 0 _ rfl
 replace A:=A.next hA3;clear q;go_wp2_with (first
  |(refine fP rfl _ _ _ _ rfl _ fg w.heap.size _ rfl (by assumption) _ _ rfl rfl (by rfl) ?_;intro d B k)
  |fail)
 have R:w.heap.size<(w.alloc (.map #[] 0)).heap.size:=by simp
 have S:=u.size;have T:=m.size;have V:=h.size;have W:=i.size;have X:=j.size;have Y:=hA1.size;have Z:=hA2.size;have H:=ad (show Below w.heap.size w d from
  ((((((((G.trans (u.below (ag _))).trans (hA1.mono (by omega))).trans (m.below (ag _))).trans (hA2.mono (by omega))).trans (h.below (ag _))).trans (i.below (ag _))).trans (j.below (ag _))).trans (hA3.mono (by omega))).trans (k.below (ag _)))
 have E:d.cell? ⟨c.heap.size,0,none⟩=_:=(k.cell (by omega)).trans K;have r:c.cell? ⟨b.heap.size,0,none⟩=_:=(j.cell (by omega)).trans ((i.cell (by omega)).trans ((h.cell (by omega)).trans J));have d2:d.cell? ⟨b.heap.size,0,none⟩=_:=(k.cell (by omega)).trans ((hA3.cell (p:=⟨b.heap.size,0,none⟩) (aV r)).trans r);have s:b.cell? ⟨a.heap.size,0,none⟩=_:=(m.cell (by omega)).trans I;have F:v2.cell? ⟨a.heap.size,0,none⟩=_:=(hA2.cell (p:=⟨a.heap.size,0,none⟩) (aV s)).trans s;have t:c.cell? ⟨a.heap.size,0,none⟩=_:=(j.cell (by omega)).trans ((i.cell (by omega)).trans ((h.cell (by omega)).trans F));have d1:d.cell? ⟨a.heap.size,0,none⟩=_:=(k.cell (by omega)).trans ((hA3.cell (p:=⟨a.heap.size,0,none⟩) (aV t)).trans t);have D:=ad (show gg d w.heap.size (JN a.heap.size b.heap.size c.heap.size) from B);clear B;go_wp2;go_ret;exact⟨_,_,_,_,rfl,⟨D.out,d1,d2,E⟩,H.out⟩
end Go.Proofs.YtogchgjfialleaaGreatDoor
namespace Go.Proofs.YtogchgjfialleaaGreatDoor
open Go.RowKit
theorem VD:Tryz.t224.zero=some (.agg #[.string ⟨#[]⟩,.nilFunc,.nilFunc]):=by kernel_rfl
theorem lZ(W:World):(zeroValue 224).run Tryz.prog W=.ok (.agg #[.string ⟨#[]⟩,.nilFunc,.nilFunc]) W:=by simp[zeroValue,go_sem,VD]
theorem Eh(x y z:Value)(W:World):(Instr.field 224 (.agg #[x,y,z]) 0).run Tryz.prog W=.ok x W:=by kernel_rfl
theorem nJ(name:Bs):name=kX∨name=dZ∨name=iE∨name=eU∨name=iF∨name=kY∨cD name=false:=by
 by_cases a:name=kX
 ·exact .inl a
 by_cases b:name=dZ
 ·exact .inr (.inl b)
 by_cases c:name=iE
 ·exact .inr (.inr (.inl c))
 by_cases d:name=eU
 ·exact .inr (.inr (.inr (.inl d)))
 by_cases e:name=iF
 ·exact .inr (.inr (.inr (.inr (.inl e))))
 by_cases h:name=kY
 ·exact .inr (.inr (.inr (.inr (.inr (.inl h)))))
 refine .inr (.inr (.inr (.inr (.inr (.inr ?_)))));unfold cD names Tz;simp only[kg,List.map_nil,rZ,List.any_nil,aL.2 (eo a),aL.2 (eo b),aL.2 (eo c),aL.2 (eo d),aL.2 (eo e),aL.2 (eo h),Bool.or_false]
theorem gN{name n:Bs}(h:cD name=false)(a:n∈names):(n==name)=false:=by unfold cD at h;rw[List.any_eq_false] at h;simpa using h n a
theorem xL{name:Bs}(h:cD name=false)(a b c:Nat):assoc (JN a b c) name=none:=by unfold assoc JN;simp only[uH,gN h (n:=kX) (by decide),gN h (n:=dZ) (by decide),gN h (n:=iE) (by decide),gN h (n:=eU) (by decide),gN h (n:=iF) (by decide),gN h (n:=kY) (by decide)];rfl
theorem Lm{name:Bs}(h:cD name=false):RX name=[]:=by unfold RX Tz;simp only[uH,gN h (n:=kX) (by decide),gN h (n:=dZ) (by decide),gN h (n:=iE) (by decide),gN h (n:=eU) (by decide),gN h (n:=iF) (by decide),gN h (n:=kY) (by decide)];rfl
theorem qh{name n:Bs}(h:cD name=false)(a:n∈names):(name==n)=false:=by rw[aL];exact eo (aL.1 (gN h a))
theorem AO{h t:Bs}{fs:List dQ}{name key:Bs}{has:Bool}(a:cD name=false):dK h t fs name key has=([],false):=by unfold dK TA OH;rw[qh a (n:=kX) (by decide),qh a (n:=dZ) (by decide),qh a (n:=iE) (by decide),qh a (n:=eU) (by decide),qh a (n:=iF) (by decide),qh a (n:=kY) (by decide)];cases has<;>cases fJ key<;>rfl
theorem dn{name:ByteArray}{l:Bs}(h:name.data.toList=l):name=⟨l.toArray⟩:=dU h
theorem wi{W:World}{b a c d:Nat}(h:dr W b a c d):
 (Instr.lookup 225 (.map (some b)) (.string ⟨kX.toArray⟩) true).run Tryz.prog W=.ok (.tuple #[.agg #[.string ⟨[104,111,115,116].toArray⟩,(.func (.func 202) #[] #[]),(.func (.func 203) #[] #[])],.bool true]) W:=fz h.map _ _ fg _ (lZ W) _ _
theorem wj{W:World}{b a c d:Nat}(h:dr W b a c d):
 (Instr.lookup 225 (.map (some b)) (.string ⟨dZ.toArray⟩) true).run Tryz.prog W=.ok (.tuple #[.agg #[.string ⟨dP.toArray⟩,(.func (.func 239) #[] #[.pointer (some ⟨a,0,none⟩)]),(.func (.func 203) #[] #[])],.bool true]) W:=fz h.map _ _ fg _ (lZ W) _ _
theorem wk{W:World}{b c a d:Nat}(h:dr W b c a d):
 (Instr.lookup 225 (.map (some b)) (.string ⟨iE.toArray⟩) true).run Tryz.prog W=.ok (.tuple #[.agg #[.string ⟨agentName.toArray⟩,(.func (.func 239) #[] #[.pointer (some ⟨a,0,none⟩)]),(.func (.func 205) #[] #[])],.bool true]) W:=fz h.map _ _ fg _ (lZ W) _ _
theorem wm{W:World}{b a c d:Nat}(h:dr W b a c d):
 (Instr.lookup 225 (.map (some b)) (.string ⟨eU.toArray⟩) true).run Tryz.prog W=.ok (.tuple #[.agg #[.string ⟨bA.toArray⟩,(.func (.func 206) #[] #[]),(.func (.func 207) #[] #[])],.bool true]) W:=fz h.map _ _ fg _ (lZ W) _ _
theorem wo{W:World}{b a c d:Nat}(h:dr W b a c d):
 (Instr.lookup 225 (.map (some b)) (.string ⟨iF.toArray⟩) true).run Tryz.prog W=.ok (.tuple #[.agg #[.string ⟨#[]⟩,(.func (.func 208) #[] #[]),(.func (.func 209) #[] #[])],.bool true]) W:=fz h.map _ _ fg _ (lZ W) _ _
theorem wu{W:World}{b c d a:Nat}(h:dr W b c d a):
 (Instr.lookup 225 (.map (some b)) (.string ⟨kY.toArray⟩) true).run Tryz.prog W=.ok (.tuple #[.agg #[.string ⟨ed.toArray⟩,(.func (.func 239) #[] #[.pointer (some ⟨a,0,none⟩)]),(.func (.func 210) #[] #[])],.bool true]) W:=fz h.map _ _ fg _ (lZ W) _ _
theorem JJ{W:World}{b c d e:Nat}(h:dr W b c d e){name:ByteArray}(a:cD name.data.toList=false):
 (Instr.lookup 225 (.map (some b)) (.string name) true).run Tryz.prog W=.ok (.tuple #[.agg #[.string ⟨#[]⟩,.nilFunc,.nilFunc],.bool false]) W:=by
 have:=fz h.map _ _ fg _ (lZ W) name true;rw[xL a] at this;exact this
theorem RY{W:World}{b a c d:Nat}(h:dr W b a c d):
 (Instr.lookup 225 (.map (some b)) (.string ⟨kX.toArray⟩) false).run Tryz.prog W=.ok ((.agg #[.string ⟨[104,111,115,116].toArray⟩,(.func (.func 202) #[] #[]),(.func (.func 203) #[] #[])])) W:=fz h.map _ _ fg _ (lZ W) _ _
theorem RZ{W:World}{b a c d:Nat}(h:dr W b a c d):
 (Instr.lookup 225 (.map (some b)) (.string ⟨dZ.toArray⟩) false).run Tryz.prog W=.ok ((.agg #[.string ⟨dP.toArray⟩,(.func (.func 239) #[] #[.pointer (some ⟨a,0,none⟩)]),(.func (.func 203) #[] #[])])) W:=fz h.map _ _ fg _ (lZ W) _ _
theorem R0{W:World}{b c a d:Nat}(h:dr W b c a d):
 (Instr.lookup 225 (.map (some b)) (.string ⟨iE.toArray⟩) false).run Tryz.prog W=.ok ((.agg #[.string ⟨agentName.toArray⟩,(.func (.func 239) #[] #[.pointer (some ⟨a,0,none⟩)]),(.func (.func 205) #[] #[])])) W:=fz h.map _ _ fg _ (lZ W) _ _
theorem JO{W:World}{b a c d:Nat}(h:dr W b a c d):
 (Instr.lookup 225 (.map (some b)) (.string ⟨eU.toArray⟩) false).run Tryz.prog W=.ok ((.agg #[.string ⟨bA.toArray⟩,(.func (.func 206) #[] #[]),(.func (.func 207) #[] #[])])) W:=fz h.map _ _ fg _ (lZ W) _ _
theorem R1{W:World}{b a c d:Nat}(h:dr W b a c d):
 (Instr.lookup 225 (.map (some b)) (.string ⟨iF.toArray⟩) false).run Tryz.prog W=.ok ((.agg #[.string ⟨#[]⟩,(.func (.func 208) #[] #[]),(.func (.func 209) #[] #[])])) W:=fz h.map _ _ fg _ (lZ W) _ _
theorem R3{W:World}{b c d a:Nat}(h:dr W b c d a):
 (Instr.lookup 225 (.map (some b)) (.string ⟨kY.toArray⟩) false).run Tryz.prog W=.ok ((.agg #[.string ⟨ed.toArray⟩,(.func (.func 239) #[] #[.pointer (some ⟨a,0,none⟩)]),(.func (.func 210) #[] #[])])) W:=fz h.map _ _ fg _ (lZ W) _ _
theorem R4{W:World}{b c d e:Nat}(h:dr W b c d e){name:ByteArray}(a:cD name.data.toList=false):
 (Instr.lookup 225 (.map (some b)) (.string name) false).run Tryz.prog W=.ok (.agg #[.string ⟨#[]⟩,.nilFunc,.nilFunc]) W:=by
 have:=fz h.map _ _ fg _ (lZ W) name false;rw[xL a] at this;exact this
theorem Ln(h t:ByteArray)(a:Option Addr)(n c:Nat)(w:World):
 Calls Tryz.prog 202 #[.agg #[.string h,.string t,.slice a n c]] w (cN w (.tuple #[.string h,.bool (!h.data.toList.isEmpty)])):=by
 have b:=ad (oE h);go_enter Tryz.func202,Tryz.ntmps202;go_wp2_with fail;go_region;all_goals
  go_wp2;go_ret2;exact⟨by rw[b.out];rfl,((ar _ _).alloc (ag _) _).drew⟩
end Go.Proofs.YtogchgjfialleaaGreatDoor
namespace Go.Proofs.YtogchgjfialleaaGreatDoor
open Go.Lib
theorem Ie(s key:Bs)(n:Nat)(b:10≤n)(c:s.length≤n):(gX s key).1.length≤n:=by
 unfold gX;cases key==lg
 ·cases key==mU
  ·cases key==VE
   ·exact aH _
   ·show(Us s).length≤n;unfold Us;cases Lib.contains s mV<;>cases Lib.contains s Lq<;>cases(Lib.contains s Lr||Lib.contains s uk)<;>simp<;>omega
  ·show((s.drop (kq s)).takeWhile vd).length≤n;have a:=iV vd (s.drop (kq s));unfold lead at a;rw[bK] at a;omega
 ·show(jS s).length≤n;unfold jS;cases Lib.contains s iq<;>cases Lib.hasPrefix s sL<;>simp<;>omega
theorem UC{key p v:Bs}(h:vQ key p=some v):v.length≤p.length:=by
 unfold vQ at h;split at h
 ·obtain rfl:=iS h;exact bP (ij _ _) (sJ p)
 ·cases h
theorem UD{key p v:Bs}(h:uh key p=some v):v.length≤p.length:=by
 unfold uh at h;split at h
 ·obtain rfl:=iS h;exact ij _ _
 ·cases h
theorem A4{f:Bs→Option Bs}{l:List Bs}{n:Nat}(a:∀p v,f p=some v→v.length≤p.length)(b:∀p∈l,p.length≤n):(pd (l.findSome? f)).1.length≤n:=by
 cases h:l.findSome? f with
 |none=>exact aH _
 |some v=>obtain⟨p,c,d⟩:=List.exists_of_findSome?_eq_some h;exact bP (a p v d) (b p c)
theorem wA{fs:List dQ}(a:rX fs)(name:Bs):(jz fs name).1.length≤100002000:=oX (a.values name) [44,32] (by decide)
theorem O8{h t:Bs}{fs:List dQ}(name key:Bs)(has:Bool)(a:rX fs)(d:h.length≤100002000)(k:t.length≤100000):(dK h t fs name key has).1.length≤100002000:=by
 have c:(fe fs).1.length≤100002000:=oX (a.values bA) [59,32] (by decide);rcases nJ name with rfl|rfl|rfl|rfl|rfl|rfl|e
 ·cases has
  ·exact d
  ·unfold dK;cases fJ key<;>exact aH _
 ·cases has
  ·exact wA a _
  ·unfold dK;cases fJ key<;>exact aH _
 ·cases has
  ·exact wA a _
  ·show(bif fJ key then Ls fs key else([],false)).1.length≤_;cases fJ key
   ·exact aH _
   ·show(Ls fs key).1.length≤_;unfold Ls;cases(jz fs agentName).2
    ·exact aH _
    ·exact Ie _ _ _ (by omega) (wA a _)
 ·cases has
  ·exact c
  ·show(bif fJ key then pd (nL fs key) else([],false)).1.length≤_;cases fJ key
   ·exact aH _
   ·exact A4 (fun p v h=>UC h) (fun p b=>bP (iO 59 _ _ (ag _) p b) c)
 ·cases has
  ·show(pd (rD t)).1.length≤_;unfold rD;split
   ·have:=ij 63 t;show(past 63 t).length≤_;omega
   ·exact aH _
  ·show(bif fJ key then pd (bif t.contains 63 then kZ t key else none) else([],false)).1.length≤_;cases fJ key
   ·exact aH _
   ·cases t.contains 63
    ·exact aH _
    ·refine A4 (fun p v h=>UD h) (fun p b=> ?_);have i:=iO 38 _ _ (ag _) p b;have j:=ij 63 t;omega
 ·cases has
  ·exact wA a _
  ·show(bif fJ key then(vk (mS fs key),mS fs key) else([],false)).1.length≤_;cases fJ key
   ·exact aH _
   ·show(vk (mS fs key)).length≤_;cases mS fs key<;>simp[vk]
 ·rw[AO e];exact aH _
theorem O9{h t:Bs}{fs:List dQ}(u:iZ)(c:rX fs)(b:h.length≤100002000)(d:t.length≤100000)(a:u.cK.length≤100002000):(jD h t fs u).1.length≤100002000:=by
 unfold jD;cases(dK h t fs u.name u.key u.hk).2
 ·cases u.hd
  ·exact aH _
  ·exact a
 ·exact O8 _ _ _ c b d
end Go.Proofs.YtogchgjfialleaaGreatDoor
namespace Go.Proofs.YtogchgjfialleaaGreatDoor
open Go.RowKit
theorem GW(name:ByteArray)(w:World):Calls Tryz.prog 222 #[.string name] w (cN w (.bool (cD name.data.toList))):=by
 rcases nJ name.data.toList with c|c|c|c|c|c|c
 ·obtain rfl:=dn c;have d:=ad (show cD (⟨kX.toArray⟩:ByteArray).data.toList=true from rfl);clear c;go_enter Tryz.func222,Tryz.ntmps222;go_wp2_with fail;refine(bO _).mono ?_;rintro e m⟨b,j,k,l,rfl,h,a⟩;have i:=wi h;go_wp2;go_ret;rw[d.out];exact⟨rfl,a.alloc a.size _⟩
 ·obtain rfl:=dn c;have d:=ad (show cD (⟨dZ.toArray⟩:ByteArray).data.toList=true from rfl);clear c;go_enter Tryz.func222,Tryz.ntmps222;go_wp2_with fail;refine(bO _).mono ?_;rintro e m⟨b,j,k,l,rfl,h,a⟩;have i:=wj h;go_wp2;go_ret;rw[d.out];exact⟨rfl,a.alloc a.size _⟩
 ·obtain rfl:=dn c;have d:=ad (show cD (⟨iE.toArray⟩:ByteArray).data.toList=true from rfl);clear c;go_enter Tryz.func222,Tryz.ntmps222;go_wp2_with fail;refine(bO _).mono ?_;rintro e m⟨b,j,k,l,rfl,h,a⟩;have i:=wk h;go_wp2;go_ret;rw[d.out];exact⟨rfl,a.alloc a.size _⟩
 ·obtain rfl:=dn c;have d:=ad (show cD (⟨eU.toArray⟩:ByteArray).data.toList=true from rfl);clear c;go_enter Tryz.func222,Tryz.ntmps222;go_wp2_with fail;refine(bO _).mono ?_;rintro e m⟨b,j,k,l,rfl,h,a⟩;have i:=wm h;go_wp2;go_ret;rw[d.out];exact⟨rfl,a.alloc a.size _⟩
 ·obtain rfl:=dn c;have d:=ad (show cD (⟨iF.toArray⟩:ByteArray).data.toList=true from rfl);clear c;go_enter Tryz.func222,Tryz.ntmps222;go_wp2_with fail;refine(bO _).mono ?_;rintro e m⟨b,j,k,l,rfl,h,a⟩;have i:=wo h;go_wp2;go_ret;rw[d.out];exact⟨rfl,a.alloc a.size _⟩
 ·obtain rfl:=dn c;have d:=ad (show cD (⟨kY.toArray⟩:ByteArray).data.toList=true from rfl);clear c;go_enter Tryz.func222,Tryz.ntmps222;go_wp2_with fail;refine(bO _).mono ?_;rintro e m⟨b,j,k,l,rfl,h,a⟩;have i:=wu h;go_wp2;go_ret;rw[d.out];exact⟨rfl,a.alloc a.size _⟩
 ·have d:=ad c;clear c;go_enter Tryz.func222,Tryz.ntmps222;go_wp2_with fail;refine(bO _).mono ?_;rintro e m⟨b,j,k,l,rfl,h,a⟩;have i:=JJ h d.out;go_wp2;go_ret;rw[d.out];exact⟨rfl,a.alloc a.size _⟩
end Go.Proofs.YtogchgjfialleaaGreatDoor
namespace Go.Proofs.YtogchgjfialleaaGreatDoor
open Go.RowKit
attribute[local go_sem↓] Go.wp_at_zero Go.wp_at_succ
def ak(p:Nat)(W W':World):Prop:=W.grownBy W' (some p)
theorem ak.refl(p:Nat)(W:World):ak p W W:=World.grownBy.refl _ _
theorem ak.trans{p:Nat}{W c d:World}(a:ak p W c)(b:ak p c d):ak p W d:=
 ⟨b.os.trans a.os,b.tape.trans a.tape,b.output.trans a.output,bP a.size b.size,fun k e h=>(b.block k (ej e a.size) h).trans (a.block k e h)⟩
theorem ak.ai{p:Nat}{W W':World}(h:Below W.heap.size W W'):ak p W W':=⟨h.os,h.tape,h.output,h.size,fun k a _=>h.block k a⟩
theorem ak.set{p j:Nat}{W W':World}{v:Value}(h:ak p W W'):ak p W (W'.setCell ⟨p,j,none⟩ v):=
 h.trans ⟨rfl,rfl,rfl,by rw[show(W'.setCell ⟨p,j,none⟩ v).heap.size=W'.heap.size by simp[World.setCell]];exact ag _,fun k _ a=>dy W' ⟨p,j,none⟩ v k (fun e=>a (by rw[e]))⟩
theorem ak.below{p n:Nat}{W W':World}(h:ak p W W')(c:n≤p)(b:n≤W.heap.size):Below n W W':=⟨h.os,h.tape,h.output,h.size,fun k a=>h.block k (by omega) (by intro e;cases e;omega)⟩
theorem Good.aN{p:Nat}{W W':World}(h:Good W)(b:ak p W W')(a:0<p):Good W':=h.below (b.below (n:=min p W.heap.size) (Nat.min_le_left _ _) (Nat.min_le_right _ _)) (Nat.lt_min.2 ⟨a,h.lt⟩)
def RB(W:World)(p:Nat)(r nm k d:Bs)(b a:Bool):Prop:=
 W.heap[p]? =some (.cells #[.string ⟨r.toArray⟩,.int .i64 0,.int .i64 0,.string ⟨nm.toArray⟩,.string ⟨k.toArray⟩,.string ⟨d.toArray⟩,.bool b,.bool a] 244)
structure RC (W:World) (p:Nat) (r nm k d:Bs) (hk hd:Bool):Prop where
 c0:W.cell? ⟨p,0,none⟩=some (.string ⟨r.toArray⟩)
 c3:W.cell? ⟨p,3,none⟩=some (.string ⟨nm.toArray⟩)
 c4:W.cell? ⟨p,4,none⟩=some (.string ⟨k.toArray⟩)
 c5:W.cell? ⟨p,5,none⟩=some (.string ⟨d.toArray⟩)
 c6:W.cell? ⟨p,6,none⟩=some (.bool hk)
 c7:W.cell? ⟨p,7,none⟩=some (.bool hd)
 f0:W.frozen? ⟨p,0,none⟩=false
 f3:W.frozen? ⟨p,3,none⟩=false
 f4:W.frozen? ⟨p,4,none⟩=false
 f5:W.frozen? ⟨p,5,none⟩=false
 f6:W.frozen? ⟨p,6,none⟩=false
 f7:W.frozen? ⟨p,7,none⟩=false
theorem RB.rc{W:World}{p:Nat}{r nm k d:Bs}{b a:Bool}(h:RB W p r nm k d b a):RC W p r nm k d b a:=
 ⟨aj 0 h,aj 3 h,aj 4 h,aj 5 h,aj 6 h,aj 7 h,
  aF _ _ 0 _ _ h,aF _ _ 3 _ _ h,aF _ _ 4 _ _ h,aF _ _ 5 _ _ h,aF _ _ 6 _ _ h,aF _ _ 7 _ _ h⟩
theorem RB.lt{W:World}{p:Nat}{r nm k d:Bs}{b a:Bool}(h:RB W p r nm k d b a):p<W.heap.size:=aV h.rc.c0
theorem RB.next{W W':World}{p:Nat}{r nm k d:Bs}{b a:Bool}(h:RB W p r nm k d b a)(c:Below W.heap.size W W'):RB W' p r nm k d b a:=(c.block p h.lt).trans h
theorem RB.zG{W:World}{p:Nat}{r nm k d:Bs}{b a:Bool}(h:RB W p r nm k d b a)(x:Bs):RB (W.setCell ⟨p,0,none⟩ (.string ⟨x.toArray⟩)) p x nm k d b a:=aw (j:=0) h
theorem RB.Gp{W:World}{p:Nat}{r nm k d:Bs}{b a:Bool}(h:RB W p r nm k d b a)(x:Bs):RB (W.setCell ⟨p,3,none⟩ (.string ⟨x.toArray⟩)) p r x k d b a:=aw (j:=3) h
theorem RB.WN{W:World}{p:Nat}{r nm k d:Bs}{b a:Bool}(h:RB W p r nm k d b a)(x:Bs):RB (W.setCell ⟨p,4,none⟩ (.string ⟨x.toArray⟩)) p r nm x d b a:=aw (j:=4) h
theorem RB.xh{W:World}{p:Nat}{r nm k d:Bs}{b a:Bool}(h:RB W p r nm k d b a)(x:Bs):RB (W.setCell ⟨p,5,none⟩ (.string ⟨x.toArray⟩)) p r nm k x b a:=aw (j:=5) h
theorem RB.WO{W:World}{p:Nat}{r nm k d:Bs}{b a:Bool}(h:RB W p r nm k d b a)(x:Bool):RB (W.setCell ⟨p,6,none⟩ (.bool x)) p r nm k d x a:=aw (j:=6) h
theorem RB.WQ{W:World}{p:Nat}{r nm k d:Bs}{a b:Bool}(h:RB W p r nm k d a b)(x:Bool):RB (W.setCell ⟨p,7,none⟩ (.bool x)) p r nm k d a x:=aw (j:=7) h
theorem Cl(r a:Bs)(q:UInt8→Bool)(h:(fun c=>a.contains c)=q):Lib.trimLeftS r a=r.dropWhile q:=by subst h;rfl
theorem Ph(r:Bs)(q:UInt8→Bool):(r.dropWhile q).length≤r.length∧((r.length:Int)-(r.dropWhile q).length).toNat=lead q r∧(r.length:Int)-(r.dropWhile q).length=lead q r∧lead q r≤r.length:=by
 have b:=iV q r;have a:=cz q r;have c:(r.dropWhile q).length=r.length-lead q r:=by rw[←a,bK]
 omega
theorem yt(r:Bs)(n:Nat):((⟨r.toArray⟩:ByteArray).extract 0 n)=⟨(r.take n).toArray⟩:=by apply uG;apply Array.ext';rw[cf];simp
theorem ic(r:Bs)(n m:Nat)(h:r.length≤m):((⟨r.toArray⟩:ByteArray).extract n m)=⟨(r.drop n).toArray⟩:=by apply uG;apply Array.ext';rw[cf];simp;rw[oe (by rw[bK];omega)]
theorem Pj(p:Nat)(r nm k d:Bs)(y x:Bool)(a:ByteArray)(q:UInt8→Bool)(w:World)(hq:(fun c=>a.data.toList.contains c)=q)(G:a.size<4294967281)(u:∀(j:Nat) b,a.data.toList[j]? =some b→b.toNat<128)(J:r.length≤100000000)(m:RB w p r nm k d y x):
 Calls Tryz.prog 221 #[.pointer (some ⟨p,0,none⟩),.string a] w fun e w'=>e=.returned (.string ⟨(r.takeWhile q).toArray⟩)∧RB w' p (r.dropWhile q) nm k d y x∧ak p w w':=by
 obtain⟨n1,n2,z,K⟩:=Ph r q;have l:=m.rc.c0;have s:=ad m;have C:=ad hq;have A:=ad u;have i:=ad (show w.drew.cell? ⟨p,0,none⟩=some (.string ⟨r.toArray⟩) from l);clear m hq u;have H:IntKind.i64.wrap ((r.length:Int)-(r.dropWhile q).length)=lead q r:=by rw[z];exact IntWalk.i64_in _ (by omega)
 clear n2 z;go_enter Tryz.func221,Tryz.ntmps221;go_wp2_with fail;clear l
 go_region_held3 (fun w'=>w'.cell? ⟨p,0,none⟩=some (.string ⟨r.toArray⟩)) (first|with_reducible exact t.out|with_reducible exact i.out)
  (first
   |(go_at_call 76;refine(fw _ a _ G A.out).mono ?_;rintro e L⟨rfl,o⟩;rw[Cl _ _ q C.out];have t:=ad ((((eR o).1 _ 0 (aV i.out))).trans i.out)))
 have n:=kt o;have h:=s.out.next n;have l:=h.rc.c0;have I:=h.rc.f0;have D:=ad (ak.ai (p:=p) n);have B:=ad h;clear t i o n h s H;go_wp2;go_ret;have F:=D.out;have E:=B.out;rw[yt,cU,ic _ _ _ (ag _),cz];exact⟨rfl,E.zG _,F.set⟩
theorem Pk(p:Nat)(r nm k d:Bs)(t o:Bool)(c:UInt8)(w:World)(q:Good w)(z:r.length≤100000000)(h:RB w p r nm k d t o):
 Calls Tryz.prog 224 #[.pointer (some ⟨p,0,none⟩),.string ⟨#[c]⟩] w fun e w'=>e=.returned (.tuple #[.string ⟨(upto c r).toArray⟩,.bool (r.contains c)])∧RB w' p (bif r.contains c then past c r else r) nm k d t o∧ak p w w':=by
 have u:=h.rc.c0;have j:=ad h;clear h;go_enter Tryz.func224,Tryz.ntmps224;go_wp2_with fail;refine(fI ⟨r.toArray⟩ c _ q (by simp[ByteArray.size];omega)).mono ?_;rintro e B⟨rfl,i⟩;have a:=j.out.next i;have y:=a.rc.f0;have A:=a.rc.c0;have m:=ad (ak.ai (p:=p) i);have l:=ad a;have s:hasB c (⟨r.toArray⟩:ByteArray).data.toList=r.contains c:=rfl;rw[s];clear s u j i a q;rcases n:r.contains c with _|_
 ·have b:=ad n;go_wp2;go_ret2;rw[b.out];exact⟨rfl,l.out,m.out⟩
 ·have b:=ad n;go_wp2;go_ret2;have x:=m.out;rw[b.out];exact⟨rfl,l.out.zG _,x.set⟩
theorem Sz(p:Nat)(r nm k d:Bs)(h c:Bool)(w:World)(o:r.length≤100000000)(l:RB w p r nm k d h c):
 Calls Tryz.prog 176 #[.pointer (some ⟨p,0,none⟩)] w fun e w'=>e=.returned (.bool (cD (r.takeWhile dt)))∧RB w' p (r.dropWhile dt) (r.takeWhile dt) k d h c∧ak p w w':=by
 have i:=ad l;clear l;go_enter Tryz.func176,Tryz.ntmps176;go_wp2_with fail;refine(Pj p r nm k d h c ⟨Pg.toArray⟩ dt _ LO (by decide) (ascii_of_all (by decide)) o i.out).mono ?_;rintro e q⟨rfl,a,b⟩;have s:=a.rc.f3;have u:=a.rc.c3;have j:=ad a;have n:=ad b;clear a b i;have t:(q.setCell ⟨p,3,none⟩ (.string ⟨(r.takeWhile dt).toArray⟩)).cell? ⟨p,3,none⟩=some (.string ⟨(r.takeWhile dt).toArray⟩):=(j.out.Gp (r.takeWhile dt)).rc.c3;go_wp2_with fail;refine(GW ⟨(r.takeWhile dt).toArray⟩ _).mono ?_;rintro e x⟨rfl,m⟩;go_wp2;go_ret;have b:=n.out;exact⟨rfl,(j.out.Gp _).next m,b.set.trans (ak.ai m)⟩
def qk(p:Nat)(r nm d:Bs)(a:Bool)(w:World)(e:Ending)(w':World):Prop:=
 match ey r with
 |none=>e=.returned (.bool false)∧ak p w w'
 |some (k,b,c)=>e=.returned (.bool true)∧RB w' p c nm k d b a∧ak p w w'
theorem yu{p:Nat}{r nm d:Bs}{a:Bool}{w w':World}(h:ey r=none)(b:ak p w w'):qk p r nm d a w (.returned (.bool false)) w':=by unfold qk;rw[h];exact⟨rfl,b⟩
theorem vz{p:Nat}{r nm d k c:Bs}{a b:Bool}{w w':World}(h:ey r=some (k,b,c))(e:RB w' p c nm k d b a)(i:ak p w w'):qk p r nm d a w (.returned (.bool true)) w':=by unfold qk;rw[h];exact⟨rfl,e,i⟩
theorem Ip{r:Bs}(h:Lib.hasPrefix r [123]=false):ey r=some ([],false,r):=by unfold ey;rw[h];rfl
theorem Iq{r:Bs}(h:Lib.hasPrefix r [123]=true)(a:(Lib.trimPrefix r [123]).contains 125=false):ey r=none:=by unfold ey;rw[h,a];rfl
theorem LQ{r:Bs}(h:Lib.hasPrefix r [123]=true)(a:fJ (upto 125 (Lib.trimPrefix r [123]))=false):ey r=none:=by unfold ey;rw[h,a,CU];rfl
theorem Ir{r:Bs}(h:Lib.hasPrefix r [123]=true)(a:(Lib.trimPrefix r [123]).contains 125=true)(b:fJ (upto 125 (Lib.trimPrefix r [123]))=true):ey r=some (upto 125 (Lib.trimPrefix r [123]),true,past 125 (Lib.trimPrefix r [123])):=by unfold ey;rw[h,a,b];rfl
theorem rd_key(p:Nat)(r nm d:Bs)(u:Bool)(w:World)(I:Good w)(J:0<p)(X:r.length≤100000000)(c:RB w p r nm [] d false u):
 Calls Tryz.prog 177 #[.pointer (some ⟨p,0,none⟩)] w (qk p r nm d u w):=by
 have L:=c.rc.c0;have N:=c.rc.f0;have O:=c.rc.f6;have k:=ad c;have A:=ad I;clear c I;go_enter Tryz.func177,Tryz.ntmps177;go_wp2_with fail;refine(il ⟨r.toArray⟩ ⟨#[123]⟩ _).mono ?_;rintro e w1⟨rfl,rfl⟩;have b:Lib.hasPrefix (⟨r.toArray⟩:ByteArray).data.toList (⟨#[123]⟩:ByteArray).data.toList=Lib.hasPrefix r [123]:=rfl;have E:Lib.trimPrefix (⟨r.toArray⟩:ByteArray).data.toList (⟨#[123]⟩:ByteArray).data.toList=Lib.trimPrefix r [123]:=rfl;rw[b,E];clear b E;rcases l:Lib.hasPrefix r [123] with _|_
 ·have a:=ad l;go_wp2;go_ret;exact vz (Ip a.out) k.out (ak.refl _ _)
 ·have a:=ad l;have W:=fK l;have Q:=(k.out.zG (Lib.trimPrefix r [123])).rc.f6;have R:=(k.out.zG (Lib.trimPrefix r [123])).rc.c6;clear l;go_wp2_with fail;have x:=(k.out.zG (Lib.trimPrefix r [123])).WO true;have q:ak p w ((w.setCell ⟨p,0,none⟩ (.string ⟨(Lib.trimPrefix r [123]).toArray⟩)).setCell ⟨p,6,none⟩ (.bool true)):=(ak.refl p w).set.set;generalize(w.setCell ⟨p,0,none⟩ (.string ⟨(Lib.trimPrefix r [123]).toArray⟩)).setCell ⟨p,6,none⟩ (.bool true)=T at*;have C:=ad q;have B:=ad (A.out.aN q J);clear q L N O Q R;refine(Pk p (Lib.trimPrefix r [123]) nm [] d true u 125 _ B.out (by omega) x).mono ?_;rintro e w3⟨rfl,h,s⟩;have V:=h.rc.f4;have Z:=h.rc.c4;have o:=ad (C.out.trans s);have S:=ad (A.out.aN (C.out.trans s) J);have y:=ad h;clear x h s B;rcases F:(Lib.trimPrefix r [123]).contains 125 with _|_
  ·have i:=ad F;go_wp2;go_ret;exact yu (Iq a.out i.out) (o.out.set)
  ·have i:=ad F;have Y:=oZ 125 (Lib.trimPrefix r [123]);have m:=y.out.WN (upto 125 (Lib.trimPrefix r [123]));have M:=m.rc.c4;have z:=ad m;clear m;go_wp2_with fail;refine(yv ⟨(upto 125 (Lib.trimPrefix r [123])).toArray⟩ _ (by simp[ByteArray.size];omega)).mono ?_;rintro e w5⟨rfl,t⟩;have b:fJ (⟨(upto 125 (Lib.trimPrefix r [123])).toArray⟩:ByteArray).data.toList=fJ (upto 125 (Lib.trimPrefix r [123])):=rfl;rw[b];clear b;have D:=ad ((o.out.set (j:=4) (v:=.string ⟨(upto 125 (Lib.trimPrefix r [123])).toArray⟩)).trans (ak.ai t));have K:=ad (z.out.next t);clear t M o y z;rcases G:fJ (upto 125 (Lib.trimPrefix r [123])) with _|_
   ·have n:=ad G;go_wp2;go_ret;exact yu (LQ a.out n.out) D.out
   ·have n:=ad G;go_wp2;go_ret;have H:=K.out;rw[i.out] at H;exact vz (Ir a.out i.out n.out) H D.out
end Go.Proofs.YtogchgjfialleaaGreatDoor
namespace Go.Proofs.YtogchgjfialleaaGreatDoor
open Go.RowKit
attribute[local go_sem↓] Go.wp_at_zero Go.wp_at_succ
theorem UH(p:Nat)(r nm k d:Bs)(i h:Bool)(w:World)(a:RB w p r nm k d i h):
 Calls Tryz.prog 179 #[.pointer (some ⟨p,0,none⟩)] w fun e w'=>e=.returned (.bool (Lib.hasPrefix r [41]))∧RB w' p (Lib.trimPrefix r [41]) nm k d i h∧ak p w w':=by
 have l:=a.rc.c0;have m:=a.rc.f0;have j:=ad a;clear a;go_enter Tryz.func179,Tryz.ntmps179;go_wp2_with fail;refine(il ⟨r.toArray⟩ ⟨#[41]⟩ _).mono ?_;rintro e n⟨rfl,rfl⟩;have b:Lib.hasPrefix (⟨r.toArray⟩:ByteArray).data.toList (⟨#[41]⟩:ByteArray).data.toList=Lib.hasPrefix r [41]:=rfl;have c:Lib.trimPrefix (⟨r.toArray⟩:ByteArray).data.toList (⟨#[41]⟩:ByteArray).data.toList=Lib.trimPrefix r [41]:=rfl;rw[b,c];clear b c;go_wp2;go_ret;exact⟨rfl,j.out.zG _,(ak.refl _ _).set⟩
def ql(p:Nat)(r nm k:Bs)(b:Bool)(w:World)(e:Ending)(w':World):Prop:=
 match gm r with
 |none=>e=.returned (.bool false)∧ak p w w'
 |some (d,a,c)=>e=.returned (.bool true)∧RB w' p c nm k d b a∧ak p w w'
theorem yw{p:Nat}{r nm k:Bs}{a:Bool}{w w':World}(h:gm r=none)(b:ak p w w'):ql p r nm k a w (.returned (.bool false)) w':=by unfold ql;rw[h];exact⟨rfl,b⟩
theorem pA{p:Nat}{r nm d k c:Bs}{a b:Bool}{w w':World}(h:gm r=some (d,a,c))(e:RB w' p c nm k d b a)(i:ak p w w'):ql p r nm k b w (.returned (.bool true)) w':=by unfold ql;rw[h];exact⟨rfl,e,i⟩
theorem Is{r:Bs}(h:Lib.hasPrefix r [124]=false):gm r=some ([],false,r):=by unfold gm;rw[h];rfl
theorem Pl{r:Bs}(h:Lib.hasPrefix r [124]=true):gm r=lp (Lib.trimPrefix r [124]):=by unfold gm;rw[h];rfl
theorem It{q:Bs}(h:Lib.hasPrefix q [39]=true)(a:(Lib.trimPrefix q [39]).contains 39=false):lp q=none:=by unfold lp;rw[h,a];rfl
theorem Iu{q:Bs}(h:Lib.hasPrefix q [39]=true)(a:(Lib.trimPrefix q [39]).contains 39=true):lp q=some (upto 39 (Lib.trimPrefix q [39]),true,past 39 (Lib.trimPrefix q [39])):=by unfold lp;rw[h,a];rfl
theorem Iv{q:Bs}(h:Lib.hasPrefix q [39]=false)(a:(q.takeWhile lb).isEmpty=true):lp q=none:=by unfold lp;rw[h,a];rfl
theorem Iw{q:Bs}(h:Lib.hasPrefix q [39]=false)(a:(q.takeWhile lb).isEmpty=false):lp q=some (q.takeWhile lb,true,q.dropWhile lb):=by unfold lp;rw[h,a];rfl
theorem Pf(p:Nat)(r nm k:Bs)(x:Bool)(w:World)(J:Good w)(K:0<p)(hr:r.length≤100000000)(u:RB w p r nm k [] x false):
 Calls Tryz.prog 178 #[.pointer (some ⟨p,0,none⟩)] w (ql p r nm k x w):=by
 have Q:=u.rc.c0;have R:=u.rc.f0;have i:=ad u;have A:=ad J;clear u J;go_enter Tryz.func178,Tryz.ntmps178;go_wp2_with fail;refine(il ⟨r.toArray⟩ ⟨#[124]⟩ _).mono ?_;rintro e X⟨rfl,rfl⟩;have l:Lib.hasPrefix (⟨r.toArray⟩:ByteArray).data.toList (⟨#[124]⟩:ByteArray).data.toList=Lib.hasPrefix r [124]:=rfl;have m:Lib.trimPrefix (⟨r.toArray⟩:ByteArray).data.toList (⟨#[124]⟩:ByteArray).data.toList=Lib.trimPrefix r [124]:=rfl;rw[l,m];clear l m;rcases t:Lib.hasPrefix r [124] with _|_
 ·have d:=ad t;go_wp2;go_ret;exact pA (Is d.out) i.out (ak.refl _ _)
 ·have d:=ad (Pl t);have hl:=fK t;have V:=(i.out.zG (Lib.trimPrefix r [124])).rc.f7;have W:=(i.out.zG (Lib.trimPrefix r [124])).rc.c7;clear t;go_wp2_with fail;have s:=(i.out.zG (Lib.trimPrefix r [124])).WQ true;have y:ak p w ((w.setCell ⟨p,0,none⟩ (.string ⟨(Lib.trimPrefix r [124]).toArray⟩)).setCell ⟨p,7,none⟩ (.bool true)):=(ak.refl p w).set.set;generalize(w.setCell ⟨p,0,none⟩ (.string ⟨(Lib.trimPrefix r [124]).toArray⟩)).setCell ⟨p,7,none⟩ (.bool true)=Z at*;have C:=ad y;have Y:=ad (A.out.aN y K);have L:=s.rc.c0;have M:=s.rc.f0;have z:=ad s;clear y Q R V W s i;generalize Lib.trimPrefix r [124]=q at*;refine(il ⟨q.toArray⟩ ⟨#[39]⟩ _).mono ?_;rintro e X⟨rfl,rfl⟩;have l:Lib.hasPrefix (⟨q.toArray⟩:ByteArray).data.toList (⟨#[39]⟩:ByteArray).data.toList=Lib.hasPrefix q [39]:=rfl;have m:Lib.trimPrefix (⟨q.toArray⟩:ByteArray).data.toList (⟨#[39]⟩:ByteArray).data.toList=Lib.trimPrefix q [39]:=rfl;rw[l,m];clear l m;rcases n:Lib.hasPrefix q [39] with _|_
  ·have h:=ad n;clear n;go_wp2_with fail;refine(Pj p q nm k [] x true ⟨JY.toArray⟩ lb _ Il (by decide) (ascii_of_all (by decide)) (by omega) z.out).mono ?_;rintro e w3⟨rfl,c,G⟩;have S:=c.rc.c5;have T:=c.rc.f5;have a:=c.xh (q.takeWhile lb);have n5:=a.rc.c5;have E:=ad ((C.out.trans G).set (j:=5) (v:=.string ⟨(q.takeWhile lb).toArray⟩));have N:=ad a;clear c G a L M;rcases o:(q.takeWhile lb).isEmpty with _|_
   ·have b:=ad o;go_wp2;go_ret;exact pA (d.out.trans (Iw h.out b.out)) N.out E.out
   ·have b:=ad o;go_wp2;go_ret;exact yw (d.out.trans (Iv h.out b.out)) E.out
  ·have h:=ad n;have aa:=fK n;clear n;go_wp2_with fail;have c:=z.out.zG (Lib.trimPrefix q [39]);have D:=ad (C.out.set (j:=0) (v:=.string ⟨(Lib.trimPrefix q [39]).toArray⟩));have B:=ad (A.out.aN D.out K);refine(Pk p (Lib.trimPrefix q [39]) nm k [] x true 39 _ B.out (by omega) c).mono ?_;rintro e w4⟨rfl,a,H⟩;have S:=a.rc.c5;have T:=a.rc.f5;have F:=ad ((D.out.trans H).set (j:=5) (v:=.string ⟨(upto 39 (Lib.trimPrefix q [39])).toArray⟩));have O:=ad (a.xh (upto 39 (Lib.trimPrefix q [39])));clear c a H L M B;rcases o:(Lib.trimPrefix q [39]).contains 39 with _|_
   ·have b:=ad o;go_wp2;go_ret;exact yw (d.out.trans (It h.out b.out)) F.out
   ·have b:=ad o;go_wp2;go_ret;have I:=O.out;rw[b.out] at I;exact pA (d.out.trans (Iu h.out b.out)) I F.out
theorem index_none:∀(s:Bs),Lib.index s [36,40]=-1→∀i,gI (s.drop i)=false
 |[],h,i=>by rw[List.drop_nil];rfl
 |c::s,h,i=>by
  unfold Lib.index at h;by_cases a:([36,40]:Bs).isPrefixOf (c::s)=true
  ·rw[ah a] at h;cases h
  ·rw[ae a] at h;cases i with
   |zero=>rw[Bool.not_eq_true] at a;exact a
   |succ i=>
    refine index_none s ?_ i;by_cases b:(Lib.index s [36,40]==-1)=true
    ·exact eq_of_beq b
    ·rw[ae b] at h;have:=Lib.index_ge s [36,40];omega
theorem yx:∀(s:Bs) (j:Nat),Lib.index s [36,40]=(j:Int)→gI (s.drop j)=true∧∀i,i<j→gI (s.drop i)=false
 |[],j,h=>by unfold Lib.index at h;rw[ae (by decide)] at h;omega
 |c::s,j,h=>by
  unfold Lib.index at h;by_cases a:([36,40]:Bs).isPrefixOf (c::s)=true
  ·rw[ah a] at h;obtain rfl:j=0:=by omega
   exact⟨a,fun i l=>by omega⟩
  ·rw[ae a] at h;by_cases b:(Lib.index s [36,40]==-1)=true
   ·rw[ah b] at h;omega
   ·rw[ae b] at h;have m:=Lib.index_ge s [36,40];have n:Lib.index s [36,40]≠-1:=fun e=>b (by rw[e];rfl);cases j with
    |zero=>omega
    |succ j=>
     obtain⟨d,k⟩:=yx s j (by omega);refine⟨d,fun i l=> ?_⟩;cases i with
     |zero=>rw[Bool.not_eq_true] at a;exact a
     |succ i=>exact k i (by omega)
theorem rJ{s:Bs}{i:Nat}:∀(j:Nat),(∀m,m<j→gI (s.drop (i+m))=false)→cv s i=cv s (i+j)
 |0,_=>rfl
 |j+1,h=>by rw[rJ j (fun m a=>h m (by omega)),nO (py (h j (by omega)))];rfl
theorem yp{s:Bs}{i:Nat}(h:Lib.index (s.drop i) [36,40]=-1):cv s i=none:=by have:=rJ (s:=s) (i:=i) s.length (fun m _=>by rw[←fh];exact index_none _ h m);rw[this];exact yq (by omega)
theorem zF{s:Bs}{i j:Nat}(h:Lib.index (s.drop i) [36,40]=(j:Int)):cv s i=cv s (i+j)∧gI (s.drop (i+j))=true∧i+j+2≤s.length:=by obtain⟨a,b⟩:=yx _ _ h;rw[fh] at a;refine⟨rJ j (fun m c=>by have:=b m c;rw[fh] at this;exact this),a, ?_⟩;have:=gL a;rw[bK] at this;simp at this;omega
end Go.Proofs.YtogchgjfialleaaGreatDoor
