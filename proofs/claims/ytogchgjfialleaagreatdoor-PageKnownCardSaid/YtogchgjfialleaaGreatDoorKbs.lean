/- The walk of the maker's node. -/
import Derived.Test.YtogchgjfialleaaGreatDoorKbr
set_option linter.unusedVariables false
set_option maxRecDepth 100000
set_option maxHeartbeats 4000000
namespace Go.Proofs.YtogchgjfialleaaGreatDoor
open Go.RowKit
theorem gG(p:Bs×Value)(l:List (Bs×Value))(q:Bs):assoc (p::l) q=if(p.1==q)=true then some p.2 else assoc l q:=by unfold assoc;rw[uH];cases p.1==q<;>rfl
theorem G3(l:List (Bs×Value))(k:Bs)(v:Value)(a:assoc l k=none)(q:Bs):assoc (l++[(k,v)]) q=if(k==q)=true then some v else assoc l q:=by
 induction l with
 |nil=>exact gG (k,v) [] q
 |cons p r c=>
  rw[gG] at a;by_cases b:(p.1==k)=true
  ·rw[ah b] at a;cases a
  ·rw[ae b] at a;rw[di,gG,gG,c a];by_cases hq:(k==q)=true
   ·have:¬(p.1==q)=true:=by rw[←bZ.1 hq];exact b
    rw[ae this,ah hq,ah hq]
   ·rw[ae hq,ae hq]
theorem vm(k:ByteArray)(v:Value):∀(es:List MapEntry) (l:List (Bs×Value)) (i:Nat),es.map (fun e=>(e.key,e.val))=ML l→∀(j:Nat) (w:Value),Instr.findNow .string (.string k) es i=some (some (j,w))→
 ∃n c e,j=i+n∧es[n]? =some e∧e.key=.string k∧(es.modify n fun e=>{e with key:=.string k,val:=v}).map (fun e=>(e.key,e.val))=ML c∧∀q,assoc c q=if(k.data.toList==q)=true then some v else assoc l q
 |[],_,i,_,j,w,h=>by injection h with h;cases h
 |e::es,[],i,h,_,_,_=>by simp[ML] at h
 |e::es,p::l,i,h,j,w,a=>by
  simp only[ML,kg,List.cons.injEq,kj] at h;obtain⟨⟨d,A⟩,r⟩:=h;have z:Instr.sameNow .string (.string k) e.key=some (p.1==k.data.toList):=by rw[d];show some (k==(⟨p.1.toArray⟩:ByteArray))=_;rw[AM];congr 1;rw[gf];simp only[bZ];exact⟨Eq.symm,Eq.symm⟩
  unfold Instr.findNow at a;rw[z] at a;cases b:(p.1==k.data.toList)
  ·rw[b] at a;obtain⟨n,c,s,t,m,u,x,y⟩:=vm k v es l (i+1) r j w a;refine⟨n+1,p::c,s,by omega,by simpa using m,u, ?_,fun q=> ?_⟩
   ·rw[List.modify_succ_cons,kg,x];simp[ML,d,A]
   ·rw[gG,gG,y];by_cases hq:(k.data.toList==q)=true
    ·have:¬(p.1==q)=true:=by rw[←bZ.1 hq,b];exact Bool.false_ne_true
     rw[ae this,ah hq,ah hq]
    ·rw[ae hq,ae hq]
  ·rw[b] at a;injection a with a;injection a with a;injection a with t m;have o:p.1=k.data.toList:=bZ.1 b;refine⟨0,(k.data.toList,v)::l,e,by omega,rfl,by rw[d,o], ?_,fun q=> ?_⟩
   ·rw[List.modify_zero_cons,kg,r];simp[ML]
   ·rw[gG,gG,o];by_cases hq:(k.data.toList==q)=true
    ·rw[ah hq,ah hq]
    ·rw[ae hq,ae hq,ae hq]
theorem map_set{W:World}{b:Nat}{l:List (Bs×Value)}(h:gg W b l)(T e:TypeId)(o:Tryz.prog.underlying T=some (.map 9 e))(k:ByteArray)(v:Value):
 ∃W' d,(Instr.mapUpdate T (.map (some b)) (.string k) v).run Tryz.prog W=.ok () W'∧gg W' b d∧(∀q,assoc d q=if(k.data.toList==q)=true then some v else assoc l q)∧QP b W W':=by
 cases m:assoc l k.data.toList with
 |none=>obtain⟨W',a,c,u⟩:=JM h T e o k v m;exact⟨W',_,a,c,G3 l _ v m,u⟩
 |some x=>
  obtain⟨es,clock,i,p⟩:=h;obtain⟨r,a,c⟩:=nM k es.toList l 0 p;rw[m] at c;cases r with
  |none=>cases c
  |some D=>
   obtain⟨j,w⟩:=D;obtain⟨n,d,t,s,E,F,G,H⟩:=vm k v es.toList l 0 p j w a;rw[dH] at s;subst s;have y:=MapKept.run_checkKey (P:=Tryz.prog) (w:=W) u9 (k:=.string k) trivial false 9999;have B:es[j]? =some t:=by rw[←Array.getElem?_toList];exact E
   have C:Instr.sameBits 10000 (.string k) (.string k)=true:=by unfold Instr.sameBits;exact(MapKept.bytes_beq k k).2 rfl
   have A:(Instr.keyThatStays (.string k) (.string k)).run Tryz.prog W=.ok (.string k) W:=by unfold Instr.keyThatStays;rw[C];rfl
   refine⟨W.putObj b (.map (es.modify j fun e=>{e with key:=.string k,val:=v}) clock),d, ?_,⟨_,_,wK ((aB.1 i).1), ?_⟩,H, ?_⟩
   ·unfold Instr.mapUpdate;simp[run_underlying o,MapKept.run_getObj_map i,y,MapKept.run_findKey u9 a,MapKept.run_setObj_map _ i,Result.andThen,World.putObj,B,F,A]
   ·rw[Array.toList_modify];exact G
   ·exact⟨rfl,rfl,rfl,by simp,fun j z=>hX z⟩
theorem GI(l:List (Bs×Bs))(k t q:Bs):fb (l++[(k,t)]) q=if(k==q)=true then some t else fb l q:=by unfold fb;rw[List.reverse_append,List.reverse_singleton,List.singleton_append,uH];cases k==q<;>rfl
theorem MX.map{E:ME}{w:World}{M:List Nat}{S:PS}{out:Bs}(H:MX E w M S out):∃l,gg w E.im l∧∀q,assoc l q=(fb S.inl q).map fun t=>.agg #[.string ⟨t.toArray⟩]:=by obtain⟨av,rv,b,a,_⟩:=H;exact a.inl
theorem MX.Ue{E:ME}{w w':World}{M:List Nat}{S:PS}{out:Bs}(H:MX E w M S out){l i:List (Bs×Value)}(n:∀q,assoc l q=(fb S.inl q).map fun t=>.agg #[.string ⟨t.toArray⟩])(p:gg w' E.im i)(k:ByteArray)(t:Bs)(o:∀q,assoc i q=if(k.data.toList==q)=true then some (.agg #[.string ⟨t.toArray⟩]) else assoc l q)(a:QP E.im w w'):
 MX E w' M {S with inl:=S.inl++[(k.data.toList,t)]} out∧bC M w M w':=by
 obtain⟨av,rv,j,h,rfl⟩:=H;obtain⟨n1,n2,r⟩:=h.apart;have d:∀v g,v.ownBlock=some g→v∈[av,rv,j]→w'.heap[g]? =w.heap[g]? :=fun v g m c=>a.block g (n2 g (cQ.2 ⟨v,c,m⟩)).2;refine⟨⟨av,rv,j,⟨h.up.trans (a.below h.far.2),(a.block _ n1).trans h.box,bw h.asked fun g q=>d av g q (by simp),bw h.reads fun g q=>d rv g q (by simp),bw h.lE fun g q=>d j g q (by simp),⟨i,p,fun q=> ?_⟩,h.vW,h.far⟩,rfl⟩,⟨Nat.le_of_eq a.size.symm,fun b m c=>⟨c,a.block b fun e=>c (by rw[e];exact bY _ eF)⟩⟩⟩;rw[o,n];show _=(fb (S.inl++[(k.data.toList,t)]) q).map _;rw[GI];by_cases hq:(k.data.toList==q)=true
 ·rw[ah hq,ah hq];rfl
 ·rw[ae hq,ae hq]
structure NX (E:ME) (W:World) (M0:List Nat) (wx:World) (M:List Nat) (S:PS) (out:Bs) (bm:Nat) (base:U) (dp:Nat) (vs:Bool) (k p:Int) (t:Bs) (a:List bQ) (aa:Option Addr) (ac:Nat) (l:List Nd) (ka:Option Addr) (kc:Nat):Prop where
 mx:MX E wx M S out
 st:bC M0 W M wx
 hm:KX M wx bm (.cells #[.pointer (some ⟨E.mb,0,none⟩)] 61)
 hn:KX M wx (bm+1) (.cells (eH k p t (.slice aa a.length ac) (.slice ka l.length kc)).toArray 45)
 hp:KX M wx (bm+1+1) (.cells (zv base dp vs).toArray 89)
 at_:aP (fun b=>b∉M) wx a (.slice aa a.length ac)
 kd:fC (fun b=>b∉M) wx l (.slice ka l.length kc)
section
variable{E:ME}{W wx wy:World}{M0 M M':List Nat}{S S':PS}{out out':Bs}{bm:Nat}{base:U}{dp:Nat}{vs:Bool}{k p:Int}{t:Bs}{a:List bQ}{aa:Option Addr}{ac:Nat}{l:List Nd}{ka:Option Addr}{kc:Nat}
theorem NX.stay(h:NX E W M0 wx M S out bm base dp vs k p t a aa ac l ka kc)(i:MX E wy M' S' out')(c:bC M wx M' wy):NX E W M0 wy M' S' out' bm base dp vs k p t a aa ac l ka kc:=
 ⟨i,h.st.trans c,h.hm.stay c,h.hn.stay c,h.hp.stay c,h.at_.cO c.size fun b d e=>c.cO b e d,h.kd.stay c⟩
theorem NX.next(h:NX E W M0 wx M S out bm base dp vs k p t a aa ac l ka kc)(b:Below wx.heap.size wx wy):NX E W M0 wy M S out bm base dp vs k p t a aa ac l ka kc:=h.stay (h.mx.next b) (bC.ai b)
theorem Uf(H:MX E W M S out)(q:aP (fun b=>b∉M) W a (.slice aa a.length ac))(r:fC (fun b=>b∉M) W l (.slice ka l.length kc))(A B C:Obj)(m:A=.cells #[.pointer (some ⟨E.mb,0,none⟩)] 61)(n:B=.cells (eH k p t (.slice aa a.length ac) (.slice ka l.length kc)).toArray 45)(o:C=.cells (zv base dp vs).toArray 89):
 NX E W M (((W.alloc A).alloc B).alloc C) M S out W.heap.size base dp vs k p t a aa ac l ka kc:=by
 have c:Below W.heap.size W (((W.alloc A).alloc B).alloc C):=((az W A).alloc (by rw[aO];omega) B).alloc (by rw[aO,aO];omega) C;have d:∀b,W.heap.size≤b→b∉M:=fun b h s=>by have:=(H.mlt b s).2;omega
 have e:=au ((W.alloc A).alloc B) C;rw[aO,aO] at e;subst m n o;exact⟨H.next c,bC.ai c,⟨aG (jX W _ _) _,d _ (ag _)⟩,⟨aG (iT W _ _) _,d _ (fB _)⟩,⟨e,d _ (by omega)⟩,q.cO c.size fun b i j=>⟨i,c.block b j⟩,r.next c⟩
theorem NX.work(h:NX E W M0 wx M S out bm base dp vs k p t a aa ac l ka kc):NX E W M0 (wx.setCell ⟨E.mb,5,none⟩ (.int .i64 ((S.work:Int)+1))) M S.step out bm base dp vs k p t a aa ac l ka kc:=h.stay h.mx.work.1 h.mx.work.2
theorem NX.ret(h:NX E W M0 wx M S out bm base dp vs k p t a aa ac l ka kc){R:PS×Oc}{b:Ending}(c:dk E M wx out R b wy):dk E M0 W out R b wy:=dk.pre h.st c
theorem NX.yes(h:NX E W M0 wx M S out bm base dp vs k p t a aa ac l ka kc){R:PS×Oc}(b:R=(S,.yes [])):dk E M0 W out R (.returned (.bool true)) wx:=by subst b;exact⟨rfl,M,by rw[jm];exact h.mx,h.st⟩
theorem NX.vars(h:NX E W M0 wx M S out bm base dp vs k p t a aa ac l ka kc)(o:E.w0.heap.size≤bm+1+1)(r:W.heap.size≤bm)(n:aP (fun b=>b∉M0) W a (.slice aa a.length ac))(q:fC (fun b=>b∉M0) W l (.slice ka l.length kc)):
 NX E W M0 (wx.setCell ⟨bm+1+1,7,none⟩ (.bool true)) M S out bm base dp true k p t a aa ac l ka kc:=by
 have d:ak (bm+1+1) wx (wx.setCell ⟨bm+1+1,7,none⟩ (.bool true)):=(ak.refl _ _).set;have c:=h.st.off (p:=bm+1+1) (by omega) d;refine⟨h.mx.off h.hp.2 o d,c,⟨(d.block _ (aB.1 h.hm.1).1 (by intro e;injection e with e;omega)).trans h.hm.1,h.hm.2⟩,⟨(d.block _ (aB.1 h.hn.1).1 (by intro e;injection e with e;omega)).trans h.hn.1,h.hn.2⟩,⟨aw (j:=7) h.hp.1,h.hp.2⟩,n.cO c.size fun b i m=>c.cO b m i,q.stay c⟩
end
theorem GJ{E:ME}{M:List Nat}{W:World}{out:Bs}{r:PS×Oc}{a:Ending}{w':World}(h:dk E M W out r a w'):(∃b,a=.returned (.bool b)∧dk E M W out r (.returned (.bool b)) w')∨(a=.panicked [gA]∧dk E M W out r (.panicked [gA]) w'):=by
 obtain⟨S,o⟩:=r;cases o with
 |yes t=>exact .inl ⟨true,h.1,rfl,h.2⟩
 |no=>exact .inl ⟨false,h.1,rfl,h.2⟩
 |wait=>exact .inr ⟨h.1,rfl,h.2⟩
theorem K3{P:fx}{deep:Deep}{base:U}{l:List Nd}{d e:Nd}(a:l[0]? =some d)(b:l[1]? =some e)(vs:Bool)(S:PS)(n:Nat):ot P deep base l vs S n=Au (bT P deep base d vs S n) fun c=>bT P deep base e vs c n:=by
 match l,a,b with
 |y0::h::r,a,b=>simp at a b;subst a b;rw[ot];congr 1;try(funext c;rw[qJ])
theorem Ug{l:List Nd}{c d:Nd}(a:l[0]? =some c)(b:l[1]? =some d):wN c+wN d≤wL l:=by
 match l,a,b with
 |y0::e::r,a,b=>simp at a b;subst a b;rw[wL,wL];omega
theorem Rw{E:ME}{deep:Deep}{base:U}{dp:Nat}(HE:QQ E)(HD:Ju E deep dp)(HG:Rv E.env deep)(HK:DM E.env deep base)(hb:DO base)(b6:dp≤1000)(k p:Int)(t:Bs)(a:List bQ)(l:List Nd)(ok:sy (.mk k p t a l))(hN:∀x∈l,kl E deep base dp x∧∀y∈x.kids,kl E deep base dp y):kl E deep base dp (.mk k p t a l):=by
 intro W M S out vs v a6 cb hw ho;obtain⟨aa,ac,ka,kc,rfl,bJ,b8⟩:=cb.shape;have be:Hid (aP (fun b=>b∉M) W a (.slice aa a.length ac)):=ad bJ;have bl:Hid (fC (fun b=>b∉M) W l (.slice ka l.length kc)):=ad b8;have bi:=ad (show E.w0.heap.size≤W.heap.size from a6.up.size);have HT:=ad (Uf (base:=base) (dp:=dp) (vs:=vs) (k:=k) (p:=p) (t:=t) a6 be.out bl.out _ _ _ rfl rfl rfl);obtain⟨R,hR⟩:∃R,bT E.env deep base (.mk k p t a l) vs S out.length=R:=⟨_,rfl⟩;rw[hR];rw[xy] at hR;have C:=ad hR.symm;rw[sy] at ok;have F:=ad ok;have br:=ad (show bq E.inc S (t.length+3+bV a+wL l) by rw[wN] at hw;exact hw);have al:=ad (show bq E.inc S.step (t.length+2+bV a+wL l) from bq.step (br.out.less (by omega)));have ap:=ad HE;have cn:=ad HD;have bk:=ad HG;have a0:=ad HK;have bf:=ad hb;have co:=ad b6;have aq:=ad hN;have ab:=ad ho;have i3:(S.work:Int)≤90000000:=by have:=br.out.work;omega
 have i4:(0:Int)≤(S.work:Int):=by omega
 show Calls Tryz.prog 19 #[.pointer (some ⟨E.mb,0,none⟩),wZ k p t (.slice aa a.length ac) (.slice ka l.length kc),Tp base dp vs] W (dk E M W out R);clear a6 cb hw ho bJ b8 hR ok HE HD HG HK hb b6 hN;go_enter Tryz.func19,Tryz.ntmps19;go_upto_region 1 with fail;generalize((W.alloc (.cells #[.pointer (some ⟨E.mb,0,none⟩)] 61)).alloc (.cells #[.int .i64 k,.int .i64 p,.string ⟨t.toArray⟩,.slice aa a.length ac,.slice ka l.length kc] 45)).alloc (.cells (zv base dp vs).toArray 89)=W1 at*;have D:=aj 0 HT.out.hm.1;have b5:W1.cell? ⟨E.mb,5,none⟩=some (.int .i64 (S.work:Int)):=by obtain⟨av,rv,ov,hm,_⟩:=HT.out.mx;exact aj 5 hm.box
 have f5:W1.frozen? ⟨E.mb,5,none⟩=false:=by obtain⟨av,rv,ov,hm,_⟩:=HT.out.mx;exact aA hm.box
 have d:=ad HT.out.work;have a7:=ad (show E.w0.heap.size≤W.heap.size+1+1∧W.heap.size≤W.heap.size by have:=bi.out;omega);generalize b3:W.heap.size=bm at HT d a7 D⊢;have bg:Hid (E.w0.heap.size≤bm+1+1∧W.heap.size≤bm):=ad ⟨a7.out.1,Nat.le_of_eq b3⟩;clear b3 a7 bi;go_upto_region 2 with fail;generalize W1.setCell ⟨E.mb,5,none⟩ (.int .i64 ((S.work:Int)+1))=W2 at*;clear D b5 f5 HT i3 i4;have D:=aj 0 d.out.hm.1;have x0:=aj 0 d.out.hn.1;have x1:=aj 1 d.out.hn.1;have x2:=aj 2 d.out.hn.1;have x3:=aj 3 d.out.hn.1;have x4:=aj 4 d.out.hn.1;have H:=aj 0 d.out.hp.1;have I:=aj 1 d.out.hp.1;have J:=aj 2 d.out.hp.1;have K:=aj 3 d.out.hp.1;have L:=aj 4 d.out.hp.1;have O:=aj 5 d.out.hp.1;have T:=aj 6 d.out.hp.1;have V:=aj 7 d.out.hp.1;by_cases c:k=2
 ·subst c;have i:=ad (C.out.trans (ah rfl));have B:=ad (Ro ap.out d.out.mx t (by have:=F.out.1;omega) (by have:=al.out.reads;omega) (by have:=ab.out;omega) base dp vs);obtain⟨q,hq⟩:∃q,lS E.env vs t S.step out.length=q:=⟨_,rfl⟩;rw[hq] at B i;obtain⟨Z,Y⟩:=q;clear hq C;go_wp2_with fail;refine B.out.mono ?_;intro X r o;have o:=o.Xa;clear D x0 x1 x2 x3 x4 H I J K L O T V B;cases Y with
  |yes t5=>obtain⟨rfl,c⟩:=o;have e:=ad (show dk E M W out R (.returned (.bool true)) r by rw[i.out];exact d.out.ret ⟨rfl,c⟩);clear c;go_wp2_with fail;go_ret;exact e.out
  |no=>obtain⟨rfl,c⟩:=o;have e:=ad (show dk E M W out R (.returned (.bool false)) r by rw[i.out];exact d.out.ret ⟨rfl,c⟩);clear c;go_wp2_with fail;go_ret;exact e.out
  |wait=>obtain⟨rfl,c⟩:=o;have e:=ad (show dk E M W out R (.panicked [gA]) r by rw[i.out];exact d.out.ret ⟨rfl,c⟩);clear c;go_wp2_with fail;exact⟨rfl,e.out⟩
 by_cases h4:k=4
 ·subst h4;have i:Hid (R=(lV base a t S.step,.yes [])):=ad C.out;have a3:=ad (pU (A:=fun b=>b∉M) 4 p t kO (aa:=aa) (ka:=ka) (ac:=ac) (kn:=l.length) (kc:=kc) (l:=a) W2 d.out.at_ F.out.2.1);have ch:((bG a kO).getD []).length≤65536:=by
   cases ha:bG a kO with
   |none=>exact aH _
   |some v=>exact tW ha F.out.2.2.1
  have a9:=ad ch;have a1:=ad (show R=(if(eW base ((bG a kO).getD [])).2=0 then({S.step with inl:=S.step.inl++[(nE (eW base ((bG a kO).getD [])).1,t)]}:PS) else S.step,.yes []) from i.out);obtain⟨s,hs⟩:∃s,(bG a kO).getD []=s:=⟨_,rfl⟩;obtain⟨d1,b7⟩:∃b,(bG a kO).isSome=b:=⟨_,rfl⟩;rw[hs] at a3 a9 a1;rw[b7] at a3;clear hs b7 ch C i;go_wp2_with fail;refine a3.out.mono ?_;rintro X w3⟨rfl,b0⟩;have m:=ad (d.out.next b0);have a8:=ad (DP base s w3 (ap.out.gl.gx.next m.out.mx.up) bf.out (by have:=a9.out;omega));have bo:=ad (fun h:(eW base s).2=0=>pZ ((eC _).1 (Jd h)));obtain⟨Q,hQ⟩:∃Q,eW base s=Q:=⟨_,rfl⟩;rw[hQ] at a8 a1 bo;obtain⟨u,e2⟩:=Q;clear b0 hQ a9 D x0 x1 x2 x3 x4 H I J K L O T V a3;have H:=aj 0 m.out.hp.1;have I:=aj 1 m.out.hp.1;have J:=aj 2 m.out.hp.1;have K:=aj 3 m.out.hp.1;have L:=aj 4 m.out.hp.1;have O:=aj 5 m.out.hp.1;have T:=aj 6 m.out.hp.1;have V:=aj 7 m.out.hp.1;go_wp2_with fail;refine a8.out.mono ?_;rintro X w4⟨rfl,bb⟩;clear H I J K L O T V a8;have hA5:=az w4 (.cells (qz u).toArray 34);have af:Hid (KX M (w4.alloc (.cells #[.string ⟨u.scheme.toArray⟩,.string ⟨u.host.toArray⟩,.int .i64 u.port,.string ⟨u.path.toArray⟩,.string ⟨u.query.toArray⟩,.bool u.hq] 34)) w4.heap.size (.cells (qz u).toArray 34)):=ad (rk (m.out.next bb).mx (.cells (qz u).toArray 34));have ay:Hid (NX E W M (w4.alloc (.cells #[.string ⟨u.scheme.toArray⟩,.string ⟨u.host.toArray⟩,.int .i64 u.port,.string ⟨u.path.toArray⟩,.string ⟨u.query.toArray⟩,.bool u.hq] 34)) M S.step out bm base dp vs 4 p t a aa ac l ka kc):=ad ((m.out.next bb).next hA5);clear bb hA5;go_upto_region 8 with fail;generalize w4.alloc (.cells #[.string ⟨u.scheme.toArray⟩,.string ⟨u.host.toArray⟩,.int .i64 u.port,.string ⟨u.path.toArray⟩,.string ⟨u.query.toArray⟩,.bool u.hq] 34)=W5 at*;generalize w4.heap.size=ub at*;by_cases he:e2=0
  ·subst he;have cK:=ad (show R=({S.step with inl:=S.step.inl++[(nE u,t)]},.yes []) by rw[a1.out];rfl);go_upto_region 9 with fail;have G:=ad (ay.out.next (ax W5 1));have dq:=ad (af.out.next (ax W5 1));have cx:=ad (wa u (W5.drewN 1) (ap.out.gl.gx.next G.out.mx.up) (bo.out rfl));have D:=aj 0 ay.out.hm.1;have x2:=aj 2 ay.out.hn.1;have u0:W5.cell? ⟨ub,0,none⟩=some (.string ⟨u.scheme.toArray⟩):=aj 0 af.out.1;have u1:W5.cell? ⟨ub,1,none⟩=some (.string ⟨u.host.toArray⟩):=aj 1 af.out.1;have u2:W5.cell? ⟨ub,2,none⟩=some (.int .i64 u.port):=aj 2 af.out.1;have u3:W5.cell? ⟨ub,3,none⟩=some (.string ⟨u.path.toArray⟩):=aj 3 af.out.1;have u4:W5.cell? ⟨ub,4,none⟩=some (.string ⟨u.query.toArray⟩):=aj 4 af.out.1;have u5:W5.cell? ⟨ub,5,none⟩=some (.bool u.hq):=aj 5 af.out.1;have c1:=ay.out.mx.Tq
   go_region_with (go_at_call 16;refine cx.out.mono ?_;rintro X r⟨rfl,b1⟩;have z:=ad (G.out.next b1);obtain⟨l6,b9,bv⟩:=z.out.mx.map;obtain⟨w7,l7,c7,ca,bx,b2⟩:=map_set b9 62 _ Vt ⟨(nE u).toArray⟩ (.agg #[.string ⟨t.toArray⟩]);have bn:=ad (z.out.mx.Ue bv ca _ t bx b2);have cO:=ad (z.out.stay bn.out.1 bn.out.2);have H7:=ad (cO.out.yes cK.out);have n0:=aj 0 z.out.hm.1;have n2:=aj 2 z.out.hn.1;have c8:=z.out.mx.Tq;clear b1 b9 bv ca bx b2)
   all_goals
    clear D x2 u0 u1 u2 u3 u4 u5 c1 n0 n2 c8 c7;go_wp2_with fail;go_ret;exact H7.out
  ·have q2:=eS he;have e:=ad (ay.out.yes (show R=(S.step,.yes []) by rw[a1.out];show((if e2=0 then _ else S.step:PS),Oc.yes [])=_;rw[ae he]));clear he;go_wp2_with fail;go_ret;exact e.out
 by_cases h5:k=5
 ·subst h5;have e:=ad (d.out.yes (C.out:R=(S.step,.yes [])));go_wp2_with fail;go_ret;exact e.out
 by_cases h6:k=6
 ·subst h6;have e:=ad (d.out.yes (C.out:R=(S.step,.yes [])));go_wp2_with fail;go_ret;exact e.out
 by_cases h3:k=3
 ·subst h3;have i:Hid (R=oQ E.env deep base a S.step out.length):=ad C.out;have B:=ad (GF ap.out cn.out bk.out bf.out co.out d.out.mx (k:=3) (p:=p) (t:=t) (ka:=ka) (kn:=l.length) (kc:=kc) d.out.at_ F.out.2.1 F.out.2.2.1 (al.out.less (by omega)) ab.out vs);obtain⟨q,hq⟩:∃q,oQ E.env deep base a S.step out.length=q:=⟨_,rfl⟩;rw[hq] at B i;obtain⟨Z,Y⟩:=q;clear hq C;go_wp2_with fail;refine B.out.mono ?_;intro X r o;have o:=o.Xa;clear D x0 x1 x2 x3 x4 H I J K L O T V B;cases Y with
  |yes t5=>obtain⟨rfl,c⟩:=o;have e:=ad (show dk E M W out R (.returned (.bool true)) r by rw[i.out];exact d.out.ret ⟨rfl,c⟩);clear c;go_wp2_with fail;go_ret;exact e.out
  |no=>obtain⟨rfl,c⟩:=o;have e:=ad (show dk E M W out R (.returned (.bool false)) r by rw[i.out];exact d.out.ret ⟨rfl,c⟩);clear c;go_wp2_with fail;go_ret;exact e.out
  |wait=>obtain⟨rfl,c⟩:=o;have e:=ad (show dk E M W out R (.panicked [gA]) r by rw[i.out];exact d.out.ret ⟨rfl,c⟩);clear c;go_wp2_with fail;exact⟨rfl,e.out⟩
 by_cases h7:k=7
 ·subst h7;have i:Hid (R=ot E.env deep base l vs S.step out.length):=ad C.out;have c6:2≤l.length:=F.out.2.2.2.2.1 rfl;obtain⟨y0,ao⟩:∃y,l[0]? =some y:=⟨_,cA (by omega)⟩;obtain⟨y1,aN⟩:∃y,l[1]? =some y:=⟨_,cA (by omega)⟩;have a2:=ad (i.out.trans (K3 ao aN vs S.step out.length));have bs:=ad (show bq E.inc S.step (wN y0+wN y1) from al.out.less (by have:=Ug ao aN;omega));have ct:=ad (F.out.2.2.2.2.2.get (eQ ao));have ck:=ad (aq.out y0 (eQ ao)).1;have cl:=ad (aq.out y1 (eQ aN)).1;have c0:=ad aN;have G:=ad (d.out.next (ax W2 1));obtain⟨kb,ko,xa,xc,xk,xd,rfl,c2,cc,b4⟩:=G.out.kd.get ao;have aU:=ad (xu G.out.mx (by have:=ab.out;omega) _ _ (fun vs w=>cP Tryz.func31 (by kernel_rfl) rfl vs w) (NZ (n:=ny) (av:=undef) G.out.mx ck.out (kn:=l.length) (kc:=kc) (by omega) G.out.hm.1 (aj 4 G.out.hn.1) cc (fun j v hv=>by have:=b4 j v hv;rwa [Nat.zero_mul,qF] at this) G.out.hp.1 (bs.out.less (sd _ _)) ab.out));have bp:=ad (a0.out.room y0 ct.out vs S.step out.length _ bs.out);obtain⟨q,hq⟩:∃q,bT E.env deep base y0 vs S.step out.length=q:=⟨_,rfl⟩;rw[hq] at aU a2 bp;have ds:(1:Int)<(l.length:Int):=by omega
  have d0:1<l.length:=by omega
  obtain⟨N,hN⟩:∃N,l.length=N:=⟨_,rfl⟩;obtain⟨Z,Y⟩:=q;clear hq C i ao aN c2 cc b4 c6;go_upto_region 18 with fail;cases Y with
  |yes t5=>
   have ai:Hid (R=(Z,.yes t5)):=ad a2.out;first|go_region_with (go_at_call 32;refine aU.out.mono ?_;rintro X r⟨rfl,h6⟩;have H6:=ad (show dk E M W out R (.returned (.bool true)) r by rw[ai.out];exact G.out.ret ⟨rfl,h6⟩);clear h6)|fail
   all_goals
    clear D x0 x1 x2 x3 x4 H I J K L O T V;go_wp2_with fail;go_ret;exact H6.out
  |wait=>
   have ai:Hid (R=(Z,.wait)):=ad a2.out
   go_region_dies
   all_goals
    refine aU.out.mono ?_;rintro X r⟨rfl,h6⟩;exact⟨rfl,by rw[ai.out];exact G.out.ret (R:=(Z,.wait)) ⟨rfl,h6⟩⟩
  |no=>
   have ai:Hid (R=bT E.env deep base y1 vs Z out.length):=ad a2.out
   go_region_with (first
    |(go_at_call 32;refine aU.out.mono ?_;rintro X r⟨rfl,M6,ci,ce⟩;have z:=ad (G.out.stay ci ce);obtain⟨d2,d3,ya,yc,yk,yd,bd,c3,cd,am⟩:=z.out.kd.get c0.out;injection bd with bd;injection bd with c4 c5;subst c4;subst c5;have cs:=ad (cl.out r M6 Z out vs _ z.out.mx cd bp.out ab.out);have y0:=am 0 _ rfl;have y1:=am 1 _ rfl;have y2:=am 2 _ rfl;have y3:=am 3 _ rfl;have y4:=am 4 _ rfl;have n0:=aj 0 z.out.hm.1;have n4:=aj 4 z.out.hn.1;have r0:=aj 0 z.out.hp.1;have r1:=aj 1 z.out.hp.1;have r2:=aj 2 z.out.hp.1;have r3:=aj 3 z.out.hp.1;have r4:=aj 4 z.out.hp.1;have r5:=aj 5 z.out.hp.1;have r6:=aj 6 z.out.hp.1;have r7:=aj 7 z.out.hp.1;clear ci ce c3 cd am)
    |(go_at_call 19;go_must (refine cs.out.mono ?_;intro X w7 o;refine(GJ o).elim ?_ ?_;rotate_left;(focus (rintro⟨rfl,h7⟩;refine⟨rfl, ?_⟩;rw[ai.out];exact z.out.ret h7));rintro⟨b,rfl,h7⟩;have H7:=ad (show dk E M W out R (.returned (.bool b)) w7 by rw[ai.out];exact z.out.ret h7);clear h7 o)))
   all_goals
    clear D x0 x1 x2 x3 x4 H I J K L O T V;go_wp2_with fail;go_ret;exact H7.out
 by_cases a4:k=10
 ·subst a4;have i:Hid (R=eK E.env deep base l vs S.step out.length):=ad C.out;have B:=ad (K0 ap.out bk.out a0.out d.out.mx aq.out (k:=10) (p:=p) (t:=t) (aa:=aa) (an:=a.length) (ac:=ac) rfl d.out.kd F.out.2.2.2.2.2 F.out.2.2.2.1 (al.out.less (by omega)) ab.out vs);obtain⟨q,hq⟩:∃q,eK E.env deep base l vs S.step out.length=q:=⟨_,rfl⟩;rw[hq] at B i;obtain⟨Z,Y⟩:=q;clear hq C;go_wp2_with fail;refine B.out.mono ?_;intro X r o;clear D x0 x1 x2 x3 x4 H I J K L O T V B;cases Y with
  |yes t5=>obtain⟨rfl,c⟩:=o;have e:=ad (show dk E M W out R (.returned (.bool true)) r by rw[i.out];exact d.out.ret ⟨rfl,c⟩);clear c;go_wp2_with fail;go_ret;exact e.out
  |no=>obtain⟨rfl,c⟩:=o;have e:=ad (show dk E M W out R (.returned (.bool false)) r by rw[i.out];exact d.out.ret ⟨rfl,c⟩);clear c;go_wp2_with fail;go_ret;exact e.out
  |wait=>obtain⟨rfl,c⟩:=o;have e:=ad (show dk E M W out R (.panicked [gA]) r by rw[i.out];exact d.out.ret ⟨rfl,c⟩);clear c;go_wp2_with fail;exact⟨rfl,e.out⟩
 by_cases a5:k=13
 ·subst a5;have i:Hid (R=dJ E.env deep base l (vs||true) S.step out.length):=ad C.out;rw[Bool.or_true] at i;have m:=ad (d.out.vars bg.out.1 bg.out.2 be.out bl.out);have f7:W2.frozen? ⟨bm+1+1,7,none⟩=false:=aA d.out.hp.1;have B:=ad (GC a0.out m.out.mx (fun x hx=>(aq.out x hx).1) m.out.kd F.out.2.2.2.2.2 F.out.2.2.2.1 (al.out.less (by omega)) ab.out true);obtain⟨q,hq⟩:∃q,dJ E.env deep base l true S.step out.length=q:=⟨_,rfl⟩;rw[hq] at B i;obtain⟨Z,Y⟩:=q;clear hq C;go_upto_region 23 with fail;generalize W2.setCell ⟨bm+1+1,7,none⟩ (.bool true)=W3 at*;clear D x0 x1 x2 x3 x4 H I J K L O T V f7;have D:=aj 0 m.out.hm.1;have x4:=aj 4 m.out.hn.1;have H:=aj 0 m.out.hp.1;have I:=aj 1 m.out.hp.1;have J:=aj 2 m.out.hp.1;have K:=aj 3 m.out.hp.1;have L:=aj 4 m.out.hp.1;have O:=aj 5 m.out.hp.1;have T:=aj 6 m.out.hp.1;have V:=aj 7 m.out.hp.1;go_wp2_with fail;refine B.out.mono ?_;intro X r o;clear D x4 H I J K L O T V B;cases Y with
  |yes t5=>obtain⟨rfl,c⟩:=o;have e:=ad (show dk E M W out R (.returned (.bool true)) r by rw[i.out];exact m.out.ret ⟨rfl,c⟩);clear c;go_wp2_with fail;go_ret;exact e.out
  |no=>obtain⟨rfl,c⟩:=o;have e:=ad (show dk E M W out R (.returned (.bool false)) r by rw[i.out];exact m.out.ret ⟨rfl,c⟩);clear c;go_wp2_with fail;go_ret;exact e.out
  |wait=>obtain⟨rfl,c⟩:=o;have e:=ad (show dk E M W out R (.panicked [gA]) r by rw[i.out];exact m.out.ret ⟨rfl,c⟩);clear c;go_wp2_with fail;exact⟨rfl,e.out⟩
 have i:Hid (R=dJ E.env deep base l vs S.step out.length):=ad (by have h:=C.out;rw[ae c,ae h4,ae (by rintro(h|h);exact h5 h;exact h6 h),ae h3,ae h7,ae a4,cL a5,Bool.or_false] at h;exact h)
 have B:=ad (GC a0.out d.out.mx (fun x hx=>(aq.out x hx).1) d.out.kd F.out.2.2.2.2.2 F.out.2.2.2.1 (al.out.less (by omega)) ab.out vs);obtain⟨q,hq⟩:∃q,dJ E.env deep base l vs S.step out.length=q:=⟨_,rfl⟩;rw[hq] at B i;obtain⟨Z,Y⟩:=q;have q2:=eS c;have q4:=eS h4;have q5:=eS h5;have q6:=eS h6;have q3:=eS h3;have q7:=eS h7;have c9:=eS a4;have dl:=eS a5;clear hq C c h3 h4 h5 h6 h7 a4 a5;go_wp2_with fail;refine B.out.mono ?_;intro X r o;clear D x0 x1 x2 x3 x4 H I J K L O T V B q2 q3 q4 q5 q6 q7 c9 dl;cases Y with
 |yes t5=>obtain⟨rfl,c⟩:=o;have e:=ad (show dk E M W out R (.returned (.bool true)) r by rw[i.out];exact d.out.ret ⟨rfl,c⟩);clear c;go_wp2_with fail;go_ret;exact e.out
 |no=>obtain⟨rfl,c⟩:=o;have e:=ad (show dk E M W out R (.returned (.bool false)) r by rw[i.out];exact d.out.ret ⟨rfl,c⟩);clear c;go_wp2_with fail;go_ret;exact e.out
 |wait=>obtain⟨rfl,c⟩:=o;have e:=ad (show dk E M W out R (.panicked [gA]) r by rw[i.out];exact d.out.ret ⟨rfl,c⟩);clear c;go_wp2_with fail;exact⟨rfl,e.out⟩
