/- The walk of page.Eval. -/
import Derived.Test.YtogchgjfialleaaGreatDoorKbs
set_option linter.unusedVariables false
set_option maxRecDepth 100000
set_option maxHeartbeats 4000000
namespace Go.Proofs.YtogchgjfialleaaGreatDoor
open Go.RowKit
theorem DU{E:ME}(h:QQ E){d dp:Nat}(e:Ju E (rl E.env d) dp)(j:dp≤1000){base:U}(i:DO base)(n:Nd)(ok:sy n):kl E (rl E.env d) base dp n:=by refine(Nd.ind (P:=fun n=>sy n→kl E (rl E.env d) base dp n∧∀y∈n.kids,kl E (rl E.env d) base dp y) (fun k p t a l q ok=> ?_) n ok).1;have m:DN l:=(DS ok).2;have c:∀x∈l,kl E (rl E.env d) base dp x∧∀y∈x.kids,kl E (rl E.env d) base dp y:=fun x b=>q x b (m.get b);exact⟨Rw h e (we E.env d).1 (Uh E.env d base) i j k p t a l ok c,fun y o=>(c y o).1⟩
theorem N3{E:ME}(a:QQ E)(d:Nat):∀(dp:Nat),dp+d=E.dep→∀(base:U),DO base→∀n,sy n→kl E (rl E.env d) base dp n:=by
 have j:=a.d1;induction d with
 |zero=>exact fun dp h base b n ok=>DU a (.inl ⟨rfl,by omega⟩) (by omega) b n ok
 |succ d i=>exact fun dp h base b n ok=>DU a (.inr ⟨rl E.env d,rfl,by omega,fun u n e c=>i (dp+1) (by omega) u e n c⟩) (by omega) b n ok
abbrev WI(E:ME)(ok:Bool)(S:PS)(av rv ov:Value):List Value:=[.string ⟨#[]⟩,.bool ok,.bool false,av,.int .i64 S.aU,.int .i64 S.work,rv,ov,.string ⟨E.h.toArray⟩,.string ⟨E.t.toArray⟩,.slice E.fa E.fn E.fc,.int .i64 E.inc,.int .i64 E.dep,.slice E.ga E.fZ.length E.gc,.map (some E.im)]
structure KZ (E:ME) (W:World) (ok:Bool) (S:PS) (out:Bs) (av rv ov:Value):Prop where
 up:Below E.w0.heap.size E.w0 W
 box:W.heap[E.mb]? =some (.cells (WI E ok S av rv ov).toArray 65)
 asked:W.ownsRow E.w0.heap.size 34 6 av S.asked.length (nB S.asked)
 reads:W.ownsRow E.w0.heap.size 9 1 rv S.reads.length (cM S.reads)
 lE:W.ownsRow E.w0.heap.size 5 1 ov out.length (da out)
 vW:(MB E av rv ov).Nodup
 far:E.w0.heap.size≤E.mb
def MZ(E:ME)(W:World)(M:List Nat)(ok:Bool)(S:PS)(out:Bs):Prop:=∃av rv ov,KZ E W ok S out av rv ov∧M=MB E av rv ov
section
variable{E:ME}{W W':World}{M:List Nat}{S:PS}{out:Bs}{ok:Bool}{av rv ov:Value}
theorem KZ.lt(H:KZ E W ok S out av rv ov):E.mb<W.heap.size:=(aB.1 H.box).1
theorem KZ.cO(H:KZ E W ok S out av rv ov)(i:Below E.w0.heap.size E.w0 W')(h:∀b∈MB E av rv ov,b≠E.im→W'.heap[b]? =W.heap[b]?):KZ E W' ok S out av rv ov:=by
 obtain⟨n1,n2,m,n⟩:=fF.1 H.vW;have d:∀v g,v.ownBlock=some g→v∈[av,rv,ov]→W'.heap[g]? =W.heap[g]? :=fun v g a c=>h g (bY _ (bY _ (cQ.2 ⟨v,c,a⟩))) (fun e=>by
  obtain⟨j,k,l⟩:=n2 g (.inr e);simp at c;rcases c with rfl|rfl|rfl
  ·exact j a
  ·exact k a
  ·exact l a)
 exact⟨i,(h _ eF n1).trans H.box,bw H.asked fun g q=>d av g q (by simp),bw H.reads fun g q=>d rv g q (by simp),bw H.lE fun g q=>d ov g q (by simp),H.vW,H.far⟩
theorem MX.Xl(H:MX E W M S out):MZ E W M false S out:=by obtain⟨av,rv,ov,h,e⟩:=H;exact⟨av,rv,ov,⟨h.up,h.box,h.asked,h.reads,h.lE,h.vW,h.far.1⟩,e⟩
theorem MX.Xb(H:MX E W M S out)(b:Bool):MZ E (W.setCell ⟨E.mb,1,none⟩ (.bool b)) M b S out:=by
 obtain⟨av,rv,ov,h,e⟩:=H;have d:ak E.mb W (W.setCell ⟨E.mb,1,none⟩ (.bool b)):=(ak.refl _ _).set;obtain⟨n1,n2,l⟩:=h.apart;have a:∀v g,v.ownBlock=some g→v∈[av,rv,ov]→(W.setCell ⟨E.mb,1,none⟩ (.bool b)).heap[g]? =W.heap[g]? :=fun v g i k=>by have c:g∈bM [av,rv,ov]:=cQ.2 ⟨v,k,i⟩;exact d.block g (h.mlt g (bY _ (bY _ c))).2 (by intro e;injection e with e;exact(n2 g c).1 e)
 exact⟨av,rv,ov,⟨h.up.trans (d.below h.far.1 h.up.size),aw (j:=1) h.box,bw h.asked fun g q=>a av g q (by simp),bw h.reads fun g q=>a rv g q (by simp),bw h.lE fun g q=>a ov g q (by simp),h.vW,h.far.1⟩,e⟩
theorem MX.WJ(H:MX E W M S out):E.mb∈M:=by obtain⟨av,rv,ov,_,rfl⟩:=H;exact eF
theorem MX.Xc(H:MX E W M S out)(v:Value):bC M W M (W.setCell ⟨E.mb,1,none⟩ v):=
 ⟨((ak.refl E.mb W).set (j:=1) (v:=v)).size,fun b c a=>⟨a,dy W ⟨E.mb,1,none⟩ v b (by intro e;exact a (e▸H.WJ))⟩⟩
theorem KZ.mlt(H:KZ E W ok S out av rv ov):∀b∈MB E av rv ov,b≠E.im→E.w0.heap.size≤b∧b<W.heap.size:=fun b a c=>by
 rcases bL.1 a with rfl|a
 ·exact⟨H.far,H.lt⟩
 rcases bL.1 a with rfl|a
 ·exact absurd rfl c
 rcases vP.1 a with h|h|h
 ·exact H.asked.lt b h
 ·exact H.reads.lt b h
 ·exact H.lE.lt b h
theorem MZ.off{p:Nat}(H:MZ E W M ok S out)(j:p∉M)(d:E.w0.heap.size≤p)(c:ak p W W'):MZ E W' M ok S out:=by obtain⟨av,rv,ov,h,rfl⟩:=H;exact⟨av,rv,ov,h.cO (h.up.trans (c.below d h.up.size)) fun b a i=>c.block b (h.mlt b a i).2 (by intro e;injection e with e;exact j (e▸a)),rfl⟩
end
theorem N4(b:Nat)(w:World):
 CallsD Tryz.prog 26 #[.pointer (some ⟨b,0,none⟩)] .returning w fun e h w'=>e=.returned (.tuple #[])∧h=.returning∧w'=w:=by
 refine callsD_of_wpS Tryz.func26 rfl fun c i d=> ?_;apply wpS_seq;apply wpS_region;simp[wpOpsS,go_sem,recoverD,d,Tryz.ntmps26,Exit.thenS];refine wpS_of_wp ?_;have a:((#[.pointer (some ⟨b,0,none⟩)]:Array Value)++(Array.replicate 9 undef).setIfInBounds 3 .nilIface)=#[.pointer (some ⟨b,0,none⟩),undef,undef,undef,.nilIface,undef,undef,undef,undef,undef]:=rfl;rw[a];clear a;cases c;go_wp2_with fail;refine⟨rfl,_,rfl,.tuple #[], ?_,rfl,rfl,rfl⟩;simp[results,Tryz.results26,go_sem]
theorem Rx(w:World):(Instr.typeAssert (.iface 87 (.agg #[])) 20 87 true).run Tryz.prog w=.ok (.tuple #[.agg #[],.bool true]) w:=by kernel_rfl
theorem GK(b:Nat)(v0:Bool)(w:World)(H:w.heap[b]? =some (.cells #[.bool v0] 4)):
 CallsD Tryz.prog 26 #[.pointer (some ⟨b,0,none⟩)] (.panicking [gA]) w fun e m w'=>e=.returned (.tuple #[])∧m=.panicking [{gA with recovered:=true}]∧w'.heap[b]? =some (.cells #[.bool false] 4)∧∃h,Below w.heap.size w h∧w'=h.setCell ⟨b,0,none⟩ (.bool false):=by
 have c:=aj 0 H;have l:=aF _ _ 0 _ _ H;refine callsD_of_wpS Tryz.func26 rfl fun k p a=> ?_;apply wpS_seq;apply wpS_region;simp[wpOpsS,go_sem,recoverD,a,gA,Tryz.ntmps26,Exit.thenS];refine wpS_of_wp ?_;have r:=Rx;have d:((#[.pointer (some ⟨b,0,none⟩)]:Array Value)++(Array.replicate 9 undef).setIfInBounds 3 (.iface 87 (.agg #[])))=#[.pointer (some ⟨b,0,none⟩),undef,undef,undef,.iface 87 (.agg #[]),undef,undef,undef,undef,undef]:=rfl;rw[d];have o:∀O,(w.alloc O).cell? ⟨b,0,none⟩=some (.bool v0):=fun O=>aI c O;have q:∀O,(w.alloc O).frozen? ⟨b,0,none⟩=false:=fun O=>aA (aG H O);have i:=ad H;clear d c l H;cases k;have n:=ad a;clear a;go_wp2_with fail;refine⟨rfl,_,rfl,.tuple #[], ?_,rfl,rfl, ?_,_,az w _,rfl⟩
 ·simp[results,Tryz.results26,go_sem]
 ·exact aw (j:=0) (aG i.out _)
theorem uX{W:World}{tmps:Array Value}{b:Nat}{v:Bool}(h:W.heap[b]? =some (.cells #[.bool v] 4))(c:tmps.getD 8 undef=.pointer (some ⟨b,0,none⟩)):(results Tryz.f18 tmps).run Tryz.prog W=.ok (.bool v) W:=by
 have y:=aj 0 h;have a:tmps[8]?.getD undef=.pointer (some ⟨b,0,none⟩):=by rw[←c];simp
 simp[results,Tryz.results18,go_sem,a,y]
theorem zy{w:World}{tmps:Array Value}{b:Nat}{v0:Bool}{Q:Ending→World→Prop}(H:w.heap[b]? =some (.cells #[.bool v0] 4))(j:tmps.getD 8 undef=.pointer (some ⟨b,0,none⟩))(c:∀a,Below w.heap.size w a→Q (.returned (.bool false)) (a.setCell ⟨b,0,none⟩ (.bool false))):
 Leaves Tryz.prog Tryz.f18 tmps Q [{target:=.fn (.func 26) #[.pointer (some ⟨b,0,none⟩)],args:=#[]}] (.panicking [gA]) w:=by
 refine leaves_cons (f:=26) (args:=#[.pointer (some ⟨b,0,none⟩)]) (by simp) (by simp[go_sem]) ?_;refine(GK b v0 w H).mono ?_;rintro e k l⟨rfl,rfl,d,a,h,rfl⟩;have i:=uX d j;simp only[Leaves,settle,gA];exact⟨_,i,c a h⟩
theorem oR{w:World}{tmps:Array Value}{b:Nat}{v:Bool}{Q:Ending→World→Prop}(H:w.heap[b]? =some (.cells #[.bool v] 4))(d:tmps.getD 8 undef=.pointer (some ⟨b,0,none⟩))(a:Q (.returned (.bool v)) w):
 Leaves Tryz.prog Tryz.f18 tmps Q [{target:=.fn (.func 26) #[.pointer (some ⟨b,0,none⟩)],args:=#[]}] .returning w:=by
 refine leaves_cons (f:=26) (args:=#[.pointer (some ⟨b,0,none⟩)]) (by simp) (by simp[go_sem]) ?_;refine(N4 b w).mono ?_;rintro e h i⟨rfl,rfl,rfl⟩;have c:=uX H d;simp only[Leaves,settle];exact⟨_,c,a⟩
def BT(E:ME)(M:List Nat)(W:World)(out:Bs)(r:PS×Oc):Ending→World→Prop:=fun b w'=>∃a,bC M W a w'∧match r.2 with
 |.yes t=>b=.returned (.bool true)∧MZ E w' a true r.1 (out++t)
 |.no=>b=.returned (.bool true)∧∃g,MZ E w' a false r.1 (out++g)
 |.wait=>b=.returned (.bool false)∧∃g,MZ E w' a false r.1 (out++g)
theorem Ui{E:ME}{deep:Deep}{base:U}{W:World}{M:List Nat}{S:PS}{out:Bs}(H:MX E W M S out){n:Nd}(V:kl E deep base 0 n){v:Value}(R:fu (fun b=>b∉M) W n v)(Z:bq E.inc S (wN n))(Y:out.length≤262144):
 Calls Tryz.prog 18 #[.pointer (some ⟨E.mb,0,none⟩),.func (.func 19) #[.pointer (some ⟨E.mb,0,none⟩)] #[],v,uV base] W (BT E M W out (bT E.env deep base n false S out.length)):=by
 obtain⟨aa,ac,ka,kc,rfl,-,-⟩:=R.shape;have al:∀(fn:Fn) (first cap:Array Value) (w:World),(Instr.makeFunc fn first cap).run Tryz.prog w=.ok (.func fn first cap) w:=fun _ _ _ _=>rfl;have af:E.w0.heap.size≤W.heap.size:=H.up.size;have B:∀b,W.heap.size≤b→b∉M:=fun b h k=>by have:=(H.mlt b k).2;omega
 have Q:=au ((W.alloc (.cells #[.int .i64 n.kind,.int .i64 n.place,.string ⟨n.text.toArray⟩,.slice aa n.attrs.length ac,.slice ka n.kids.length kc] 45)).alloc (.cells #[.string ⟨base.scheme.toArray⟩,.string ⟨base.host.toArray⟩,.int .i64 base.port,.string ⟨base.path.toArray⟩,.string ⟨base.query.toArray⟩,.bool base.hq] 34)) (.cells #[.bool false] 4);rw[aO,aO] at Q;have y:=ad (show KX M _ (W.heap.size+1+1) (.cells #[.bool false] 4) from⟨Q,B _ (by omega)⟩);have r:=ad (show KX M _ W.heap.size (.cells (eH n.kind n.place n.text (.slice aa n.attrs.length ac) (.slice ka n.kids.length kc)).toArray 45) from⟨aG (jX W (.cells #[.int .i64 n.kind,.int .i64 n.place,.string ⟨n.text.toArray⟩,.slice aa n.attrs.length ac,.slice ka n.kids.length kc] 45) (.cells #[.string ⟨base.scheme.toArray⟩,.string ⟨base.host.toArray⟩,.int .i64 base.port,.string ⟨base.path.toArray⟩,.string ⟨base.query.toArray⟩,.bool base.hq] 34)) (.cells #[.bool false] 4),B _ (ag _)⟩);have m:=ad (show KX M _ (W.heap.size+1) (.cells (qz base).toArray 34) from⟨aG (iT W (.cells #[.int .i64 n.kind,.int .i64 n.place,.string ⟨n.text.toArray⟩,.slice aa n.attrs.length ac,.slice ka n.kids.length kc] 45) (.cells #[.string ⟨base.scheme.toArray⟩,.string ⟨base.host.toArray⟩,.int .i64 base.port,.string ⟨base.path.toArray⟩,.string ⟨base.query.toArray⟩,.bool base.hq] 34)) (.cells #[.bool false] 4),B _ (fB _)⟩);have A:Below W.heap.size W (((W.alloc (.cells #[.int .i64 n.kind,.int .i64 n.place,.string ⟨n.text.toArray⟩,.slice aa n.attrs.length ac,.slice ka n.kids.length kc] 45)).alloc (.cells #[.string ⟨base.scheme.toArray⟩,.string ⟨base.host.toArray⟩,.int .i64 base.port,.string ⟨base.path.toArray⟩,.string ⟨base.query.toArray⟩,.bool base.hq] 34)).alloc (.cells #[.bool false] 4)):=((az W _).alloc (by rw[aO];omega) _).alloc (by rw[aO,aO];omega) _;have ab:=ad (H.next A);have I:=ad (bC.ai (M:=M) A);have F:=ad (V _ M S out false _ ab.out (R.next A) Z Y);have z:=ad (show E.w0.heap.size≤W.heap.size+1+1 by omega);obtain⟨q,hq⟩:∃q,bT E.env deep base n false S out.length=q:=⟨_,rfl⟩;rw[hq] at F⊢;obtain⟨S1,oc⟩:=q;clear hq Q B A R Z Y af H V
 go_enter_defers Tryz.func18,Tryz.ntmps18
 go_upto_region 2 with fail;generalize((W.alloc (.cells #[.int .i64 n.kind,.int .i64 n.place,.string ⟨n.text.toArray⟩,.slice aa n.attrs.length ac,.slice ka n.kids.length kc] 45)).alloc (.cells #[.string ⟨base.scheme.toArray⟩,.string ⟨base.host.toArray⟩,.int .i64 base.port,.string ⟨base.path.toArray⟩,.string ⟨base.query.toArray⟩,.bool base.hq] 34)).alloc (.cells #[.bool false] 4)=s at*;generalize am:W.heap.size=nb at r m y z⊢;have G:=ad (show W.heap.size≤nb+1+1 by omega);clear am;have x0:=aj 0 r.out.1;have x1:=aj 1 r.out.1;have x2:=aj 2 r.out.1;have x3:=aj 3 r.out.1;have x4:=aj 4 r.out.1;have u0:s.cell? ⟨nb+1,0,none⟩=some (.string ⟨base.scheme.toArray⟩):=aj 0 m.out.1;have u1:s.cell? ⟨nb+1,1,none⟩=some (.string ⟨base.host.toArray⟩):=aj 1 m.out.1;have u2:s.cell? ⟨nb+1,2,none⟩=some (.int .i64 base.port):=aj 2 m.out.1;have u3:s.cell? ⟨nb+1,3,none⟩=some (.string ⟨base.path.toArray⟩):=aj 3 m.out.1;have u4:s.cell? ⟨nb+1,4,none⟩=some (.string ⟨base.query.toArray⟩):=aj 4 m.out.1;have u5:s.cell? ⟨nb+1,5,none⟩=some (.bool base.hq):=aj 5 m.out.1;go_wp2_with fail;refine F.out.mono ?_;intro en i T;clear x0 x1 x2 x3 x4 u0 u1 u2 u3 u4 u5 F r m al;cases oc with
 |yes t=>
  obtain⟨rfl,x,o,d⟩:=T;have c:=ad (y.out.stay d);have a:=ad o;have u:=ad (I.out.trans d);clear o d;have L:=ad (a.out.Xb true);have O:i.frozen? ⟨E.mb,1,none⟩=false:=by obtain⟨av,rv,ov,k,_⟩:=a.out;exact aA k.box
  have b1:i.cell? ⟨E.mb,1,none⟩=some (.bool false):=by obtain⟨av,rv,ov,k,_⟩:=a.out;exact aj 1 k.box
  go_upto_region 3 with fail;have p:=ad (show(i.setCell ⟨E.mb,1,none⟩ (.bool true)).heap[nb+1+1]? =some (.cells #[.bool false] 4) from(dy i ⟨E.mb,1,none⟩ (.bool true) (nb+1+1) (by intro e;exact c.out.2 (e▸a.out.WJ))).trans c.out.1);have D:=ad c.out.2;have J:=ad (u.out.trans (a.out.Xc (.bool true)));clear O b1 a c;generalize i.setCell ⟨E.mb,1,none⟩ (.bool true)=l at*;have c8:=aj 0 p.out;have f8:l.frozen? ⟨nb+1+1,0,none⟩=false:=aA p.out;have N:=ad (L.out.off D.out z.out ((ak.refl (nb+1+1) l).set (j:=0) (v:=.bool true)));have K:=ad (J.out.off G.out ((ak.refl (nb+1+1) l).set (j:=0) (v:=.bool true)));have C:=ad (show(l.setCell ⟨nb+1+1,0,none⟩ (.bool true)).heap[nb+1+1]? =some (.cells #[.bool true] 4) from aw (j:=0) p.out);go_wp2_with fail;exact oR C.out rfl ⟨x,K.out,rfl,N.out⟩
 |no=>
  obtain⟨rfl,x,g,o,d⟩:=T;have c:=ad (y.out.stay d);have a:=ad o;have u:=ad (I.out.trans d);clear o d;have L:=ad (a.out.Xb false);have O:i.frozen? ⟨E.mb,1,none⟩=false:=by obtain⟨av,rv,ov,k,_⟩:=a.out;exact aA k.box
  have b1:i.cell? ⟨E.mb,1,none⟩=some (.bool false):=by obtain⟨av,rv,ov,k,_⟩:=a.out;exact aj 1 k.box
  go_upto_region 3 with fail;have p:=ad (show(i.setCell ⟨E.mb,1,none⟩ (.bool false)).heap[nb+1+1]? =some (.cells #[.bool false] 4) from(dy i ⟨E.mb,1,none⟩ (.bool false) (nb+1+1) (by intro e;exact c.out.2 (e▸a.out.WJ))).trans c.out.1);have D:=ad c.out.2;have J:=ad (u.out.trans (a.out.Xc (.bool false)));clear O b1 a c;generalize i.setCell ⟨E.mb,1,none⟩ (.bool false)=l at*;have c8:=aj 0 p.out;have f8:l.frozen? ⟨nb+1+1,0,none⟩=false:=aA p.out;have N:=ad (L.out.off D.out z.out ((ak.refl (nb+1+1) l).set (j:=0) (v:=.bool true)));have K:=ad (J.out.off G.out ((ak.refl (nb+1+1) l).set (j:=0) (v:=.bool true)));have C:=ad (show(l.setCell ⟨nb+1+1,0,none⟩ (.bool true)).heap[nb+1+1]? =some (.cells #[.bool true] 4) from aw (j:=0) p.out);go_wp2_with fail;exact oR C.out rfl ⟨x,K.out,rfl,g,N.out⟩
 |wait=>obtain⟨rfl,x,g,o,d⟩:=T;have c:=ad (y.out.stay d);have a:=ad o;have u:=ad (I.out.trans d);clear o d;go_wp2_with fail;exact zy c.out.1 rfl fun w1 X=>⟨x,(u.out.trans (bC.ai X)).off G.out ((ak.refl _ _).set),rfl,g,((a.out.next X).Xl).off c.out.2 z.out ((ak.refl _ _).set)⟩
end Go.Proofs.YtogchgjfialleaaGreatDoor
namespace Go.Proofs.YtogchgjfialleaaGreatDoor
open Go.Lib
def jr(l:List bQ):Prop:=∀a∈l,a.name.length≤16
mutual
def vj:Nd→Prop
 |.mk _ _ _ a l=>jr a∧xF l
def xF:List Nd→Prop
 |[]=>True
 |x::r=>vj x∧xF r
end
theorem JH:∀{a:List Nd} {n:Nd},xF a→vj n→xF (a++[n])
 |[],n,_,b=>by rw[kK,xF,xF];exact⟨b,trivial⟩
 |x::r,n,h,b=>by rw[xF] at h;rw[di,xF];exact⟨h.1,JH h.2 b⟩
theorem JI(n:Nd):vj n↔jr n.attrs∧xF n.kids:=by cases n;rw[vj];rfl
theorem B8{y n:Nd}(a:vj y)(b:vj n):vj (fV y n):=by rw[JI] at a⊢;exact⟨a.1,JH a.2 b⟩
theorem RO{y:Nd}(a:vj y)(t:Bs):vj (vN y t):=by rw[JI] at a⊢;exact a
theorem oW:jr []:=fun a h=>by cases h
theorem Lf{s:Bs}{tag i:Nat}{l:List bQ}{a:bQ}{t:Nat}(h:fU s tag i l=.aq a t):a.name.length≤16:=by
 unfold fU at h;dsimp only at h
 repeat' split at h
 all_goals first
  |(cases h;done)
  |(cases h;dsimp only;rw[gu];omega)
theorem xG{s:Bs}{tag:Nat}:∀(f i:Nat) (l:List bQ) {d:List bQ} {j:Nat},jr l→cE s tag f i l=.aq d j→jr d
 |0,i,l,d,j,_,h=>by unfold cE at h;cases h
 |f+1,i,l,d,j,e,h=>by
  unfold cE at h;dsimp only at h;split at h
  ·cases h
  ·split at h
   ·cases h;exact e
   ·split at h
    ·cases h
    ·split at h
     ·cases h
     ·rename_i a t k;refine xG f t (l++[a]) (fun b c=> ?_) h;rcases gZ.1 c with c|c
      ·exact e b c
      ·rw[fj.1 c];exact Lf k
theorem AL{s:Bs}{tag:Nat}{nm:Bs}{l:List bQ}{k:Int}{j:Nat}{t:Tok}{m:Nat}(a:jr l)(h:gv s tag nm l k j=.aq t m):jr t.attrs:=by
 unfold gv at h;split at h
 ·cases h
 ·split at h
  ·cases h;exact a
  ·cases h
theorem RP{s:Bs}{tag:Nat}{nm:Bs}{i:Nat}{t:Tok}{m:Nat}(h:qw s tag nm i=.aq t m):jr t.attrs:=by
 unfold qw at h;split at h
 ·cases h
 ·rename_i l j b;have a:=xG _ _ _ oW b;split at h
  ·exact AL a h
  ·exact AL a h
theorem OD{s nm:Bs}{tag i:Nat}{t:Tok}{m:Nat}(h:iU s nm tag i=.aq t m):jr t.attrs:=by
 unfold iU at h;dsimp only at h;split at h
 ·cases h
 ·split at h
  ·cases h
  ·cases h;exact oW
theorem Lg{s:Bs}{tag:Nat}{c:List Tok}{m:Nat}(h:dB s tag=.aq c m):∀t∈c,jr t.attrs:=by
 unfold dB at h;dsimp only at h;split at h
 ·split at h
  ·cases h
  ·rename_i t j i;have b:=RP i;split at h
   ·split at h
    ·cases h
    ·rename_i r k l;have d:=OD l;cases h;intro u a;rcases bL.1 a with e|a
     ·rw[e];exact b
     ·rw[fj.1 a];exact d
   ·cases h;intro u a;rw[fj.1 a];exact b
 ·cases h
theorem GU{s:Bs}{tag:Nat}{a:List Tok}{m:Nat}(h:de s tag=.aq a m):∀t∈a,jr t.attrs:=by
 unfold de at h;dsimp only at h;split at h
 ·split at h
  ·cases h
  ·split at h
   ·cases h;intro u b;rw[fj.1 b];exact oW
   ·cases h
 ·cases h
theorem Lh{s:Bs}{k i:Nat}{hid:Option Nat}{x:List Tok×Option Nat}{m:Nat}(h:fq s k i hid=.aq x m):∀t∈x.1,jr t.attrs:=by
 have b:∀k i j,∀t∈[cS s k [] [] i j],jr t.attrs:=fun k i j t c=>by rw[fj.1 c];exact oW
 unfold fq at h;split at h
 ·split at h
  ·cases h
  ·rename_i l j a;cases h;exact Lg a
 ·split at h
  ·split at h
   ·cases h
   ·rename_i l j a;cases h;exact GU a
  ·split at h
   ·split at h
    ·cases h
    ·cases h;exact b _ _ _
   ·cases h;exact b _ _ _
theorem Li(s:Bs)(src i:Nat):∀t∈dc s src i,jr t.attrs:=by
 unfold dc;split
 ·intro t a;rw[fj.1 a];exact oW
 ·intro t a;cases a
theorem xH(s:Bs):∀(f src i:Nat) (hid:Option Nat) (l:List Tok) {b:List Tok} {m:Nat},(∀t∈l,jr t.attrs)→gS s f src i hid l=.aq b m→∀t∈b,jr t.attrs
 |0,src,i,hid,l,b,m,_,h=>by unfold gS at h;cases h
 |f+1,src,i,hid,l,b,m,c,h=>by
  have d:=Li s src i;unfold gS at h;dsimp only at h;split at h
  ·split at h
   ·exact xH s f src (i+1) hid l c h
   ·split at h
    ·cases h
    ·rename_i x j k;have e:=Lh k;refine xH s f j j x.2 (l++dc s src i++x.1) (fun t a=> ?_) h;rcases gZ.1 a with a|a
     ·rcases gZ.1 a with a|a
      ·exact c t a
      ·exact d t a
     ·exact e t a
  ·split at h
   ·cases h
   ·cases h;intro t a;rcases gZ.1 a with a|a
    ·exact c t a
    ·exact d t a
theorem RQ{x y:rf}{t:Tok}(e:jr t.attrs)(a:vj x.top∧xF x.below)(h:lM x t=.aq y):vj y.top∧xF y.below:=by
 have c:∀k p s,vj (.mk k p s [] []):=fun k p s=>by rw[vj,xF];exact⟨oW,trivial⟩
 have node:∀k p s,vj (.mk k p s t.attrs []):=fun k p s=>by rw[vj,xF];exact⟨e,trivial⟩
 unfold lM at h;split at h
 ·unfold Dv at h;split at h
  ·injection h with h;subst h;exact⟨B8 a.1 (c _ _ _),a.2⟩
  ·split at h
   ·injection h with h;subst h;exact a
   ·cases h
 split at h
 ·injection h with h;subst h;exact⟨RO a.1 _,a.2⟩
 split at h
 ·unfold BL at h;dsimp only at h;obtain⟨_,b⟩:=sE h;subst b;split
  ·exact⟨B8 a.1 (node _ _ _),a.2⟩
  ·exact⟨node _ _ _,by rw[xF];exact a⟩
 split at h
 ·unfold Jo at h;dsimp only at h;obtain⟨_,b⟩:=sE h;subst b;exact⟨c _ _ _,by rw[xF];exact a⟩
 ·unfold Q9 at h;generalize(if t.kind=4 then kindOf t.name else 14)=i at h;dsimp only at h;split at h
  ·cases h
  ·obtain⟨j,below⟩:=x;cases below with
   |nil=>cases h
   |cons l r=>injection h with h;subst h;obtain⟨d,b⟩:=a;rw[xF] at b;exact⟨B8 b.1 d,b.2⟩
theorem Eb:∀{l:List Tok} {x y:rf},(∀t∈l,jr t.attrs)→vj x.top∧xF x.below→fX x l=.aq y→vj y.top∧xF y.below
 |[],x,y,_,a,h=>by unfold fX at h;injection h with h;subst h;exact a
 |t::r,x,y,b,a,h=>by
  unfold fX at h;split at h
  ·cases h
  ·rename_i z d;exact Eb (fun u c=>b u (by simp[c])) (RQ (b t (by simp)) a d) h
theorem Lj{s:Bs}(h:(gW s).2.2=0):vj (gW s).1:=by
 have a:vj ny:=by unfold ny;rw[vj,xF];exact⟨oW,trivial⟩
 unfold gW;split
 ·exact a
 split
 ·exact a
 rename_i l m e;have b:=xH s _ _ _ _ _ (fun t h=>by cases h) e;split
 ·exact a
 rename_i x d;have c:=Eb b (show vj lN∧xF [] by unfold lN;rw[vj,xF];exact⟨⟨oW,trivial⟩,trivial⟩) d;split
 ·exact c.1
 ·exact a
theorem OE(n:Nd):sy n→vj n→MH n:=by
 refine Nd.ind (P:=fun n=>sy n→vj n→MH n) (fun k p t a l q c b=> ?_) n;rw[sy] at c;rw[vj] at b;obtain⟨u,h,i,j,_,m⟩:=c;rw[MH];refine⟨by omega,h,fun x e=>⟨by have:=i x e;omega,by have:=b.1 x e;omega⟩,j, ?_⟩;have key:∀(l:List Nd),(∀x,x∈l→sy x→vj x→MH x)→DN l→xF l→QK l:=fun l=>by
  induction l with
  |nil=>intro _ _ _;rw[QK];trivial
  |cons x r s=>intro d c b;rw[DN] at c;rw[xF] at b;rw[QK];exact⟨d x (by simp) c.1 b.1,s (fun y o=>d y (by simp[o])) c.2 b.2⟩
 exact key l q m b.2
theorem K7{s:Bs}(h:(gW s).2.2=0):MH (gW s).1:=OE _ (sA h).1 (Lj h)
end Go.Proofs.YtogchgjfialleaaGreatDoor
namespace Go.Proofs.YtogchgjfialleaaGreatDoor
open Go.RowKit
def Vw(base:Nat)(W:World)(r:GM)(v:Value):Prop:=∃av rv,v=.agg #[.string ⟨r.out.toArray⟩,.bool r.ok,.bool r.done,av,.int .i64 r.aU,.int .i64 r.work,rv]∧W.ownsRow base 34 6 av r.asked.length (nB r.asked)∧W.ownsRow base 9 1 rv r.reads.length (cM r.reads)
def qb(w:World)(r:GM):Ending→World→Prop:=fun e w'=>∃v,e=.returned v∧Vw w.heap.size w' r v∧Below w.heap.size w w'
structure WK (w:World) (h t:Bs) (fs:List dQ) (fa:Option Addr) (fn fc:Nat) (ga:Option Addr) (fZ:List j5):Prop where
 gl:GL w
 Vr:aZ w (.slice fa fn fc) fs
 Vs:rX fs
 t1:t.length≤100000
 h1:h.length≤100002000
 Vc:fZ.length≤100000000
 Vx:∀(i:Nat) (g:j5),fZ[i]? =some g→∃b o,ga=some ⟨b,o,none⟩∧b<w.heap.size∧w.cell? ⟨b,o+i*3,none⟩=some (.string ⟨g.body.toArray⟩)∧w.cell? ⟨b,o+i*3+1,none⟩=some (.bool g.F3)∧w.cell? ⟨b,o+i*3+2,none⟩=some (.bool g.ok)
 Vd:∀g∈fZ,g.body.length≤1000000
def mO(n:Int)(m:Nat):Nat:=(max 0 (min n m)).toNat
theorem Jz(n:Int)(m:Nat):mO n m≤m:=by unfold mO;omega
theorem N5(w:World)(A B C D F:Obj):(((((w.alloc A).alloc B).alloc C).alloc D).alloc F).heap[w.heap.size]? =some A∧(((((w.alloc A).alloc B).alloc C).alloc D).alloc F).heap[w.heap.size+1]? =some B∧(((((w.alloc A).alloc B).alloc C).alloc D).alloc F).heap[w.heap.size+1+1]? =some C∧
 (((((w.alloc A).alloc B).alloc C).alloc D).alloc F).heap[w.heap.size+1+1+1]? =some D∧(((((w.alloc A).alloc B).alloc C).alloc D).alloc F).heap[w.heap.size+1+1+1+1]? =some F∧Below w.heap.size w (((((w.alloc A).alloc B).alloc C).alloc D).alloc F):=by
 have e:(w.alloc A).heap.size=w.heap.size+1:=aO _ _;have a1:=au w A;have k:=az w A;generalize w.alloc A=a at*;have h:(a.alloc B).heap.size=w.heap.size+1+1:=by rw[aO,e]
 have a2:(a.alloc B).heap[w.heap.size+1]? =some B:=by rw[←e];exact au a B
 have a1:=aG a1 B;have l:Below w.heap.size w (a.alloc B):=k.alloc (by omega) B;generalize a.alloc B=b at*;have i:(b.alloc C).heap.size=w.heap.size+1+1+1:=by rw[aO,h]
 have a3:(b.alloc C).heap[w.heap.size+1+1]? =some C:=by rw[←h];exact au b C
 have a1:=aG a1 C;have a2:=aG a2 C;have m:Below w.heap.size w (b.alloc C):=l.alloc (by omega) C;generalize b.alloc C=c at*;have o:(c.alloc D).heap.size=w.heap.size+1+1+1+1:=by rw[aO,i]
 have a4:(c.alloc D).heap[w.heap.size+1+1+1]? =some D:=by rw[←i];exact au c D
 have a1:=aG a1 D;have a2:=aG a2 D;have a3:=aG a3 D;have n:Below w.heap.size w (c.alloc D):=m.alloc (by omega) D;generalize c.alloc D=d at*;have j:(d.alloc F).heap[w.heap.size+1+1+1+1]? =some F:=by rw[←o];exact au d F
 exact⟨aG a1 F,aG a2 F,aG a3 F,aG a4 F,j,n.alloc (by omega) F⟩
theorem bz{W w':World}{b:Nat}{O:Obj}(h:W.heap[b]? =some O)(a:Below W.heap.size W w'):w'.heap[b]? =some O:=(a.block _ (aB.1 h).1).trans h
theorem kS{W:World}{b:Nat}{T:TypeId}{v0 v1 v2 e d c a:Value}(u0 u1 u2 u3 u4 u5 u6:Value)(h:W.heap[b]? =some (.cells #[v0,v1,v2,e,d,c,a] T)):
 (((((((W.setCell ⟨b,0,none⟩ u0).setCell ⟨b,1,none⟩ u1).setCell ⟨b,2,none⟩ u2).setCell ⟨b,3,none⟩ u3).setCell ⟨b,4,none⟩ u4).setCell ⟨b,5,none⟩ u5).setCell ⟨b,6,none⟩ u6).heap[b]? =some (.cells #[u0,u1,u2,u3,u4,u5,u6] T):=by
 have p:(W.setCell ⟨b,0,none⟩ u0).heap[b]? =some (.cells #[u0,v1,v2,e,d,c,a] T):=aw (j:=0) h;generalize W.setCell ⟨b,0,none⟩ u0=i at*;have q:(i.setCell ⟨b,1,none⟩ u1).heap[b]? =some (.cells #[u0,u1,v2,e,d,c,a] T):=aw (j:=1) p;generalize i.setCell ⟨b,1,none⟩ u1=k at*;have r:(k.setCell ⟨b,2,none⟩ u2).heap[b]? =some (.cells #[u0,u1,u2,e,d,c,a] T):=aw (j:=2) q;generalize k.setCell ⟨b,2,none⟩ u2=l at*;have s:(l.setCell ⟨b,3,none⟩ u3).heap[b]? =some (.cells #[u0,u1,u2,u3,d,c,a] T):=aw (j:=3) r;generalize l.setCell ⟨b,3,none⟩ u3=m at*;have t:(m.setCell ⟨b,4,none⟩ u4).heap[b]? =some (.cells #[u0,u1,u2,u3,u4,c,a] T):=aw (j:=4) s;generalize m.setCell ⟨b,4,none⟩ u4=n at*;have u:(n.setCell ⟨b,5,none⟩ u5).heap[b]? =some (.cells #[u0,u1,u2,u3,u4,u5,a] T):=aw (j:=5) t;generalize n.setCell ⟨b,5,none⟩ u5=o at*;have w:(o.setCell ⟨b,6,none⟩ u6).heap[b]? =some (.cells #[u0,u1,u2,u3,u4,u5,u6] T):=aw (j:=6) u;exact w
theorem jy(W:World)(b:Nat)(u0 u1 u2 u3 u4 u5 u6:Value):ak b W (((((((W.setCell ⟨b,0,none⟩ u0).setCell ⟨b,1,none⟩ u1).setCell ⟨b,2,none⟩ u2).setCell ⟨b,3,none⟩ u3).setCell ⟨b,4,none⟩ u4).setCell ⟨b,5,none⟩ u5).setCell ⟨b,6,none⟩ u6):=(((((((ak.refl b W).set).set).set).set).set).set).set
theorem ja{fn:Func}{W:World}{tmps:Array Value}{b c:Nat}{v0 v1 v2 d e i j:Value}(h:fn.results=#[.cell c 30])(k:tmps.getD c undef=.pointer (some ⟨b,0,none⟩))(a:W.heap[b]? =some (.cells #[v0,v1,v2,d,e,i,j] 30)):
 (results fn tmps).run Tryz.prog W=.ok (.agg #[v0,v1,v2,d,e,i,j]) W:=by
 have m:=aj 0 a;have n:=aj 1 a;have o:=aj 2 a;have p:=aj 3 a;have q:=aj 4 a;have r:=aj 5 a;have s:=aj 6 a;have l:tmps[c]?.getD undef=.pointer (some ⟨b,0,none⟩):=by rw[←k];simp
 simp[results,h,go_sem,l,m,n,o,p,q,r,s]
theorem BT.all{E:ME}{M:List Nat}{W:World}{r:PS×Oc}{i:Ending}{w':World}(h:BT E M W [] r i w'):∃a ok d out,bC M W a w'∧i=.returned (.bool d)∧MZ E w' a ok r.1 out∧N6 r=⟨bif ok then out else[],ok,d,r.1.asked,r.1.aU,r.1.work,r.1.reads⟩:=by
 obtain⟨S,o⟩:=r;obtain⟨a,e,h⟩:=h;cases o with
 |yes t=>exact⟨a,true,true,_,e,h.1,h.2,rfl⟩
 |no=>obtain⟨b,g,c⟩:=h;exact⟨a,false,true,_,e,b,c,rfl⟩
 |wait=>obtain⟨b,g,c⟩:=h;exact⟨a,false,false,_,e,b,c,rfl⟩
theorem KZ.aN{E:ME}{W a:World}{ok:Bool}{S:PS}{out:Bs}{av rv c:Value}(H:KZ E W ok S out av rv c)(d:ak E.mb W a):
 a.ownsRow E.w0.heap.size 34 6 av S.asked.length (nB S.asked)∧a.ownsRow E.w0.heap.size 9 1 rv S.reads.length (cM S.reads)∧a.ownsRow E.w0.heap.size 5 1 c out.length (da out)∧Below E.w0.heap.size E.w0 a:=by
 obtain⟨n1,n2,o,p⟩:=fF.1 H.vW;obtain⟨l,m,n⟩:=n2 E.mb (.inl rfl);have b:∀v:Value,v.ownBlock≠some E.mb→∀g,v.ownBlock=some g→g<W.heap.size→a.heap[g]? =W.heap[g]? :=fun v k g i j=>d.block g j (by intro e;injection e with e;exact k (e▸i));exact⟨bw H.asked fun g h=>b av l g h (H.asked.lt g h).2,bw H.reads fun g h=>b rv m g h (H.reads.lt g h).2,bw H.lE fun g h=>b c n g h (H.lE.lt g h).2,H.up.trans (d.below H.far H.up.size)⟩
abbrev Vy(E:ME)(o:Bs)(ok d:Bool)(S:PS)(av rv a:Value):List Value:=[.string ⟨o.toArray⟩,.bool ok,.bool d,av,.int .i64 S.aU,.int .i64 S.work,rv,a,.string ⟨E.h.toArray⟩,.string ⟨E.t.toArray⟩,.slice E.fa E.fn E.fc,.int .i64 E.inc,.int .i64 E.dep,.slice E.ga E.fZ.length E.gc,.map (some E.im)]
theorem K4(P:fx)(d:Nat)(base:U){n:Nd}(h:¬xe n=0):qK P d base n=⟨[],false,true,[],0,0,[]⟩:=by unfold qK;rw[ae h]
theorem N7(P:fx)(d:Nat)(base:U){n:Nd}(h:xe n=0):qK P d base n=N6 (bT P (rl P d) base n false N8 0):=by unfold qK;rw[ah h]
theorem Av(n:Nd)(v:Value)(base:U)(h t:Bs)(fs:List dQ)(F:Option Addr)(fn G:Nat)(T:Option Addr)(Y:Nat)(fZ:List j5)(c0 c5:Bs)(ca:Option Addr)(cn cc:Nat)(c1 c2 s r:Int)(w:World)(HI:WK w h t fs F fn G T fZ)(hb:DO base)(A:Nat→Prop)(a6:fu A w n v)(cd:MH n)(bx:sy n)(ch:wN n≤20000000):
 Calls Tryz.prog 11 #[v,uV base,.agg #[.string ⟨h.toArray⟩,.string ⟨t.toArray⟩,.slice F fn G],.agg #[.string ⟨c0.toArray⟩,.int .i64 c1,.int .i64 c2,.int .i64 s,.int .i64 r,.string ⟨c5.toArray⟩,.slice ca cn cc],.slice T fZ.length Y] w (qb w (qK ⟨h,t,fs,mO s 64,fZ⟩ (mO r 8) base n)):=by
 obtain⟨aa,ac,ka,kc,rfl,-,-⟩:=a6.shape;obtain⟨R,hR⟩:∃R,qK ⟨h,t,fs,mO s 64,fZ⟩ (mO r 8) base n=R:=⟨_,rfl⟩;rw[hR];have HR:=ad hR.symm;have D:=ad HI;have ci:=ad hb;have bb:=ad a6;have c4:=ad cd;have cx:=ad bx;have bn:=ad ch;clear hR HI hb a6 cd bx ch;go_enter Tryz.func11,Tryz.ntmps11;go_upto_region 1 with fail;have o:=ad (N5 w (.cells #[.int .i64 n.kind,.int .i64 n.place,.string ⟨n.text.toArray⟩,.slice aa n.attrs.length ac,.slice ka n.kids.length kc] 45) (.cells #[.string ⟨base.scheme.toArray⟩,.string ⟨base.host.toArray⟩,.int .i64 base.port,.string ⟨base.path.toArray⟩,.string ⟨base.query.toArray⟩,.bool base.hq] 34) (.cells #[.string ⟨h.toArray⟩,.string ⟨t.toArray⟩,.slice F fn G] 47) (.cells #[.string ⟨c0.toArray⟩,.int .i64 c1,.int .i64 c2,.int .i64 s,.int .i64 r,.string ⟨c5.toArray⟩,.slice ca cn cc] 50) (.cells #[.string ⟨#[]⟩,.bool false,.bool false,.slice none 0 0,.int .i64 0,.int .i64 0,.slice none 0 0] 30));generalize(((((w.alloc (.cells #[.int .i64 n.kind,.int .i64 n.place,.string ⟨n.text.toArray⟩,.slice aa n.attrs.length ac,.slice ka n.kids.length kc] 45)).alloc (.cells #[.string ⟨base.scheme.toArray⟩,.string ⟨base.host.toArray⟩,.int .i64 base.port,.string ⟨base.path.toArray⟩,.string ⟨base.query.toArray⟩,.bool base.hq] 34)).alloc (.cells #[.string ⟨h.toArray⟩,.string ⟨t.toArray⟩,.slice F fn G] 47)).alloc (.cells #[.string ⟨c0.toArray⟩,.int .i64 c1,.int .i64 c2,.int .i64 s,.int .i64 r,.string ⟨c5.toArray⟩,.slice ca cn cc] 50)).alloc (.cells #[.string ⟨#[]⟩,.bool false,.bool false,.slice none 0 0,.int .i64 0,.int .i64 0,.slice none 0 0] 30))=W5 at*;have ao:=ad (Gc n c4.out A W5 _ (D.out.gl.gx.aq.next o.out.2.2.2.2.2) (bb.out.next o.out.2.2.2.2.2));have x0:=aj 0 o.out.1;have x1:=aj 1 o.out.1;have x2:=aj 2 o.out.1;have x3:=aj 3 o.out.1;have x4:=aj 4 o.out.1;obtain⟨e,he⟩:∃e,xe n=e:=⟨_,rfl⟩;have HE:=ad he;rw[he] at ao;clear he;go_wp2_with fail;refine ao.out.mono ?_;rintro en a⟨rfl,V⟩;have Z:=ad (o.out.2.2.2.2.2.trans (V.mono o.out.2.2.2.2.2.size));have l:=ad (And.intro (bz o.out.1 V) (And.intro (bz o.out.2.1 V) (And.intro (bz o.out.2.2.1 V) (And.intro (bz o.out.2.2.2.1 V) (bz o.out.2.2.2.2.1 V)))));clear V o x0 x1 x2 x3 x4 ao;by_cases h0:e=0
 ·subst h0;have v0:=aj 0 l.out.2.2.1;have v1:=aj 1 l.out.2.2.1;have v2:=aj 2 l.out.2.2.1;have k3:=aj 3 l.out.2.2.2.1;have k4:=aj 4 l.out.2.2.2.1;have c8:=@run_makeMap Tryz.prog;go_upto_region 4 with fail;have hA8:Below a.heap.size a ((a.alloc (.map #[] 0)).alloc (.cells #[.string ⟨#[]⟩,.bool false,.bool false,.slice none 0 0,.int .i64 0,.int .i64 0,.slice none 0 0,.slice none 0 0,.string ⟨h.toArray⟩,.string ⟨t.toArray⟩,.slice F fn G,.int .i64 (max 0 (min s 64)),.int .i64 (max 0 (min r 8)),.slice T fZ.length Y,.map (some a.heap.size)] 65)):=(az a _).alloc (by rw[aO];omega) _;have a4:=iT a (.map #[] 0) (.cells #[.string ⟨#[]⟩,.bool false,.bool false,.slice none 0 0,.int .i64 0,.int .i64 0,.slice none 0 0,.slice none 0 0,.string ⟨h.toArray⟩,.string ⟨t.toArray⟩,.slice F fn G,.int .i64 (max 0 (min s 64)),.int .i64 (max 0 (min r 8)),.slice T fZ.length Y,.map (some a.heap.size)] 65);have bs:=(Aw a).next (az (a.alloc (.map #[] 0)) (.cells #[.string ⟨#[]⟩,.bool false,.bool false,.slice none 0 0,.int .i64 0,.int .i64 0,.slice none 0 0,.slice none 0 0,.string ⟨h.toArray⟩,.string ⟨t.toArray⟩,.slice F fn G,.int .i64 (max 0 (min s 64)),.int .i64 (max 0 (min r 8)),.slice T fZ.length Y,.map (some a.heap.size)] 65))
  generalize(a.alloc (.map #[] 0)).alloc (.cells #[.string ⟨#[]⟩,.bool false,.bool false,.slice none 0 0,.int .i64 0,.int .i64 0,.slice none 0 0,.slice none 0 0,.string ⟨h.toArray⟩,.string ⟨t.toArray⟩,.slice F fn G,.int .i64 (max 0 (min s 64)),.int .i64 (max 0 (min r 8)),.slice T fZ.length Y,.map (some a.heap.size)] 65)=W8 at*;have u:=ad (And.intro (bz l.out.1 hA8) (And.intro (bz l.out.2.1 hA8) (bz l.out.2.2.2.2 hA8)));have an:=ad (Z.out.trans (hA8.mono Z.out.size));have c9:=(aB.1 l.out.2.2.2.2).1;have a1:=Z.out.size;obtain⟨E,M⟩:∃E:ME,E=⟨w,a.heap.size+1,a.heap.size,h,t,fs,F,fn,G,mO s 64,mO r 8,T,Y,fZ⟩:=⟨_,rfl⟩;have ap:=ad (show QQ E by rw[M];exact⟨D.out.gl,D.out.Vr,D.out.Vs,D.out.t1,D.out.h1,Jz _ _,Jz _ _,D.out.Vc,D.out.Vx,D.out.Vd⟩);have e1:max 0 (min s 64)=((mO s 64:Nat):Int):=by unfold mO;omega
  have e2:max 0 (min r 8)=((mO r 8:Nat):Int):=by unfold mO;omega
  rw[e1,e2] at a4;clear e1 e2;have bv:MX E W8 [a.heap.size+1,a.heap.size] N8 []:=by rw[M];exact⟨.slice none 0 0,.slice none 0 0,.slice none 0 0,⟨an.out,a4,jO _ _ _ _,jO _ _ _ _,jO _ _ _ _,⟨[],bs,fun k=>rfl⟩,fF.2 ⟨by show a.heap.size+1≠a.heap.size;omega,fun g _=>⟨by simp[Value.ownBlock],by simp[Value.ownBlock],by simp[Value.ownBlock]⟩,fun g h=>by simp[Value.ownBlock] at h,fun g h=>by simp[Value.ownBlock] at h⟩,⟨by show w.heap.size≤a.heap.size+1;omega,a1⟩⟩,rfl⟩
  have co:=ad bv;have ck:=ad M;have ct:=ad (show w.heap.size+1+1+1+1∉[a.heap.size+1,a.heap.size] from fun H=>by
   rcases bL.1 H with e|H
   ·omega
   ·have e:=fj.1 H;omega)
  clear bv hA8 a4 bs v0 v1 v2 k3 k4 c8;have a5:E.mb=a.heap.size+1:=by rw[M]
  have ce:E.w0=w:=by rw[M]
  have bp:E.env=⟨h,t,fs,mO s 64,fZ⟩:=by rw[M];rfl
  have bo:0+mO r 8=E.dep:=by rw[M];exact dH _
  have cK:=ad (show bq E.inc N8 (wN n) from⟨by have:=ap.out.i1;have:=bn.out;show 0+wN n+(E.inc-0)*ie≤_;unfold ie;omega,by have:=ap.out.i1;have:=bn.out;show 0+wN n+(E.inc-0)*ie≤_;unfold ie;omega,fun x hx=>by(cases hx),ag _,aH _⟩);have br:∀b∈[a.heap.size+1,a.heap.size],a.heap.size≤b:=fun b H=>by
   rcases bL.1 H with e|H
   ·omega
   ·have e:=fj.1 H;omega
  have cs:=ad (eD (A':=fun b=>b∉[a.heap.size+1,a.heap.size]) an.out.size (fun b h1 h2=>⟨fun H=>by have:=br b H;have:=a1;omega,an.out.block b h2⟩) n _ bb.out);have a7:=Ui co.out (N3 ap.out (mO r 8) 0 bo base ci.out n cx.out) cs.out cK.out (aH _);rw[a5,bp] at a7;have bi:=ad a7;have be:=ad (HR.out.trans (N7 _ _ _ HE.out));obtain⟨q,hq⟩:∃q,bT ⟨h,t,fs,mO s 64,fZ⟩ (rl ⟨h,t,fs,mO s 64,fZ⟩ (mO r 8)) base n false N8 0=q:=⟨_,rfl⟩;have bk:Hid (Calls Tryz.prog 18 #[.pointer (some ⟨a.heap.size+1,0,none⟩),.func (.func 19) #[.pointer (some ⟨a.heap.size+1,0,none⟩)] #[],wZ n.kind n.place n.text (.slice aa n.attrs.length ac) (.slice ka n.kids.length kc),uV base] W8 (BT E [a.heap.size+1,a.heap.size] W8 [] q)):=ad (by rw[←hq];exact bi.out);rw[hq] at be;obtain⟨i,oc⟩:=q;have ai:=ad a5;have bm:=ad ce;have cl:=ad (show w.heap.size+1+1+1+1<W8.heap.size from(aB.1 u.out.2.2).1);have bf:=ad (show w.heap.size≤w.heap.size+1+1+1+1 by omega);have x0:=aj 0 u.out.1;have x1:=aj 1 u.out.1;have x2:=aj 2 u.out.1;have x3:=aj 3 u.out.1;have x4:=aj 4 u.out.1;have u0:=aj 0 u.out.2.1;have u1:=aj 1 u.out.2.1;have u2:=aj 2 u.out.2.1;have u3:=aj 3 u.out.2.1;have u4:=aj 4 u.out.2.1;have u5:=aj 5 u.out.2.1;clear M a5 ce bp bo br a7 hq bi ck a1 c9;generalize a.heap.size+1=C at*;generalize w.heap.size+1+1+1+1=m at*;go_wp2_with fail;refine bk.out.mono ?_;intro en w9 b9;obtain⟨M9,ok,d,o1,cb,rfl,⟨av,rv,ov,ab,a2⟩,b8⟩:=b9.all;obtain⟨I,J,rfl⟩:=aX ab.asked;obtain⟨K,L,rfl⟩:=aX ab.reads;have bg:=ad (be.out.trans b8);have am:=cb.cO m cl.out ct.out;have ay:=ad (show w9.heap[m]? =some (.cells #[.string ⟨#[]⟩,.bool false,.bool false,.slice none 0 0,.int .i64 0,.int .i64 0,.slice none 0 0] 30) from am.2.trans u.out.2.2);have al:=ad (show∀g,((Value.slice I i.asked.length J).ownBlock=some g∨(Value.slice K i.reads.length L).ownBlock=some g)→m≠g from fun g z e=>am.1 (by rw[a2,e];exact bY _ (bY _ (vP.2 (z.elim .inl fun h=>.inr (.inl h))))));have bd:=ad (show m≠C from fun e=>am.1 (by rw[a2,e,←ai.out];exact eF));have a9:=ad ab;have a3:=ab.box;rw[ai.out] at a3;have af:=ad a3;clear x0 x1 x2 x3 x4 u0 u1 u2 u3 u4 u5 cb ab a2 b8 am b9 a3 bk u;have b2:=aj 2 af.out;have S:w9.frozen? ⟨C,2,none⟩=false:=aA af.out;go_upto_region 5 with fail;clear b2 S;have y:Hid ((w9.setCell ⟨C,2,none⟩ (.bool d)).heap[C]? =some (.cells (Vy E [] ok d i (.slice I i.asked.length J) (.slice K i.reads.length L) ov).toArray 65)):=ad (aw (j:=2) af.out);have a0:=ad ((ak.refl C w9).set (j:=2) (v:=.bool d));generalize w9.setCell ⟨C,2,none⟩ (.bool d)=B at*;have c:=ad (show B.heap[m]? =_ from(a0.out.block m (aB.1 ay.out).1 (by intro e;injection e with e;exact bd.out e)).trans ay.out);have W:=a9.out.aN (by rw[ai.out];exact a0.out);rw[bm.out] at W;have p:=ad W;have b1:=aj 1 y.out;clear W af ay;cases ok
  ·clear b1;have b0:=aj 0 y.out;have b1:=aj 1 y.out;have b2:=aj 2 y.out;have b3:=aj 3 y.out;have b4:=aj 4 y.out;have b5:=aj 5 y.out;have b6:=aj 6 y.out;have r0:=aj 0 c.out;have r1:=aj 1 c.out;have r2:=aj 2 c.out;have r3:=aj 3 c.out;have r4:=aj 4 c.out;have r5:=aj 5 c.out;have r6:=aj 6 c.out;have Q:B.frozen? ⟨m,0,none⟩=false:=aA c.out;have f1:B.frozen? ⟨m,1,none⟩=false:=aA c.out;have S:B.frozen? ⟨m,2,none⟩=false:=aA c.out;have f3:B.frozen? ⟨m,3,none⟩=false:=aA c.out;have f4:B.frozen? ⟨m,4,none⟩=false:=aA c.out;have f5:B.frozen? ⟨m,5,none⟩=false:=aA c.out;have f6:B.frozen? ⟨m,6,none⟩=false:=aA c.out;go_wp2_with fail;clear b0 b1 b2 b3 b4 b5 b6 r0 r1 r2 r3 r4 r5 r6 Q f1 S f3 f4 f5 f6;have a8:=kS (.string ⟨List.toArray []⟩) (.bool false) (.bool d) (.slice I i.asked.length J) (.int .i64 i.aU) (.int .i64 i.work) (.slice K i.reads.length L) c.out;have X:=jy B m (.string ⟨List.toArray []⟩) (.bool false) (.bool d) (.slice I i.asked.length J) (.int .i64 i.aU) (.int .i64 i.work) (.slice K i.reads.length L);refine aD (ja rfl rfl a8) rfl ?_;rw[bg.out];exact⟨_,rfl,⟨(.slice I i.asked.length J),(.slice K i.reads.length L),rfl,bw p.out.1 fun g z=>X.block g (p.out.1.lt g z).2 (by intro e;injection e with e;exact(al.out g (.inl z)) e.symm),bw p.out.2.1 fun g z=>X.block g (p.out.2.1.lt g z).2 (by intro e;injection e with e;exact(al.out g (.inr z)) e.symm)⟩,p.out.2.2.2.trans (X.below bf.out p.out.2.2.2.size)⟩
  ·have c7:=MP p.out.2.2.1;have b7:=aj 7 y.out;have b0:=aj 0 y.out;have Q:B.frozen? ⟨C,0,none⟩=false:=aA y.out;go_upto_region 7 with fail;have O:Hid ((B.setCell ⟨C,0,none⟩ (.string ⟨o1.toArray⟩)).heap[C]? =some (.cells (Vy E o1 true d i (.slice I i.asked.length J) (.slice K i.reads.length L) ov).toArray 65)):=ad (aw (j:=0) y.out);have bl:=ad ((ak.refl C B).set (j:=0) (v:=.string ⟨o1.toArray⟩));clear b7 b0 Q b1 c7 y;generalize B.setCell ⟨C,0,none⟩ (.string ⟨o1.toArray⟩)=N at*;have bJ:=(bl.out.block m (aB.1 c.out).1 (by intro e;injection e with e;exact bd.out e)).trans c.out;clear c;have c:=ad bJ;have W:=a9.out.aN (by rw[ai.out];exact a0.out.trans bl.out);rw[bm.out] at W;clear p bJ;have p:=ad W;clear W;have b0:=aj 0 O.out;have b1:=aj 1 O.out;have b2:=aj 2 O.out;have b3:=aj 3 O.out;have b4:=aj 4 O.out;have b5:=aj 5 O.out;have b6:=aj 6 O.out;have r0:=aj 0 c.out;have r1:=aj 1 c.out;have r2:=aj 2 c.out;have r3:=aj 3 c.out;have r4:=aj 4 c.out;have r5:=aj 5 c.out;have r6:=aj 6 c.out;have Q:N.frozen? ⟨m,0,none⟩=false:=aA c.out;have f1:N.frozen? ⟨m,1,none⟩=false:=aA c.out;have S:N.frozen? ⟨m,2,none⟩=false:=aA c.out;have f3:N.frozen? ⟨m,3,none⟩=false:=aA c.out;have f4:N.frozen? ⟨m,4,none⟩=false:=aA c.out;have f5:N.frozen? ⟨m,5,none⟩=false:=aA c.out;have f6:N.frozen? ⟨m,6,none⟩=false:=aA c.out;go_wp2_with fail;clear b0 b1 b2 b3 b4 b5 b6 r0 r1 r2 r3 r4 r5 r6 Q f1 S f3 f4 f5 f6;have a8:=kS (.string ⟨List.toArray o1⟩) (.bool true) (.bool d) (.slice I i.asked.length J) (.int .i64 i.aU) (.int .i64 i.work) (.slice K i.reads.length L) c.out;have X:=jy N m (.string ⟨List.toArray o1⟩) (.bool true) (.bool d) (.slice I i.asked.length J) (.int .i64 i.aU) (.int .i64 i.work) (.slice K i.reads.length L);refine aD (ja rfl rfl a8) rfl ?_;rw[bg.out];exact⟨_,rfl,⟨(.slice I i.asked.length J),(.slice K i.reads.length L),rfl,bw p.out.1 fun g z=>X.block g (p.out.1.lt g z).2 (by intro e;injection e with e;exact(al.out g (.inl z)) e.symm),bw p.out.2.1 fun g z=>X.block g (p.out.2.1.lt g z).2 (by intro e;injection e with e;exact(al.out g (.inr z)) e.symm)⟩,p.out.2.2.2.trans (X.below bf.out p.out.2.2.2.size)⟩
 ·have q0:=eS h0;have c:=ad (HR.out.trans (K4 _ _ _ (fun h=>h0 (HE.out.symm.trans h))));have r0:=aj 0 l.out.2.2.2.2;have r1:=aj 1 l.out.2.2.2.2;have r2:=aj 2 l.out.2.2.2.2;have r3:=aj 3 l.out.2.2.2.2;have r4:=aj 4 l.out.2.2.2.2;have r5:=aj 5 l.out.2.2.2.2;have r6:=aj 6 l.out.2.2.2.2;have Q:a.frozen? ⟨w.heap.size+1+1+1+1,0,none⟩=false:=aA l.out.2.2.2.2;have f1:a.frozen? ⟨w.heap.size+1+1+1+1,1,none⟩=false:=aA l.out.2.2.2.2;have S:a.frozen? ⟨w.heap.size+1+1+1+1,2,none⟩=false:=aA l.out.2.2.2.2;have f3:a.frozen? ⟨w.heap.size+1+1+1+1,3,none⟩=false:=aA l.out.2.2.2.2;have f4:a.frozen? ⟨w.heap.size+1+1+1+1,4,none⟩=false:=aA l.out.2.2.2.2;have f5:a.frozen? ⟨w.heap.size+1+1+1+1,5,none⟩=false:=aA l.out.2.2.2.2;have f6:a.frozen? ⟨w.heap.size+1+1+1+1,6,none⟩=false:=aA l.out.2.2.2.2;clear h0;go_wp2_with fail;clear r0 r1 r2 r3 r4 r5 r6 Q f1 S f3 f4 f5 f6;have c3:=ad (kS (.string ⟨#[]⟩) (.bool false) (.bool true) (.slice none 0 0) (.int .i64 0) (.int .i64 0) (.slice none 0 0) l.out.2.2.2.2);have c6:=ad (jy a (w.heap.size+1+1+1+1) (.string ⟨#[]⟩) (.bool false) (.bool true) (.slice none 0 0) (.int .i64 0) (.int .i64 0) (.slice none 0 0));refine aD (ja rfl rfl c3.out) rfl ?_;rw[c.out];exact⟨_,rfl,⟨_,_,rfl,jO _ _ _ _,jO _ _ _ _⟩,Z.out.trans (c6.out.below (by omega) Z.out.size)⟩
