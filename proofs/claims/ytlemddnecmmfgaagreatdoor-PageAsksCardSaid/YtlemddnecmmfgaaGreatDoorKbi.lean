/- The trees of texts. -/
import Derived.Test.YtlemddnecmmfgaaGreatDoorKbh
set_option linter.unusedVariables false
set_option maxRecDepth 100000
set_option maxHeartbeats 4000000
namespace Go.Proofs.YtlemddnecmmfgaaGreatDoor
open Go.RowKit
variable{l:Array aaL}{a:Ending→aaK→Prop}{d:Nat}{i:U}{h:aaK}
theorem DU{E:ME}(h:QQ E){dp:Nat}(e:Ju E (rl E.env d) dp)(m:dp≤1000)(j:DO i)(n:Nd)(ok:sy n):kl E (rl E.env d) i dp n:=by refine(Nd.ind (P:=fun n=>sy n→kl E (rl E.env d) i dp n∧∀y∈n.kids,kl E (rl E.env d) i dp y) (fun k p t a l r ok=> ?_) n ok).1;have o:DN l:=(DS ok).2;have c:∀x∈l,kl E (rl E.env d) i dp x∧∀y∈x.kids,kl E (rl E.env d) i dp y:=fun x b=>r x b (o.get b);exact⟨Rw h e (we E.env d).1 (Uh E.env d i) j m k p t a l ok c,fun y q=>(c y q).1⟩
theorem N3{E:ME}(a:QQ E)(d:Nat):∀(dp:Nat),dp+d=E.dep→∀(base:U),DO base→∀n,sy n→kl E (rl E.env d) base dp n:=by
 have j:=a.d1;induction d with
 |zero=>exact fun dp h base b n ok=>DU a (.inl ⟨rfl,by omega⟩) (by omega) b n ok
 |succ d i=>exact fun dp h base b n ok=>DU a (.inr ⟨rl E.env d,rfl,by omega,fun u n e c=>i (dp+1) (by omega) u e n c⟩) (by omega) b n ok
abbrev WI(E:ME)(ok:Bool)(S:PS)(av rv ov:aaL):List aaL:=[.string ⟨#[]⟩,.bool ok,.bool false,av,.int .i64 S.aU,.int .i64 S.work,rv,ov,.string ⟨E.h.toArray⟩,.string ⟨E.t.toArray⟩,.slice E.fa E.fn E.fc,.int .i64 E.inc,.int .i64 E.dep,.slice E.ga E.fZ.length E.gc,.map (some E.im)]
structure KZ (E:ME) (W:aaK) (ok:Bool) (S:PS) (out:Bs) (av rv ov:aaL):Prop where
 up:Below E.w0.heap.size E.w0 W
 box:W.heap[E.mb]? =some (.cells (WI E ok S av rv ov).toArray 85)
 asked:W.ownsRow E.w0.heap.size 23 6 av S.asked.length (nB S.asked)
 reads:W.ownsRow E.w0.heap.size 9 1 rv S.reads.length (cM S.reads)
 lE:W.ownsRow E.w0.heap.size 5 1 ov out.length (da out)
 vW:(MB E av rv ov).Nodup
 far:E.w0.heap.size≤E.mb
def MZ(E:ME)(W:aaK)(M:List Nat)(ok:Bool)(S:PS)(out:Bs):Prop:=∃av rv ov,KZ E W ok S out av rv ov∧M=MB E av rv ov
section
variable{E:ME}{W W':aaK}{M:List Nat}{S:PS}{out:Bs}{ok:Bool}{av rv ov:aaL}
theorem KZ.lt(H:KZ E W ok S out av rv ov):E.mb<W.heap.size:=(aB.1 H.box).1
theorem KZ.cO(H:KZ E W ok S out av rv ov)(i:Below E.w0.heap.size E.w0 W')(h:∀b∈MB E av rv ov,b≠E.im→W'.heap[b]? =W.heap[b]?):KZ E W' ok S out av rv ov:=by
 obtain⟨n1,n2,m,n⟩:=fF.1 H.vW;have d:∀v g,v.ownBlock=some g→v∈[av,rv,ov]→W'.heap[g]? =W.heap[g]? :=fun v g a c=>h g (bY _ (bY _ (cQ.2 ⟨v,c,a⟩))) (fun e=>by
  obtain⟨j,k,l⟩:=n2 g (.inr e);simp at c;rcases c with rfl|rfl|rfl
  ·exact j a
  ·exact k a
  ·exact l a)
 exact⟨i,(h _ eF n1).t H.box,bw H.asked fun g q=>d av g q (by simp),bw H.reads fun g q=>d rv g q (by simp),bw H.lE fun g q=>d ov g q (by simp),H.vW,H.far⟩
theorem MX.Xl(H:MX E W M S out):MZ E W M false S out:=by obtain⟨av,rv,ov,h,e⟩:=H;exact⟨av,rv,ov,⟨h.up,h.box,h.asked,h.reads,h.lE,h.vW,h.far.1⟩,e⟩
theorem MX.Xb(H:MX E W M S out)(b:Bool):MZ E (W.setCell ⟨E.mb,1,none⟩ (.bool b)) M b S out:=by
 obtain⟨av,rv,ov,h,e⟩:=H;have d:ak E.mb W (W.setCell ⟨E.mb,1,none⟩ (.bool b)):=(ak.refl _ _).set;obtain⟨n1,n2,l⟩:=h.apart;have a:∀v g,v.ownBlock=some g→v∈[av,rv,ov]→(W.setCell ⟨E.mb,1,none⟩ (.bool b)).heap[g]? =W.heap[g]? :=fun v g i k=>by have c:g∈bM [av,rv,ov]:=cQ.2 ⟨v,k,i⟩;exact d.block g (h.mlt g (bY _ (bY _ c))).2 (by intro e;injection e with e;exact(n2 g c).1 e)
 exact⟨av,rv,ov,⟨h.up.t (d.below h.far.1 h.up.size),aw (j:=1) h.box,bw h.asked fun g q=>a av g q (by simp),bw h.reads fun g q=>a rv g q (by simp),bw h.lE fun g q=>a ov g q (by simp),h.vW,h.far.1⟩,e⟩
theorem MX.WJ(H:MX E W M S out):E.mb∈M:=by obtain⟨av,rv,ov,_,rfl⟩:=H;exact eF
theorem MX.Xc(H:MX E W M S out)(v:aaL):bC M W M (W.setCell ⟨E.mb,1,none⟩ v):=
 ⟨((ak.refl E.mb W).set (j:=1) (v:=v)).size,fun b c a=>⟨a,dy W ⟨E.mb,1,none⟩ v b (by intro e;exact a (e▸H.WJ))⟩⟩
theorem KZ.mlt(H:KZ E W ok S out av rv ov):∀b∈MB E av rv ov,b≠E.im→E.w0.heap.size≤b∧b<W.heap.size:=fun b a c=>by
 rcases bL.1 a with rfl|a
 ·exact⟨H.far,H.lt⟩
 rcases bL.1 a with rfl|a
 ·exact absurd rfl c
 rcases vP.1 a with h|h|h
 ·exact H.asked.lt b h
 ·exact H.reads.lt b h
 ·exact H.lE.lt b h
theorem MZ.off{p:Nat}(H:MZ E W M ok S out)(j:p∉M)(d:E.w0.heap.size≤p)(c:ak p W W'):MZ E W' M ok S out:=by obtain⟨av,rv,ov,h,rfl⟩:=H;exact⟨av,rv,ov,h.cO (h.up.t (c.below d h.up.size)) fun b a i=>c.block b (h.mlt b a i).2 (by intro e;injection e with e;exact j (e▸a)),rfl⟩
end
theorem N4(b:Nat)(w:aaK):
 CallsD Tryz.prog 45 #[.pointer (some ⟨b,0,none⟩)] .returning w fun e h w'=>e=.returned (.tuple #[])∧h=.returning∧w'=w:=by
 refine callsD_of_wpS Tryz.func45 rfl fun c i d=> ?_;apply wpS_seq;apply wpS_region;simp[wpOpsS,go_sem,recoverD,d,Tryz.ntmps45,Exit.thenS];refine wpS_of_wp ?_;have a:((#[.pointer (some ⟨b,0,none⟩)]:Array aaL)++(Array.replicate 9 undef).setIfInBounds 3 .nilIface)=#[.pointer (some ⟨b,0,none⟩),undef,undef,undef,.nilIface,undef,undef,undef,undef,undef]:=rfl;rw[a];clear a;cases c;go_wp2_with fail;refine⟨rfl,_,rfl,.tuple #[], ?_,rfl,rfl,rfl⟩;simp[results,Tryz.results45,go_sem]
theorem Rx(w:aaK):(Instr.typeAssert (.iface 107 (.agg #[])) 20 107 true).run Tryz.prog w=.ok (.tuple #[.agg #[],.bool true]) w:=by kernel_rfl
theorem GK(b:Nat)(v0:Bool)(w:aaK)(H:w.heap[b]? =some (.cells #[.bool v0] 4)):
 CallsD Tryz.prog 45 #[.pointer (some ⟨b,0,none⟩)] (.panicking [gA]) w fun e m w'=>e=.returned (.tuple #[])∧m=.panicking [{gA with recovered:=true}]∧w'.heap[b]? =some (.cells #[.bool false] 4)∧∃h,Below w.heap.size w h∧w'=h.setCell ⟨b,0,none⟩ (.bool false):=by
 have c:=aj H 0;have l:=aF _ _ 0 _ _ H;refine callsD_of_wpS Tryz.func45 rfl fun k q a=> ?_;apply wpS_seq;apply wpS_region;simp[wpOpsS,go_sem,recoverD,a,gA,Tryz.ntmps45,Exit.thenS];refine wpS_of_wp ?_;have s:=Rx;have d:((#[.pointer (some ⟨b,0,none⟩)]:Array aaL)++(Array.replicate 9 undef).setIfInBounds 3 (.iface 107 (.agg #[])))=#[.pointer (some ⟨b,0,none⟩),undef,undef,undef,.iface 107 (.agg #[]),undef,undef,undef,undef,undef]:=rfl;rw[d];have p:∀O,(w.alloc O).cell? ⟨b,0,none⟩=some (.bool v0):=fun O=>aI c O;have r:∀O,(w.alloc O).frozen? ⟨b,0,none⟩=false:=fun O=>aA (aG H O);have i:=ad H;clear d c l H;cases k;have n:=ad a;clear a;go_wp2_with fail;refine⟨rfl,_,rfl,.tuple #[], ?_,rfl,rfl, ?_,_,az w _,rfl⟩
 ·simp[results,Tryz.results45,go_sem]
 ·exact aw (j:=0) (aG i.o _)
theorem uX{W:aaK}{v:Bool}(h:W.heap[d]? =some (.cells #[.bool v] 4))(c:l.getD 8 undef=.pointer (some ⟨d,0,none⟩)):(results Tryz.f24 l).run Tryz.prog W=.ok (.bool v) W:=by
 have y:=aj h 0;have a:l[8]?.getD undef=.pointer (some ⟨d,0,none⟩):=by rw[←c];simp
 simp[results,Tryz.results24,go_sem,a,y]
theorem zy{v0:Bool}(H:h.heap[d]? =some (.cells #[.bool v0] 4))(o:l.getD 8 undef=.pointer (some ⟨d,0,none⟩))(i:∀c,Below h.heap.size h c→a (.returned (.bool false)) (c.setCell ⟨d,0,none⟩ (.bool false))):
 Leaves Tryz.prog Tryz.f24 l a [{target:=.fn (.func 45) #[.pointer (some ⟨d,0,none⟩)],args:=#[]}] (.panicking [gA]) h:=by
 refine leaves_cons (f:=45) (args:=#[.pointer (some ⟨d,0,none⟩)]) (by simp) (by simp[go_sem]) ?_;refine(GK d v0 h H).m ?_;rintro e p q⟨rfl,rfl,j,c,k,rfl⟩;have n:=uX j o;simp only[settle];exact⟨_,n,i c k⟩
theorem oR{v:Bool}(H:h.heap[d]? =some (.cells #[.bool v] 4))(j:l.getD 8 undef=.pointer (some ⟨d,0,none⟩))(c:a (.returned (.bool v)) h):
 Leaves Tryz.prog Tryz.f24 l a [{target:=.fn (.func 45) #[.pointer (some ⟨d,0,none⟩)],args:=#[]}] .returning h:=by
 refine leaves_cons (f:=45) (args:=#[.pointer (some ⟨d,0,none⟩)]) (by simp) (by simp[go_sem]) ?_;refine(N4 d h).m ?_;rintro e k n⟨rfl,rfl,rfl⟩;have i:=uX H j;simp only[Leaves,settle];exact⟨_,i,c⟩
def BT(E:ME)(M:List Nat)(W:aaK)(out:Bs)(r:PS×Oc):Ending→aaK→Prop:=fun b w'=>∃a,bC M W a w'∧match r.2 with
 |.yes t=>b=.returned (.bool true)∧MZ E w' a true r.1 (out++t)
 |.no=>b=.returned (.bool true)∧∃g,MZ E w' a false r.1 (out++g)
 |.wait=>b=.returned (.bool false)∧∃g,MZ E w' a false r.1 (out++g)
theorem Ui{E:ME}{deep:Deep}{W:aaK}{M:List Nat}{S:PS}{out:Bs}(H:MX E W M S out){n:Nd}(Z:kl E deep i 0 n){v:aaL}(X:fu (fun b=>b∉M) W n v)(hw:bq E.inc S (wN n))(ho:out.length≤262144):
 Calls Tryz.prog 24 #[.pointer (some ⟨E.mb,0,none⟩),.func (.func 25) #[.pointer (some ⟨E.mb,0,none⟩)] #[],v,uV i] W (BT E M W out (bT E.env deep i n false S out.length)):=by
 obtain⟨aa,ac,ka,kc,rfl,-,-⟩:=X.shape;have am:∀(fn:Fn) (first cap:Array aaL) (w:aaK),(Instr.makeFunc fn first cap).run Tryz.prog w=.ok (.func fn first cap) w:=fun _ _ _ _=>rfl;have al:E.w0.heap.size≤W.heap.size:=H.up.size;have D:∀b,W.heap.size≤b→b∉M:=fun b h l=>by have:=(H.mlt b l).2;omega
 have V:=au ((W.alloc (.cells #[.int .i64 n.kind,.int .i64 n.place,.string ⟨n.text.toArray⟩,.slice aa n.attrs.length ac,.slice ka n.kids.length kc] 37)).alloc (.cells #[.string ⟨i.scheme.toArray⟩,.string ⟨i.host.toArray⟩,.int .i64 i.port,.string ⟨i.path.toArray⟩,.string ⟨i.query.toArray⟩,.bool i.hq] 23)) (.cells #[.bool false] 4);rw[aO,aO] at V;have A:=ad (show KX M _ (W.heap.size+1+1) (.cells #[.bool false] 4) from⟨V,D _ (by omega)⟩);have J:=ad (show KX M _ W.heap.size (.cells (eH n.kind n.place n.text (.slice aa n.attrs.length ac) (.slice ka n.kids.length kc)).toArray 37) from⟨aG (jX W (.cells #[.int .i64 n.kind,.int .i64 n.place,.string ⟨n.text.toArray⟩,.slice aa n.attrs.length ac,.slice ka n.kids.length kc] 37) (.cells #[.string ⟨i.scheme.toArray⟩,.string ⟨i.host.toArray⟩,.int .i64 i.port,.string ⟨i.path.toArray⟩,.string ⟨i.query.toArray⟩,.bool i.hq] 23)) (.cells #[.bool false] 4),D _ (ag _)⟩);have r:=ad (show KX M _ (W.heap.size+1) (.cells (qz i).toArray 23) from⟨aG (iT W (.cells #[.int .i64 n.kind,.int .i64 n.place,.string ⟨n.text.toArray⟩,.slice aa n.attrs.length ac,.slice ka n.kids.length kc] 37) (.cells #[.string ⟨i.scheme.toArray⟩,.string ⟨i.host.toArray⟩,.int .i64 i.port,.string ⟨i.path.toArray⟩,.string ⟨i.query.toArray⟩,.bool i.hq] 23)) (.cells #[.bool false] 4),D _ (fB _)⟩);have C:Below W.heap.size W (((W.alloc (.cells #[.int .i64 n.kind,.int .i64 n.place,.string ⟨n.text.toArray⟩,.slice aa n.attrs.length ac,.slice ka n.kids.length kc] 37)).alloc (.cells #[.string ⟨i.scheme.toArray⟩,.string ⟨i.host.toArray⟩,.int .i64 i.port,.string ⟨i.path.toArray⟩,.string ⟨i.query.toArray⟩,.bool i.hq] 23)).alloc (.cells #[.bool false] 4)):=((az W _).alloc (by rw[aO];omega) _).alloc (by rw[aO,aO];omega) _;have af:=ad (H.next C);have L:=ad (bC.ai (M:=M) C);have I:=ad (Z _ M S out false _ af.o (X.next C) hw ho);have B:=ad (show E.w0.heap.size≤W.heap.size+1+1 by omega);obtain⟨q,hq⟩:∃q,bT E.env deep i n false S out.length=q:=⟨_,rfl⟩;rw[hq] at I⊢;obtain⟨S1,oc⟩:=q;clear hq V D C X hw ho al H Z
 go_enter_defers Tryz.func24,Tryz.ntmps24
 go_upto_region 2 with fail;generalize((W.alloc (.cells #[.int .i64 n.kind,.int .i64 n.place,.string ⟨n.text.toArray⟩,.slice aa n.attrs.length ac,.slice ka n.kids.length kc] 37)).alloc (.cells #[.string ⟨i.scheme.toArray⟩,.string ⟨i.host.toArray⟩,.int .i64 i.port,.string ⟨i.path.toArray⟩,.string ⟨i.query.toArray⟩,.bool i.hq] 23)).alloc (.cells #[.bool false] 4)=x at*;generalize an:W.heap.size=nb at J r A B⊢;have K:=ad (show W.heap.size≤nb+1+1 by omega);clear an;obtain⟨x0,x1,x2,x3,x4⟩:=qX5 (aj J.o.1) 0 1 2 3 4;have u0:x.cell? ⟨nb+1,0,none⟩=some (.string ⟨i.scheme.toArray⟩):=tH _ _ 0 _ _ _ r.o.1;have u1:x.cell? ⟨nb+1,1,none⟩=some (.string ⟨i.host.toArray⟩):=tH _ _ 1 _ _ _ r.o.1;have u2:x.cell? ⟨nb+1,2,none⟩=some (.int .i64 i.port):=tH _ _ 2 _ _ _ r.o.1;have u3:x.cell? ⟨nb+1,3,none⟩=some (.string ⟨i.path.toArray⟩):=tH _ _ 3 _ _ _ r.o.1;have u4:x.cell? ⟨nb+1,4,none⟩=some (.string ⟨i.query.toArray⟩):=tH _ _ 4 _ _ _ r.o.1;have u5:x.cell? ⟨nb+1,5,none⟩=some (.bool i.hq):=tH _ _ 5 _ _ _ r.o.1;go_wp2_with fail;refine I.o.m ?_;intro en k Y;clear x0 x1 x2 x3 x4 u0 u1 u2 u3 u4 u5 I J r am;cases oc with
 |yes t=>
  obtain⟨rfl,z,s,d⟩:=Y;have c:=ad (A.o.stay d);have a:=ad s;have y:=ad (L.o.t d);clear s d;have Q:=ad (a.o.Xb true);have T:k.frozen? ⟨E.mb,1,none⟩=false:=by obtain⟨av,rv,ov,l,_⟩:=a.o;exact aA l.box
  have b1:k.cell? ⟨E.mb,1,none⟩=some (.bool false):=by obtain⟨av,rv,ov,l,_⟩:=a.o;exact tH _ _ 1 _ _ _ l.box
  go_upto_region 3 with fail;have u:=ad (show(k.setCell ⟨E.mb,1,none⟩ (.bool true)).heap[nb+1+1]? =some (.cells #[.bool false] 4) from(dy k ⟨E.mb,1,none⟩ (.bool true) (nb+1+1) (by intro e;exact c.o.2 (e▸a.o.WJ))).t c.o.1);have G:=ad c.o.2;have N:=ad (y.o.t (a.o.Xc (.bool true)));clear T b1 a c;generalize k.setCell ⟨E.mb,1,none⟩ (.bool true)=p at*;have c8:=aj u.o 0;have f8:p.frozen? ⟨nb+1+1,0,none⟩=false:=aA u.o;have R:=ad (Q.o.off G.o B.o ((ak.refl (nb+1+1) p).set (j:=0) (v:=.bool true)));have O:=ad (N.o.off K.o ((ak.refl (nb+1+1) p).set (j:=0) (v:=.bool true)));have F:=ad (show(p.setCell ⟨nb+1+1,0,none⟩ (.bool true)).heap[nb+1+1]? =some (.cells #[.bool true] 4) from aw (j:=0) u.o);go_wp2_with fail;exact oR F.o rfl ⟨z,O.o,rfl,R.o⟩
 |no=>
  obtain⟨rfl,z,g,s,d⟩:=Y;have c:=ad (A.o.stay d);have a:=ad s;have y:=ad (L.o.t d);clear s d;have Q:=ad (a.o.Xb false);have T:k.frozen? ⟨E.mb,1,none⟩=false:=by obtain⟨av,rv,ov,l,_⟩:=a.o;exact aA l.box
  have b1:k.cell? ⟨E.mb,1,none⟩=some (.bool false):=by obtain⟨av,rv,ov,l,_⟩:=a.o;exact tH _ _ 1 _ _ _ l.box
  go_upto_region 3 with fail;have u:=ad (show(k.setCell ⟨E.mb,1,none⟩ (.bool false)).heap[nb+1+1]? =some (.cells #[.bool false] 4) from(dy k ⟨E.mb,1,none⟩ (.bool false) (nb+1+1) (by intro e;exact c.o.2 (e▸a.o.WJ))).t c.o.1);have G:=ad c.o.2;have N:=ad (y.o.t (a.o.Xc (.bool false)));clear T b1 a c;generalize k.setCell ⟨E.mb,1,none⟩ (.bool false)=p at*;have c8:=aj u.o 0;have f8:p.frozen? ⟨nb+1+1,0,none⟩=false:=aA u.o;have R:=ad (Q.o.off G.o B.o ((ak.refl (nb+1+1) p).set (j:=0) (v:=.bool true)));have O:=ad (N.o.off K.o ((ak.refl (nb+1+1) p).set (j:=0) (v:=.bool true)));have F:=ad (show(p.setCell ⟨nb+1+1,0,none⟩ (.bool true)).heap[nb+1+1]? =some (.cells #[.bool true] 4) from aw (j:=0) u.o);go_wp2_with fail;exact oR F.o rfl ⟨z,O.o,rfl,g,R.o⟩
 |wait=>obtain⟨rfl,z,g,s,d⟩:=Y;have c:=ad (A.o.stay d);have a:=ad s;have y:=ad (L.o.t d);clear s d;go_wp2_with fail;exact zy c.o.1 rfl fun w1 ab=>⟨z,(y.o.t (bC.ai ab)).off K.o ((ak.refl _ _).set),rfl,g,((a.o.next ab).Xl).off c.o.2 B.o ((ak.refl _ _).set)⟩
theorem DY:∀{l:List U} {i:Nat} {u:U} (j:Nat) (v:aaL),l[i]? =some u→(qz u)[j]? =some v→(nB l)[i*6+j]? =some v
 |[],_,_,_,_,h,_=>by simp at h
 |x::r,0,u,j,v,h,a=>by simp at h;subst h;rw[nB,Nat.zero_mul,dH,qC (cH.1 a).1];exact a
 |x::r,i+1,u,j,v,h,a=>by rw[nB,jL (by show 6≤_;omega),←DY (l:=r) (i:=i) j v (by simpa using h) a];congr 1;show(i+1)*6+j-6=_;omega
theorem Rz{W:aaK}{base:Nat}{T:TypeId}{d:Option Addr}{e q:Nat}{l:List U}(h:W.ownsRow base T 6 (.slice d e q) l.length (nB l)){i:Nat}{u:U}(b:l[i]? =some u):∃g,d=some ⟨g,0,none⟩∧e=l.length∧∀(j:Nat) (v:aaL),(qz u)[j]? =some v→W.cell? ⟨g,i*6+j,none⟩=some v:=by
 rcases h.2 with⟨a,c⟩|⟨g,cap,r,a,c,t,w,x,y,z⟩
 ·rw[jn c] at b;simp at b
 ·have o:=h.cells (g:=g) (by rw[a];rfl);injection a with k m s;refine⟨g,k,m,fun j v p=> ?_⟩;have n:(⟨g,0,none⟩:Addr).add (i*6+j)=⟨g,0+(i*6+j),none⟩:=by unfold Addr.add;split<;>simp_all
  have:=o _ _ (DY j v b p);rw[n,dH] at this;exact this
def Vw(base:Nat)(W:aaK)(r:GM)(v:aaL):Prop:=∃av rv,v=.agg #[.string ⟨r.out.toArray⟩,.bool r.ok,.bool r.done,av,.int .i64 r.aU,.int .i64 r.work,rv]∧W.ownsRow base 23 6 av r.asked.length (nB r.asked)∧W.ownsRow base 9 1 rv r.reads.length (cM r.reads)
def qb(w:aaK)(r:GM):Ending→aaK→Prop:=fun e w'=>∃v,e=.returned v∧Vw w.heap.size w' r v∧Below w.heap.size w w'
end Go.Proofs.YtlemddnecmmfgaaGreatDoor
namespace Go.Proofs.YtlemddnecmmfgaaGreatDoor
open Go.Lib
variable{b a:Bs}{E:List Tok}{w:List bQ}{d n e:Nat}{h:Nd}{O:Tok}
def jr(l:List bQ):Prop:=∀a∈l,a.name.length≤16
mutual
def vj:Nd→Prop
 |.mk _ _ _ a l=>jr a∧xF l
def xF:List Nd→Prop
 |[]=>True
 |x::r=>vj x∧xF r
end
theorem JH:∀{a:List Nd} {n:Nd},xF a→vj n→xF (a++[n])
 |[],n,_,b=>by rw[kK,xF,xF];exact⟨b,trivial⟩
 |x::r,n,h,b=>by rw[xF] at h;rw[di,xF];exact⟨h.1,JH h.2 b⟩
theorem JI(n:Nd):vj n↔jr n.attrs∧xF n.kids:=by cases n;rw[vj];rfl
theorem B8{n:Nd}(a:vj h)(b:vj n):vj (fV h n):=by rw[JI] at a⊢;exact⟨a.1,JH a.2 b⟩
theorem RO(a:vj h)(t:Bs):vj (vN h t):=by rw[JI] at a⊢;exact a
theorem oW:jr []:=fun a h=>by cases h
theorem Lf{a:bQ}(h:fU b d n w=.aq a e):a.name.length≤16:=by
 unfold fU at h;dsimp only at h
 repeat' split at h
 all_goals first
  |(cases h;done)
  |(cases h;dsimp only;rw[gu];omega)
theorem xG{s:Bs}{tag:Nat}:∀(f i:Nat) (l:List bQ) {d:List bQ} {j:Nat},jr l→cE s tag f i l=.aq d j→jr d
 |0,i,l,d,j,_,h=>by unfold cE at h;cases h
 |f+1,i,l,d,j,e,h=>by
  unfold cE at h;dsimp only at h;split at h
  ·cases h
  ·split at h
   ·cases h;exact e
   ·split at h
    ·cases h
    ·split at h
     ·cases h
     ·rename_i a t k;refine xG f t (l++[a]) (fun b c=> ?_) h;rcases gZ.1 c with c|c
      ·exact e b c
      ·rw[fj.1 c];exact Lf k
theorem AL{k:Int}{j:Nat}(c:jr w)(h:gv b d a w k j=.aq O n):jr O.attrs:=by
 unfold gv at h;split at h
 ·cases h
 ·split at h
  ·cases h;exact c
  ·cases h
theorem RP(h:qw b d a n=.aq O e):jr O.attrs:=by
 unfold qw at h;split at h
 ·cases h
 ·rename_i l j k;have c:=xG _ _ _ oW k;split at h
  ·exact AL c h
  ·exact AL c h
theorem OD(h:iU b a d n=.aq O e):jr O.attrs:=by
 unfold iU at h;dsimp only at h;split at h
 ·cases h
 ·split at h
  ·cases h
  ·cases h;exact oW
theorem Lg(h:dB b d=.aq E n):∀t∈E,jr t.attrs:=by
 unfold dB at h;dsimp only at h;split at h
 ·split at h
  ·cases h
  ·rename_i t j l;have c:=RP l;split at h
   ·split at h
    ·cases h
    ·rename_i r k o;have i:=OD o;cases h;intro u a;rcases bL.1 a with e|a
     ·rw[e];exact c
     ·rw[fj.1 a];exact i
   ·cases h;intro u a;rw[fj.1 a];exact c
 ·cases h
theorem GU(h:de b d=.aq E n):∀t∈E,jr t.attrs:=by
 unfold de at h;dsimp only at h;split at h
 ·split at h
  ·cases h
  ·split at h
   ·cases h;intro u a;rw[fj.1 a];exact oW
   ·cases h
 ·cases h
theorem Lh{hid:Option Nat}{x:List Tok×Option Nat}(h:fq b d n hid=.aq x e):∀t∈x.1,jr t.attrs:=by
 have c:∀d n j,∀t∈[cS b d [] [] n j],jr t.attrs:=fun d n j t o=>by rw[fj.1 o];exact oW
 unfold fq at h;split at h
 ·split at h
  ·cases h
  ·rename_i l j a;cases h;exact Lg a
 ·split at h
  ·split at h
   ·cases h
   ·rename_i l j a;cases h;exact GU a
  ·split at h
   ·split at h
    ·cases h
    ·cases h;exact c _ _ _
   ·cases h;exact c _ _ _
theorem Li(s:Bs)(src i:Nat):∀t∈dc s src i,jr t.attrs:=by
 unfold dc;split
 ·intro t a;rw[fj.1 a];exact oW
 ·intro t a;cases a
theorem xH(s:Bs):∀(f src i:Nat) (hid:Option Nat) (l:List Tok) {b:List Tok} {m:Nat},(∀t∈l,jr t.attrs)→gS s f src i hid l=.aq b m→∀t∈b,jr t.attrs
 |0,src,i,hid,l,b,m,_,h=>by unfold gS at h;cases h
 |f+1,src,i,hid,l,b,m,c,h=>by
  have d:=Li s src i;unfold gS at h;dsimp only at h;split at h
  ·split at h
   ·exact xH s f src (i+1) hid l c h
   ·split at h
    ·cases h
    ·rename_i x j k;have e:=Lh k;refine xH s f j j x.2 (l++dc s src i++x.1) (fun t a=> ?_) h;rcases gZ.1 a with a|a
     ·rcases gZ.1 a with a|a
      ·exact c t a
      ·exact d t a
     ·exact e t a
  ·split at h
   ·cases h
   ·cases h;intro t a;rcases gZ.1 a with a|a
    ·exact c t a
    ·exact d t a
theorem RQ{x y:rf}(e:jr O.attrs)(a:vj x.top∧xF x.below)(h:lM x O=.aq y):vj y.top∧xF y.below:=by
 have c:∀k p s,vj (.mk k p s [] []):=fun k p s=>by rw[vj,xF];exact⟨oW,trivial⟩
 have node:∀k p s,vj (.mk k p s O.attrs []):=fun k p s=>by rw[vj,xF];exact⟨e,trivial⟩
 unfold lM at h;split at h
 ·unfold Dv at h;split at h
  ·injection h with h;subst h;exact⟨B8 a.1 (c _ _ _),a.2⟩
  ·split at h
   ·injection h with h;subst h;exact a
   ·cases h
 split at h
 ·injection h with h;subst h;exact⟨RO a.1 _,a.2⟩
 split at h
 ·unfold BL at h;dsimp only at h;obtain⟨_,b⟩:=sE h;subst b;split
  ·exact⟨B8 a.1 (node _ _ _),a.2⟩
  ·exact⟨node _ _ _,by rw[xF];exact a⟩
 split at h
 ·unfold Jo at h;dsimp only at h;obtain⟨_,b⟩:=sE h;subst b;exact⟨c _ _ _,by rw[xF];exact a⟩
 ·unfold Q9 at h;generalize(if O.kind=4 then kindOf O.name else 14)=i at h;dsimp only at h;split at h
  ·cases h
  ·obtain⟨j,below⟩:=x;cases below with
   |nil=>cases h
   |cons l r=>injection h with h;subst h;obtain⟨d,b⟩:=a;rw[xF] at b;exact⟨B8 b.1 d,b.2⟩
theorem Eb:∀{l:List Tok} {x y:rf},(∀t∈l,jr t.attrs)→vj x.top∧xF x.below→fX x l=.aq y→vj y.top∧xF y.below
 |[],x,y,_,a,h=>by unfold fX at h;injection h with h;subst h;exact a
 |t::r,x,y,b,a,h=>by
  unfold fX at h;split at h
  ·cases h
  ·rename_i z d;exact Eb (fun u c=>b u (by simp[c])) (RQ (b t (by simp)) a d) h
theorem Lj(h:(gW b).2.2=0):vj (gW b).1:=by
 have a:vj ny:=by unfold ny;rw[vj,xF];exact⟨oW,trivial⟩
 unfold gW;split
 ·exact a
 split
 ·exact a
 rename_i l m i;have c:=xH b _ _ _ _ _ (fun t h=>by cases h) i;split
 ·exact a
 rename_i x e;have d:=Eb c (show vj lN∧xF [] by unfold lN;rw[vj,xF];exact⟨⟨oW,trivial⟩,trivial⟩) e;split
 ·exact d.1
 ·exact a
theorem OE(n:Nd):sy n→vj n→MH n:=by
 refine Nd.ind (P:=fun n=>sy n→vj n→MH n) (fun k p t a l q c b=> ?_) n;rw[sy] at c;rw[vj] at b;obtain⟨u,h,i,j,_,m⟩:=c;rw[MH];refine⟨by omega,h,fun x e=>⟨by have:=i x e;omega,by have:=b.1 x e;omega⟩,j, ?_⟩;have key:∀(l:List Nd),(∀x,x∈l→sy x→vj x→MH x)→DN l→xF l→QK l:=fun l=>by
  induction l with
  |nil=>intro _ _ _;rw[QK];trivial
  |cons x r s=>intro d c b;rw[DN] at c;rw[xF] at b;rw[QK];exact⟨d x (by simp) c.1 b.1,s (fun y o=>d y (by simp[o])) c.2 b.2⟩
 exact key l q m b.2
theorem K7(h:(gW b).2.2=0):MH (gW b).1:=OE _ (sA h).1 (Lj h)
