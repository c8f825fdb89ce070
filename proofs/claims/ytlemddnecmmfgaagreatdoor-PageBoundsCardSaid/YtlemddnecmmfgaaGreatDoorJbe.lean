/- A statement whose order is open. -/
import Derived.Test.YtlemddnecmmfgaaGreatDoorJbd
set_option linter.unusedVariables false
set_option maxRecDepth 100000
set_option maxHeartbeats 4000000
namespace Go.Proofs.YtlemddnecmmfgaaGreatDoor
open Go.RowKit
variable{l:Array aaL}{a:Ending→aaK→Prop}{d:Nat}{z:U}{h:aaK}
theorem DU{E:ME}(h:QQ E){dp:Nat}(e:Ju E (rl E.env d) dp)(j:dp≤1000)(i:DO z)(n:Nd)(ok:sy n):kl E (rl E.env d) z dp n:=by refine(Nd.ind (P:=fun n=>sy n→kl E (rl E.env d) z dp n∧∀y∈n.kids,kl E (rl E.env d) z dp y) (fun k p t a l q ok=> ?_) n ok).1;have m:DN l:=(DS ok).2;have c:∀x∈l,kl E (rl E.env d) z dp x∧∀y∈x.kids,kl E (rl E.env d) z dp y:=fun x b=>q x b (m.get b);exact⟨Rw h e (we E.env d).1 (Uh E.env d z) i j k p t a l ok c,fun y o=>(c y o).1⟩
theorem N3{E:ME}(a:QQ E)(d:Nat):∀(dp:Nat),dp+d=E.dep→∀(base:U),DO base→∀n,sy n→kl E (rl E.env d) base dp n:=by
 have j:=a.d1;induction d with
 |zero=>exact fun dp h base b n ok=>DU a (.inl ⟨rfl,by omega⟩) (by omega) b n ok
 |succ d i=>exact fun dp h base b n ok=>DU a (.inr ⟨rl E.env d,rfl,by omega,fun u n e c=>i (dp+1) (by omega) u e n c⟩) (by omega) b n ok
abbrev WI(E:ME)(ok:Bool)(S:PS)(av rv ov:aaL):List aaL:=[.string ⟨#[]⟩,.bool ok,.bool false,av,.int .i64 S.aU,.int .i64 S.work,rv,ov,.string ⟨E.h.toArray⟩,.string ⟨E.t.toArray⟩,.slice E.fa E.fn E.fc,.int .i64 E.inc,.int .i64 E.dep,.slice E.ga E.fZ.length E.gc,.map (some E.im)]
structure KZ (E:ME) (W:aaK) (ok:Bool) (S:PS) (out:Bs) (av rv ov:aaL):Prop where
 up:Below E.w0.heap.size E.w0 W
 box:W.heap[E.mb]? =some (.cells (WI E ok S av rv ov).toArray 85)
 asked:W.ownsRow E.w0.heap.size 23 6 av S.asked.length (nB S.asked)
 reads:W.ownsRow E.w0.heap.size 9 1 rv S.reads.length (cM S.reads)
 lE:W.ownsRow E.w0.heap.size 5 1 ov out.length (da out)
 vW:(MB E av rv ov).Nodup
 far:E.w0.heap.size≤E.mb
def MZ(E:ME)(W:aaK)(M:List Nat)(ok:Bool)(S:PS)(out:Bs):Prop:=∃av rv ov,KZ E W ok S out av rv ov∧M=MB E av rv ov
section
variable{E:ME}{W W':aaK}{M:List Nat}{S:PS}{out:Bs}{ok:Bool}{av rv ov:aaL}
theorem KZ.lt(H:KZ E W ok S out av rv ov):E.mb<W.heap.size:=(aB.1 H.box).1
theorem KZ.cO(H:KZ E W ok S out av rv ov)(i:Below E.w0.heap.size E.w0 W')(h:∀b∈MB E av rv ov,b≠E.im→W'.heap[b]? =W.heap[b]?):KZ E W' ok S out av rv ov:=by
 obtain⟨n1,n2,m,n⟩:=fF.1 H.vW;have d:∀v g,v.ownBlock=some g→v∈[av,rv,ov]→W'.heap[g]? =W.heap[g]? :=fun v g a c=>h g (bY _ (bY _ (cQ.2 ⟨v,c,a⟩))) (fun e=>by
  obtain⟨j,k,l⟩:=n2 g (.inr e);simp at c;rcases c with rfl|rfl|rfl
  ·exact j a
  ·exact k a
  ·exact l a)
 exact⟨i,(h _ eF n1).t H.box,bw H.asked fun g q=>d av g q (by simp),bw H.reads fun g q=>d rv g q (by simp),bw H.lE fun g q=>d ov g q (by simp),H.vW,H.far⟩
theorem MX.Xl(H:MX E W M S out):MZ E W M false S out:=by obtain⟨av,rv,ov,h,e⟩:=H;exact⟨av,rv,ov,⟨h.up,h.box,h.asked,h.reads,h.lE,h.vW,h.far.1⟩,e⟩
theorem MX.Xb(H:MX E W M S out)(b:Bool):MZ E (W.setCell ⟨E.mb,1,none⟩ (.bool b)) M b S out:=by
 obtain⟨av,rv,ov,h,e⟩:=H;have d:ak E.mb W (W.setCell ⟨E.mb,1,none⟩ (.bool b)):=(ak.refl _ _).set;obtain⟨n1,n2,l⟩:=h.apart;have a:∀v g,v.ownBlock=some g→v∈[av,rv,ov]→(W.setCell ⟨E.mb,1,none⟩ (.bool b)).heap[g]? =W.heap[g]? :=fun v g i k=>by have c:g∈bM [av,rv,ov]:=cQ.2 ⟨v,k,i⟩;exact d.block g (h.mlt g (bY _ (bY _ c))).2 (by intro e;injection e with e;exact(n2 g c).1 e)
 exact⟨av,rv,ov,⟨h.up.t (d.below h.far.1 h.up.size),aw (j:=1) h.box,bw h.asked fun g q=>a av g q (by simp),bw h.reads fun g q=>a rv g q (by simp),bw h.lE fun g q=>a ov g q (by simp),h.vW,h.far.1⟩,e⟩
theorem MX.WJ(H:MX E W M S out):E.mb∈M:=by obtain⟨av,rv,ov,_,rfl⟩:=H;exact eF
theorem MX.Xc(H:MX E W M S out)(v:aaL):bC M W M (W.setCell ⟨E.mb,1,none⟩ v):=
 ⟨((ak.refl E.mb W).set (j:=1) (v:=v)).size,fun b c a=>⟨a,dy W ⟨E.mb,1,none⟩ v b (by intro e;exact a (e▸H.WJ))⟩⟩
theorem KZ.mlt(H:KZ E W ok S out av rv ov):∀b∈MB E av rv ov,b≠E.im→E.w0.heap.size≤b∧b<W.heap.size:=fun b a c=>by
 rcases bL.1 a with rfl|a
 ·exact⟨H.far,H.lt⟩
 rcases bL.1 a with rfl|a
 ·exact absurd rfl c
 rcases vP.1 a with h|h|h
 ·exact H.asked.lt b h
 ·exact H.reads.lt b h
 ·exact H.lE.lt b h
theorem MZ.off{p:Nat}(H:MZ E W M ok S out)(j:p∉M)(d:E.w0.heap.size≤p)(c:ak p W W'):MZ E W' M ok S out:=by obtain⟨av,rv,ov,h,rfl⟩:=H;exact⟨av,rv,ov,h.cO (h.up.t (c.below d h.up.size)) fun b a i=>c.block b (h.mlt b a i).2 (by intro e;injection e with e;exact j (e▸a)),rfl⟩
end
theorem N4(b:Nat)(w:aaK):
 CallsD Tryz.prog 45 #[.pointer (some ⟨b,0,none⟩)] .returning w fun e h w'=>e=.returned (.tuple #[])∧h=.returning∧w'=w:=by
 refine callsD_of_wpS Tryz.func45 rfl fun c i d=> ?_;apply wpS_seq;apply wpS_region;simp[wpOpsS,go_sem,recoverD,d,Tryz.ntmps45,Exit.thenS];refine wpS_of_wp ?_;have a:((#[.pointer (some ⟨b,0,none⟩)]:Array aaL)++(Array.replicate 9 undef).setIfInBounds 3 .nilIface)=#[.pointer (some ⟨b,0,none⟩),undef,undef,undef,.nilIface,undef,undef,undef,undef,undef]:=rfl;rw[a];clear a;cases c;go_wp2_with fail;refine⟨rfl,_,rfl,.tuple #[], ?_,rfl,rfl,rfl⟩;simp[results,Tryz.results45,go_sem]
theorem Rx(w:aaK):(Instr.typeAssert (.iface 107 (.agg #[])) 20 107 true).run Tryz.prog w=.ok (.tuple #[.agg #[],.bool true]) w:=by kernel_rfl
theorem GK(b:Nat)(v0:Bool)(w:aaK)(H:w.heap[b]? =some (.cells #[.bool v0] 4)):
 CallsD Tryz.prog 45 #[.pointer (some ⟨b,0,none⟩)] (.panicking [gA]) w fun e m w'=>e=.returned (.tuple #[])∧m=.panicking [{gA with recovered:=true}]∧w'.heap[b]? =some (.cells #[.bool false] 4)∧∃h,Below w.heap.size w h∧w'=h.setCell ⟨b,0,none⟩ (.bool false):=by
 have c:=aj H 0;have l:=aF _ _ 0 _ _ H;refine callsD_of_wpS Tryz.func45 rfl fun k q a=> ?_;apply wpS_seq;apply wpS_region;simp[wpOpsS,go_sem,recoverD,a,gA,Tryz.ntmps45,Exit.thenS];refine wpS_of_wp ?_;have s:=Rx;have d:((#[.pointer (some ⟨b,0,none⟩)]:Array aaL)++(Array.replicate 9 undef).setIfInBounds 3 (.iface 107 (.agg #[])))=#[.pointer (some ⟨b,0,none⟩),undef,undef,undef,.iface 107 (.agg #[]),undef,undef,undef,undef,undef]:=rfl;rw[d];have p:∀O,(w.alloc O).cell? ⟨b,0,none⟩=some (.bool v0):=fun O=>aI c O;have r:∀O,(w.alloc O).frozen? ⟨b,0,none⟩=false:=fun O=>aA (aG H O);have i:=ad H;clear d c l H;cases k;have n:=ad a;clear a;go_wp2_with fail;refine⟨rfl,_,rfl,.tuple #[], ?_,rfl,rfl, ?_,_,az w _,rfl⟩
 ·simp[results,Tryz.results45,go_sem]
 ·exact aw (j:=0) (aG i.o _)
theorem uX{W:aaK}{v:Bool}(h:W.heap[d]? =some (.cells #[.bool v] 4))(c:l.getD 8 undef=.pointer (some ⟨d,0,none⟩)):(results Tryz.f24 l).run Tryz.prog W=.ok (.bool v) W:=by
 have y:=aj h 0;have a:l[8]?.getD undef=.pointer (some ⟨d,0,none⟩):=by rw[←c];simp
 simp[results,Tryz.results24,go_sem,a,y]
theorem zy{v0:Bool}(H:h.heap[d]? =some (.cells #[.bool v0] 4))(o:l.getD 8 undef=.pointer (some ⟨d,0,none⟩))(i:∀c,Below h.heap.size h c→a (.returned (.bool false)) (c.setCell ⟨d,0,none⟩ (.bool false))):
 Leaves Tryz.prog Tryz.f24 l a [{target:=.fn (.func 45) #[.pointer (some ⟨d,0,none⟩)],args:=#[]}] (.panicking [gA]) h:=by
 refine leaves_cons (f:=45) (args:=#[.pointer (some ⟨d,0,none⟩)]) (by simp) (by simp[go_sem]) ?_;refine(GK d v0 h H).m ?_;rintro e p q⟨rfl,rfl,j,c,k,rfl⟩;have n:=uX j o;simp only[settle];exact⟨_,n,i c k⟩
theorem oR{v:Bool}(H:h.heap[d]? =some (.cells #[.bool v] 4))(j:l.getD 8 undef=.pointer (some ⟨d,0,none⟩))(c:a (.returned (.bool v)) h):
 Leaves Tryz.prog Tryz.f24 l a [{target:=.fn (.func 45) #[.pointer (some ⟨d,0,none⟩)],args:=#[]}] .returning h:=by
 refine leaves_cons (f:=45) (args:=#[.pointer (some ⟨d,0,none⟩)]) (by simp) (by simp[go_sem]) ?_;refine(N4 d h).m ?_;rintro e k n⟨rfl,rfl,rfl⟩;have i:=uX H j;simp only[Leaves,settle];exact⟨_,i,c⟩
def BT(E:ME)(M:List Nat)(W:aaK)(out:Bs)(r:PS×Oc):Ending→aaK→Prop:=fun b w'=>∃a,bC M W a w'∧match r.2 with
 |.yes t=>b=.returned (.bool true)∧MZ E w' a true r.1 (out++t)
 |.no=>b=.returned (.bool true)∧∃g,MZ E w' a false r.1 (out++g)
 |.wait=>b=.returned (.bool false)∧∃g,MZ E w' a false r.1 (out++g)
theorem Ui{E:ME}{deep:Deep}{W:aaK}{M:List Nat}{S:PS}{out:Bs}(H:MX E W M S out){n:Nd}(Z:kl E deep z 0 n){v:aaL}(X:fu (fun b=>b∉M) W n v)(hw:bq E.inc S (wN n))(ho:out.length≤262144):
 Calls Tryz.prog 24 #[.pointer (some ⟨E.mb,0,none⟩),.func (.func 25) #[.pointer (some ⟨E.mb,0,none⟩)] #[],v,uV z] W (BT E M W out (bT E.env deep z n false S out.length)):=by
 obtain⟨aa,ac,ka,kc,rfl,-,-⟩:=X.shape;have am:∀(fn:Fn) (first cap:Array aaL) (w:aaK),(Instr.makeFunc fn first cap).run Tryz.prog w=.ok (.func fn first cap) w:=fun _ _ _ _=>rfl;have al:E.w0.heap.size≤W.heap.size:=H.up.size;have D:∀b,W.heap.size≤b→b∉M:=fun b h k=>by have:=(H.mlt b k).2;omega
 have V:=au ((W.alloc (.cells #[.int .i64 n.kind,.int .i64 n.place,.string ⟨n.text.toArray⟩,.slice aa n.attrs.length ac,.slice ka n.kids.length kc] 37)).alloc (.cells #[.string ⟨z.scheme.toArray⟩,.string ⟨z.host.toArray⟩,.int .i64 z.port,.string ⟨z.path.toArray⟩,.string ⟨z.query.toArray⟩,.bool z.hq] 23)) (.cells #[.bool false] 4);rw[aO,aO] at V;have A:=ad (show KX M _ (W.heap.size+1+1) (.cells #[.bool false] 4) from⟨V,D _ (by omega)⟩);have J:=ad (show KX M _ W.heap.size (.cells (eH n.kind n.place n.text (.slice aa n.attrs.length ac) (.slice ka n.kids.length kc)).toArray 37) from⟨aG (jX W (.cells #[.int .i64 n.kind,.int .i64 n.place,.string ⟨n.text.toArray⟩,.slice aa n.attrs.length ac,.slice ka n.kids.length kc] 37) (.cells #[.string ⟨z.scheme.toArray⟩,.string ⟨z.host.toArray⟩,.int .i64 z.port,.string ⟨z.path.toArray⟩,.string ⟨z.query.toArray⟩,.bool z.hq] 23)) (.cells #[.bool false] 4),D _ (ag _)⟩);have p:=ad (show KX M _ (W.heap.size+1) (.cells (qz z).toArray 23) from⟨aG (iT W (.cells #[.int .i64 n.kind,.int .i64 n.place,.string ⟨n.text.toArray⟩,.slice aa n.attrs.length ac,.slice ka n.kids.length kc] 37) (.cells #[.string ⟨z.scheme.toArray⟩,.string ⟨z.host.toArray⟩,.int .i64 z.port,.string ⟨z.path.toArray⟩,.string ⟨z.query.toArray⟩,.bool z.hq] 23)) (.cells #[.bool false] 4),D _ (fB _)⟩);have C:Below W.heap.size W (((W.alloc (.cells #[.int .i64 n.kind,.int .i64 n.place,.string ⟨n.text.toArray⟩,.slice aa n.attrs.length ac,.slice ka n.kids.length kc] 37)).alloc (.cells #[.string ⟨z.scheme.toArray⟩,.string ⟨z.host.toArray⟩,.int .i64 z.port,.string ⟨z.path.toArray⟩,.string ⟨z.query.toArray⟩,.bool z.hq] 23)).alloc (.cells #[.bool false] 4)):=((az W _).alloc (by rw[aO];omega) _).alloc (by rw[aO,aO];omega) _;have af:=ad (H.next C);have L:=ad (bC.ai (M:=M) C);have I:=ad (Z _ M S out false _ af.o (X.next C) hw ho);have B:=ad (show E.w0.heap.size≤W.heap.size+1+1 by omega);obtain⟨q,hq⟩:∃q,bT E.env deep z n false S out.length=q:=⟨_,rfl⟩;rw[hq] at I⊢;obtain⟨S1,oc⟩:=q;clear hq V D C X hw ho al H Z
 go_enter_defers Tryz.func24,Tryz.ntmps24
 go_upto_region 2 with fail;generalize((W.alloc (.cells #[.int .i64 n.kind,.int .i64 n.place,.string ⟨n.text.toArray⟩,.slice aa n.attrs.length ac,.slice ka n.kids.length kc] 37)).alloc (.cells #[.string ⟨z.scheme.toArray⟩,.string ⟨z.host.toArray⟩,.int .i64 z.port,.string ⟨z.path.toArray⟩,.string ⟨z.query.toArray⟩,.bool z.hq] 23)).alloc (.cells #[.bool false] 4)=u at*;generalize an:W.heap.size=nb at J p A B⊢;have K:=ad (show W.heap.size≤nb+1+1 by omega);clear an;have x0:=aj J.o.1;have u0:u.cell? ⟨nb+1,0,none⟩=some (.string ⟨z.scheme.toArray⟩):=tH _ _ 0 _ _ _ p.o.1;have u1:u.cell? ⟨nb+1,1,none⟩=some (.string ⟨z.host.toArray⟩):=tH _ _ 1 _ _ _ p.o.1;have u2:u.cell? ⟨nb+1,2,none⟩=some (.int .i64 z.port):=tH _ _ 2 _ _ _ p.o.1;have u3:u.cell? ⟨nb+1,3,none⟩=some (.string ⟨z.path.toArray⟩):=tH _ _ 3 _ _ _ p.o.1;have u4:u.cell? ⟨nb+1,4,none⟩=some (.string ⟨z.query.toArray⟩):=tH _ _ 4 _ _ _ p.o.1;have u5:u.cell? ⟨nb+1,5,none⟩=some (.bool z.hq):=tH _ _ 5 _ _ _ p.o.1;go_wp2_with fail;refine I.o.m ?_;intro en i Y;clear x0 u0 u1 u2 u3 u4 u5 I J p am;cases oc with
 |yes t=>
  obtain⟨rfl,y,r,d⟩:=Y;have c:=ad (A.o.stay d);have a:=ad r;have x:=ad (L.o.t d);clear r d;have Q:=ad (a.o.Xb true);have T:i.frozen? ⟨E.mb,1,none⟩=false:=by obtain⟨av,rv,ov,k,_⟩:=a.o;exact aA k.box
  have b1:i.cell? ⟨E.mb,1,none⟩=some (.bool false):=by obtain⟨av,rv,ov,k,_⟩:=a.o;exact tH _ _ 1 _ _ _ k.box
  go_upto_region 3 with fail;have s:=ad (show(i.setCell ⟨E.mb,1,none⟩ (.bool true)).heap[nb+1+1]? =some (.cells #[.bool false] 4) from(dy i ⟨E.mb,1,none⟩ (.bool true) (nb+1+1) (by intro e;exact c.o.2 (e▸a.o.WJ))).t c.o.1);have G:=ad c.o.2;have N:=ad (x.o.t (a.o.Xc (.bool true)));clear T b1 a c;generalize i.setCell ⟨E.mb,1,none⟩ (.bool true)=l at*;have c8:=aj s.o 0;have f8:l.frozen? ⟨nb+1+1,0,none⟩=false:=aA s.o;have R:=ad (Q.o.off G.o B.o ((ak.refl (nb+1+1) l).set (j:=0) (v:=.bool true)));have O:=ad (N.o.off K.o ((ak.refl (nb+1+1) l).set (j:=0) (v:=.bool true)));have F:=ad (show(l.setCell ⟨nb+1+1,0,none⟩ (.bool true)).heap[nb+1+1]? =some (.cells #[.bool true] 4) from aw (j:=0) s.o);go_wp2_with fail;exact oR F.o rfl ⟨y,O.o,rfl,R.o⟩
 |no=>
  obtain⟨rfl,y,g,r,d⟩:=Y;have c:=ad (A.o.stay d);have a:=ad r;have x:=ad (L.o.t d);clear r d;have Q:=ad (a.o.Xb false);have T:i.frozen? ⟨E.mb,1,none⟩=false:=by obtain⟨av,rv,ov,k,_⟩:=a.o;exact aA k.box
  have b1:i.cell? ⟨E.mb,1,none⟩=some (.bool false):=by obtain⟨av,rv,ov,k,_⟩:=a.o;exact tH _ _ 1 _ _ _ k.box
  go_upto_region 3 with fail;have s:=ad (show(i.setCell ⟨E.mb,1,none⟩ (.bool false)).heap[nb+1+1]? =some (.cells #[.bool false] 4) from(dy i ⟨E.mb,1,none⟩ (.bool false) (nb+1+1) (by intro e;exact c.o.2 (e▸a.o.WJ))).t c.o.1);have G:=ad c.o.2;have N:=ad (x.o.t (a.o.Xc (.bool false)));clear T b1 a c;generalize i.setCell ⟨E.mb,1,none⟩ (.bool false)=l at*;have c8:=aj s.o 0;have f8:l.frozen? ⟨nb+1+1,0,none⟩=false:=aA s.o;have R:=ad (Q.o.off G.o B.o ((ak.refl (nb+1+1) l).set (j:=0) (v:=.bool true)));have O:=ad (N.o.off K.o ((ak.refl (nb+1+1) l).set (j:=0) (v:=.bool true)));have F:=ad (show(l.setCell ⟨nb+1+1,0,none⟩ (.bool true)).heap[nb+1+1]? =some (.cells #[.bool true] 4) from aw (j:=0) s.o);go_wp2_with fail;exact oR F.o rfl ⟨y,O.o,rfl,g,R.o⟩
 |wait=>obtain⟨rfl,y,g,r,d⟩:=Y;have c:=ad (A.o.stay d);have a:=ad r;have x:=ad (L.o.t d);clear r d;go_wp2_with fail;exact zy c.o.1 rfl fun w1 ab=>⟨y,(x.o.t (bC.ai ab)).off K.o ((ak.refl _ _).set),rfl,g,((a.o.next ab).Xl).off c.o.2 B.o ((ak.refl _ _).set)⟩
theorem DY:∀{l:List U} {i:Nat} {u:U} (j:Nat) (v:aaL),l[i]? =some u→(qz u)[j]? =some v→(nB l)[i*6+j]? =some v
 |[],_,_,_,_,h,_=>by simp at h
 |x::r,0,u,j,v,h,a=>by simp at h;subst h;rw[nB,Nat.zero_mul,dH,qC (cH.1 a).1];exact a
 |x::r,i+1,u,j,v,h,a=>by rw[nB,jL (by show 6≤_;omega),←DY (l:=r) (i:=i) j v (by simpa using h) a];congr 1;show(i+1)*6+j-6=_;omega
theorem Rz{W:aaK}{base:Nat}{T:TypeId}{d:Option Addr}{e q:Nat}{l:List U}(h:W.ownsRow base T 6 (.slice d e q) l.length (nB l)){i:Nat}{u:U}(b:l[i]? =some u):∃g,d=some ⟨g,0,none⟩∧e=l.length∧∀(j:Nat) (v:aaL),(qz u)[j]? =some v→W.cell? ⟨g,i*6+j,none⟩=some v:=by
 rcases h.2 with⟨a,c⟩|⟨g,cap,r,a,c,t,w,x,y,z⟩
 ·rw[jn c] at b;simp at b
 ·have o:=h.cells (g:=g) (by rw[a];rfl);injection a with k m s;refine⟨g,k,m,fun j v p=> ?_⟩;have n:(⟨g,0,none⟩:Addr).add (i*6+j)=⟨g,0+(i*6+j),none⟩:=by unfold Addr.add;split<;>simp_all
  have:=o _ _ (DY j v b p);rw[n,dH] at this;exact this
def Vw(base:Nat)(W:aaK)(r:GM)(v:aaL):Prop:=∃av rv,v=.agg #[.string ⟨r.out.toArray⟩,.bool r.ok,.bool r.done,av,.int .i64 r.aU,.int .i64 r.work,rv]∧W.ownsRow base 23 6 av r.asked.length (nB r.asked)∧W.ownsRow base 9 1 rv r.reads.length (cM r.reads)
def qb(w:aaK)(r:GM):Ending→aaK→Prop:=fun e w'=>∃v,e=.returned v∧Vw w.heap.size w' r v∧Below w.heap.size w w'
end Go.Proofs.YtlemddnecmmfgaaGreatDoor
namespace Go.Proofs.YtlemddnecmmfgaaGreatDoor
open Go.Lib
variable{b p:Bs}{a:List Tok}{y:List bQ}{d n e:Nat}{h:Nd}{B:Tok}
def jr(l:List bQ):Prop:=∀a∈l,a.name.length≤16
mutual
def vj:Nd→Prop
 |.mk _ _ _ a l=>jr a∧xF l
def xF:List Nd→Prop
 |[]=>True
 |x::r=>vj x∧xF r
end
theorem JH:∀{a:List Nd} {n:Nd},xF a→vj n→xF (a++[n])
 |[],n,_,b=>by rw[kK,xF,xF];exact⟨b,trivial⟩
 |x::r,n,h,b=>by rw[xF] at h;rw[di,xF];exact⟨h.1,JH h.2 b⟩
theorem JI(n:Nd):vj n↔jr n.attrs∧xF n.kids:=by cases n;rw[vj];rfl
theorem B8{n:Nd}(a:vj h)(b:vj n):vj (fV h n):=by rw[JI] at a⊢;exact⟨a.1,JH a.2 b⟩
theorem RO(a:vj h)(t:Bs):vj (vN h t):=by rw[JI] at a⊢;exact a
theorem oW:jr []:=fun a h=>by cases h
theorem Lf{a:bQ}(h:fU b d n y=.aq a e):a.name.length≤16:=by
 unfold fU at h;dsimp only at h
 repeat' split at h
 all_goals first
  |(cases h;done)
  |(cases h;dsimp only;rw[gu];omega)
theorem xG{s:Bs}{tag:Nat}:∀(f i:Nat) (l:List bQ) {d:List bQ} {j:Nat},jr l→cE s tag f i l=.aq d j→jr d
 |0,i,l,d,j,_,h=>by unfold cE at h;cases h
 |f+1,i,l,d,j,e,h=>by
  unfold cE at h;dsimp only at h;split at h
  ·cases h
  ·split at h
   ·cases h;exact e
   ·split at h
    ·cases h
    ·split at h
     ·cases h
     ·rename_i a t k;refine xG f t (l++[a]) (fun b c=> ?_) h;rcases gZ.1 c with c|c
      ·exact e b c
      ·rw[fj.1 c];exact Lf k
theorem AL{k:Int}{j:Nat}(a:jr y)(h:gv b d p y k j=.aq B n):jr B.attrs:=by
 unfold gv at h;split at h
 ·cases h
 ·split at h
  ·cases h;exact a
  ·cases h
theorem RP(h:qw b d p n=.aq B e):jr B.attrs:=by
 unfold qw at h;split at h
 ·cases h
 ·rename_i l j c;have a:=xG _ _ _ oW c;split at h
  ·exact AL a h
  ·exact AL a h
theorem OD(h:iU b p d n=.aq B e):jr B.attrs:=by
 unfold iU at h;dsimp only at h;split at h
 ·cases h
 ·split at h
  ·cases h
  ·cases h;exact oW
theorem Lg(h:dB b d=.aq a n):∀t∈a,jr t.attrs:=by
 unfold dB at h;dsimp only at h;split at h
 ·split at h
  ·cases h
  ·rename_i t j o;have i:=RP o;split at h
   ·split at h
    ·cases h
    ·rename_i r k p;have l:=OD p;cases h;intro u c;rcases bL.1 c with e|c
     ·rw[e];exact i
     ·rw[fj.1 c];exact l
   ·cases h;intro u c;rw[fj.1 c];exact i
 ·cases h
theorem GU(h:de b d=.aq a n):∀t∈a,jr t.attrs:=by
 unfold de at h;dsimp only at h;split at h
 ·split at h
  ·cases h
  ·split at h
   ·cases h;intro u c;rw[fj.1 c];exact oW
   ·cases h
 ·cases h
theorem Lh{hid:Option Nat}{x:List Tok×Option Nat}(h:fq b d n hid=.aq x e):∀t∈x.1,jr t.attrs:=by
 have c:∀d n j,∀t∈[cS b d [] [] n j],jr t.attrs:=fun d n j t o=>by rw[fj.1 o];exact oW
 unfold fq at h;split at h
 ·split at h
  ·cases h
  ·rename_i l j a;cases h;exact Lg a
 ·split at h
  ·split at h
   ·cases h
   ·rename_i l j a;cases h;exact GU a
  ·split at h
   ·split at h
    ·cases h
    ·cases h;exact c _ _ _
   ·cases h;exact c _ _ _
theorem Li(s:Bs)(src i:Nat):∀t∈dc s src i,jr t.attrs:=by
 unfold dc;split
 ·intro t a;rw[fj.1 a];exact oW
 ·intro t a;cases a
theorem xH(s:Bs):∀(f src i:Nat) (hid:Option Nat) (l:List Tok) {b:List Tok} {m:Nat},(∀t∈l,jr t.attrs)→gS s f src i hid l=.aq b m→∀t∈b,jr t.attrs
 |0,src,i,hid,l,b,m,_,h=>by unfold gS at h;cases h
 |f+1,src,i,hid,l,b,m,c,h=>by
  have d:=Li s src i;unfold gS at h;dsimp only at h;split at h
  ·split at h
   ·exact xH s f src (i+1) hid l c h
   ·split at h
    ·cases h
    ·rename_i x j k;have e:=Lh k;refine xH s f j j x.2 (l++dc s src i++x.1) (fun t a=> ?_) h;rcases gZ.1 a with a|a
     ·rcases gZ.1 a with a|a
      ·exact c t a
      ·exact d t a
     ·exact e t a
  ·split at h
   ·cases h
   ·cases h;intro t a;rcases gZ.1 a with a|a
    ·exact c t a
    ·exact d t a
theorem RQ{x y:rf}(e:jr B.attrs)(a:vj x.top∧xF x.below)(h:lM x B=.aq y):vj y.top∧xF y.below:=by
 have c:∀k p s,vj (.mk k p s [] []):=fun k p s=>by rw[vj,xF];exact⟨oW,trivial⟩
 have node:∀k p s,vj (.mk k p s B.attrs []):=fun k p s=>by rw[vj,xF];exact⟨e,trivial⟩
 unfold lM at h;split at h
 ·unfold Dv at h;split at h
  ·injection h with h;subst h;exact⟨B8 a.1 (c _ _ _),a.2⟩
  ·split at h
   ·injection h with h;subst h;exact a
   ·cases h
 split at h
 ·injection h with h;subst h;exact⟨RO a.1 _,a.2⟩
 split at h
 ·unfold BL at h;dsimp only at h;obtain⟨_,b⟩:=sE h;subst b;split
  ·exact⟨B8 a.1 (node _ _ _),a.2⟩
  ·exact⟨node _ _ _,by rw[xF];exact a⟩
 split at h
 ·unfold Jo at h;dsimp only at h;obtain⟨_,b⟩:=sE h;subst b;exact⟨c _ _ _,by rw[xF];exact a⟩
 ·unfold Q9 at h;generalize(if B.kind=4 then kindOf B.name else 14)=i at h;dsimp only at h;split at h
  ·cases h
  ·obtain⟨j,below⟩:=x;cases below with
   |nil=>cases h
   |cons l r=>injection h with h;subst h;obtain⟨d,b⟩:=a;rw[xF] at b;exact⟨B8 b.1 d,b.2⟩
theorem Eb:∀{l:List Tok} {x y:rf},(∀t∈l,jr t.attrs)→vj x.top∧xF x.below→fX x l=.aq y→vj y.top∧xF y.below
 |[],x,y,_,a,h=>by unfold fX at h;injection h with h;subst h;exact a
 |t::r,x,y,b,a,h=>by
  unfold fX at h;split at h
  ·cases h
  ·rename_i z d;exact Eb (fun u c=>b u (by simp[c])) (RQ (b t (by simp)) a d) h
theorem Lj(h:(gW b).2.2=0):vj (gW b).1:=by
 have a:vj ny:=by unfold ny;rw[vj,xF];exact⟨oW,trivial⟩
 unfold gW;split
 ·exact a
 split
 ·exact a
 rename_i l m i;have c:=xH b _ _ _ _ _ (fun t h=>by cases h) i;split
 ·exact a
 rename_i x e;have d:=Eb c (show vj lN∧xF [] by unfold lN;rw[vj,xF];exact⟨⟨oW,trivial⟩,trivial⟩) e;split
 ·exact d.1
 ·exact a
theorem OE(n:Nd):sy n→vj n→MH n:=by
 refine Nd.ind (P:=fun n=>sy n→vj n→MH n) (fun k p t a l q c b=> ?_) n;rw[sy] at c;rw[vj] at b;obtain⟨u,h,i,j,_,m⟩:=c;rw[MH];refine⟨by omega,h,fun x e=>⟨by have:=i x e;omega,by have:=b.1 x e;omega⟩,j, ?_⟩;have key:∀(l:List Nd),(∀x,x∈l→sy x→vj x→MH x)→DN l→xF l→QK l:=fun l=>by
  induction l with
  |nil=>intro _ _ _;rw[QK];trivial
  |cons x r s=>intro d c b;rw[DN] at c;rw[xF] at b;rw[QK];exact⟨d x (by simp) c.1 b.1,s (fun y o=>d y (by simp[o])) c.2 b.2⟩
 exact key l q m b.2
theorem K7(h:(gW b).2.2=0):MH (gW b).1:=OE _ (sA h).1 (Lj h)
end Go.Proofs.YtlemddnecmmfgaaGreatDoor
namespace Go.Proofs.YtlemddnecmmfgaaGreatDoor
open Go.RowKit
variable{q:ME}{d:Nat}{b:Nd}{a s:aaK}
structure WK (w:aaK) (h t:Bs) (fs:List dQ) (fa:Option Addr) (fn fc:Nat) (ga:Option Addr) (fZ:List j5):Prop where
 gl:GL w
 Vr:aZ w (.slice fa fn fc) fs
 Vs:rX fs
 t1:t.length≤100000
 h1:h.length≤100002000
 Vc:fZ.length≤100000000
 Vx:∀(i:Nat) (g:j5),fZ[i]? =some g→∃b o,ga=some ⟨b,o,none⟩∧b<w.heap.size∧w.cell? ⟨b,o+i*3,none⟩=some (.string ⟨g.body.toArray⟩)∧w.cell? ⟨b,o+i*3+1,none⟩=some (.bool g.F3)∧w.cell? ⟨b,o+i*3+2,none⟩=some (.bool g.ok)
 Vd:∀g∈fZ,g.body.length≤1000000
def mO(n:Int)(m:Nat):Nat:=(max 0 (min n m)).toNat
theorem Jz(n:Int)(m:Nat):mO n m≤m:=by unfold mO;omega
theorem Zy(n:Int)(m:Nat):((mO n m:Nat):Int)=max 0 (min n m):=by unfold mO;omega
theorem N5(w:aaK)(A B C D F:Obj):(((((w.alloc A).alloc B).alloc C).alloc D).alloc F).heap[w.heap.size]? =some A∧(((((w.alloc A).alloc B).alloc C).alloc D).alloc F).heap[w.heap.size+1]? =some B∧(((((w.alloc A).alloc B).alloc C).alloc D).alloc F).heap[w.heap.size+1+1]? =some C∧
 (((((w.alloc A).alloc B).alloc C).alloc D).alloc F).heap[w.heap.size+1+1+1]? =some D∧(((((w.alloc A).alloc B).alloc C).alloc D).alloc F).heap[w.heap.size+1+1+1+1]? =some F∧Below w.heap.size w (((((w.alloc A).alloc B).alloc C).alloc D).alloc F):=by
 have e:(w.alloc A).heap.size=w.heap.size+1:=aO _ _;have a1:=au w A;have k:=az w A;generalize w.alloc A=a at*;have h:(a.alloc B).heap.size=w.heap.size+1+1:=by rw[aO,e]
 have a2:(a.alloc B).heap[w.heap.size+1]? =some B:=by rw[←e];exact au a B
 have a1:=aG a1 B;have l:Below w.heap.size w (a.alloc B):=k.alloc (by omega) B;generalize a.alloc B=b at*;have i:(b.alloc C).heap.size=w.heap.size+1+1+1:=by rw[aO,h]
 have a3:(b.alloc C).heap[w.heap.size+1+1]? =some C:=by rw[←h];exact au b C
 have a1:=aG a1 C;have a2:=aG a2 C;have m:Below w.heap.size w (b.alloc C):=l.alloc (by omega) C;generalize b.alloc C=c at*;have o:(c.alloc D).heap.size=w.heap.size+1+1+1+1:=by rw[aO,i]
 have a4:(c.alloc D).heap[w.heap.size+1+1+1]? =some D:=by rw[←i];exact au c D
 have a1:=aG a1 D;have a2:=aG a2 D;have a3:=aG a3 D;have n:Below w.heap.size w (c.alloc D):=m.alloc (by omega) D;generalize c.alloc D=d at*;have j:(d.alloc F).heap[w.heap.size+1+1+1+1]? =some F:=by rw[←o];exact au d F
 exact⟨aG a1 F,aG a2 F,aG a3 F,aG a4 F,j,n.alloc (by omega) F⟩
theorem bz{O:Obj}(h:a.heap[d]? =some O)(c:Below a.heap.size a s):s.heap[d]? =some O:=(c.block _ (aB.1 h).1).t h
theorem kS{T:TypeId}{v0 v1 v2 k i e c:aaL}(u0 u1 u2 u3 u4 u5 u6:aaL)(h:a.heap[d]? =some (.cells #[v0,v1,v2,k,i,e,c] T)):
 (((((((a.setCell ⟨d,0,none⟩ u0).setCell ⟨d,1,none⟩ u1).setCell ⟨d,2,none⟩ u2).setCell ⟨d,3,none⟩ u3).setCell ⟨d,4,none⟩ u4).setCell ⟨d,5,none⟩ u5).setCell ⟨d,6,none⟩ u6).heap[d]? =some (.cells #[u0,u1,u2,u3,u4,u5,u6] T):=by
 have r:(a.setCell ⟨d,0,none⟩ u0).heap[d]? =some (.cells #[u0,v1,v2,k,i,e,c] T):=aw (j:=0) h;generalize a.setCell ⟨d,0,none⟩ u0=l at*;have s:(l.setCell ⟨d,1,none⟩ u1).heap[d]? =some (.cells #[u0,u1,v2,k,i,e,c] T):=aw (j:=1) r;generalize l.setCell ⟨d,1,none⟩ u1=m at*;have t:(m.setCell ⟨d,2,none⟩ u2).heap[d]? =some (.cells #[u0,u1,u2,k,i,e,c] T):=aw (j:=2) s;generalize m.setCell ⟨d,2,none⟩ u2=n at*;have u:(n.setCell ⟨d,3,none⟩ u3).heap[d]? =some (.cells #[u0,u1,u2,u3,i,e,c] T):=aw (j:=3) t;generalize n.setCell ⟨d,3,none⟩ u3=o at*;have w:(o.setCell ⟨d,4,none⟩ u4).heap[d]? =some (.cells #[u0,u1,u2,u3,u4,e,c] T):=aw (j:=4) u;generalize o.setCell ⟨d,4,none⟩ u4=p at*;have x:(p.setCell ⟨d,5,none⟩ u5).heap[d]? =some (.cells #[u0,u1,u2,u3,u4,u5,c] T):=aw (j:=5) w;generalize p.setCell ⟨d,5,none⟩ u5=q at*;have y:(q.setCell ⟨d,6,none⟩ u6).heap[d]? =some (.cells #[u0,u1,u2,u3,u4,u5,u6] T):=aw (j:=6) x;exact y
theorem jy(W:aaK)(b:Nat)(u0 u1 u2 u3 u4 u5 u6:aaL):ak b W (((((((W.setCell ⟨b,0,none⟩ u0).setCell ⟨b,1,none⟩ u1).setCell ⟨b,2,none⟩ u2).setCell ⟨b,3,none⟩ u3).setCell ⟨b,4,none⟩ u4).setCell ⟨b,5,none⟩ u5).setCell ⟨b,6,none⟩ u6):=(((((((ak.refl b W).set).set).set).set).set).set).set
theorem ja{fn:Func}{tmps:Array aaL}{c:Nat}{v0 v1 v2 e i j k:aaL}(h:fn.results=#[.cell c 44])(m:tmps.getD c undef=.pointer (some ⟨d,0,none⟩))(l:a.heap[d]? =some (.cells #[v0,v1,v2,e,i,j,k] 44)):
 (results fn tmps).run Tryz.prog a=.ok (.agg #[v0,v1,v2,e,i,j,k]) a:=by
 obtain⟨o,p,q,r,s,t,u⟩:=qX7 (aj l) 0 1 2 3 4 5 6;have n:tmps[c]?.getD undef=.pointer (some ⟨d,0,none⟩):=by rw[←m];simp
 simp[results,h,go_sem,n,o,p,q,r,s,t,u]
theorem BT.all{M:List Nat}{r:PS×Oc}{j:Ending}(h:BT q M a [] r j s):∃b ok d out,bC M a b s∧j=.returned (.bool d)∧MZ q s b ok r.1 out∧N6 r=⟨bif ok then out else[],ok,d,r.1.asked,r.1.aU,r.1.work,r.1.reads⟩:=by
 obtain⟨S,o⟩:=r;obtain⟨b,i,h⟩:=h;cases o with
 |yes t=>exact⟨b,true,true,_,i,h.1,h.2,rfl⟩
 |no=>obtain⟨c,g,e⟩:=h;exact⟨b,false,true,_,i,c,e,rfl⟩
 |wait=>obtain⟨c,g,e⟩:=h;exact⟨b,false,false,_,i,c,e,rfl⟩
theorem KZ.aN{ok:Bool}{S:PS}{out:Bs}{av rv c:aaL}(H:KZ q a ok S out av rv c)(d:ak q.mb a s):
 s.ownsRow q.w0.heap.size 23 6 av S.asked.length (nB S.asked)∧s.ownsRow q.w0.heap.size 9 1 rv S.reads.length (cM S.reads)∧s.ownsRow q.w0.heap.size 5 1 c out.length (da out)∧Below q.w0.heap.size q.w0 s:=by
 obtain⟨n1,n2,o,p⟩:=fF.1 H.vW;obtain⟨l,m,n⟩:=n2 q.mb (.inl rfl);have b:∀v:aaL,v.ownBlock≠some q.mb→∀g,v.ownBlock=some g→g<a.heap.size→s.heap[g]? =a.heap[g]? :=fun v k g i j=>d.block g j (by intro e;injection e with e;exact k (e▸i));exact⟨bw H.asked fun g h=>b av l g h (H.asked.lt g h).2,bw H.reads fun g h=>b rv m g h (H.reads.lt g h).2,bw H.lE fun g h=>b c n g h (H.lE.lt g h).2,H.up.t (d.below H.far H.up.size)⟩
abbrev Vy(E:ME)(o:Bs)(ok d:Bool)(S:PS)(av rv a:aaL):List aaL:=[.string ⟨o.toArray⟩,.bool ok,.bool d,av,.int .i64 S.aU,.int .i64 S.work,rv,a,.string ⟨E.h.toArray⟩,.string ⟨E.t.toArray⟩,.slice E.fa E.fn E.fc,.int .i64 E.inc,.int .i64 E.dep,.slice E.ga E.fZ.length E.gc,.map (some E.im)]
theorem K4(P:fx)(d:Nat)(base:U)(h:¬xe b=0):qK P d base b=⟨[],false,true,[],0,0,[]⟩:=by unfold qK;rw[ae h]
theorem N7(P:fx)(d:Nat)(base:U)(h:xe b=0):qK P d base b=N6 (bT P (rl P d) base b false N8 0):=by unfold qK;rw[ah h]
theorem Av(n:Nd)(v:aaL)(base:U)(h t:Bs)(fs:List dQ)(F:Option Addr)(fn G:Nat)(S:Option Addr)(Y:Nat)(fZ:List j5)(c0 c5:Bs)(ca:Option Addr)(cn cc:Nat)(c1 c2 u s:Int)(w:aaK)(HI:WK w h t fs F fn G S fZ)(hb:DO base)(A:Nat→Prop)(a7:fu A w n v)(ce:MH n)(bJ:sy n)(ci:wN n≤20000000):
 Calls Tryz.prog 9 #[v,uV base,.agg #[.string ⟨h.toArray⟩,.string ⟨t.toArray⟩,.slice F fn G],.agg #[.string ⟨c0.toArray⟩,.int .i64 c1,.int .i64 c2,.int .i64 u,.int .i64 s,.string ⟨c5.toArray⟩,.slice ca cn cc],.slice S fZ.length Y] w (qb w (qK ⟨h,t,fs,mO u 64,fZ⟩ (mO s 8) base n)):=by
 obtain⟨aa,ac,ka,kc,rfl,-,-⟩:=a7.shape;obtain⟨R,hR⟩:∃R,qK ⟨h,t,fs,mO u 64,fZ⟩ (mO s 8) base n=R:=⟨_,rfl⟩;rw[hR];have HR:=ad hR.symm;have D:=ad HI;have ck:=ad hb;have bd:=ad a7;have c7:=ad ce;have cK:=ad bJ;have bo:=ad ci;clear hR HI hb a7 ce bJ ci;go_enter Tryz.func9,Tryz.ntmps9;go_upto_region 1 with fail;have B:=ad (N5 w (.cells #[.int .i64 n.kind,.int .i64 n.place,.string ⟨n.text.toArray⟩,.slice aa n.attrs.length ac,.slice ka n.kids.length kc] 37) (.cells #[.string ⟨base.scheme.toArray⟩,.string ⟨base.host.toArray⟩,.int .i64 base.port,.string ⟨base.path.toArray⟩,.string ⟨base.query.toArray⟩,.bool base.hq] 23) (.cells #[.string ⟨h.toArray⟩,.string ⟨t.toArray⟩,.slice F fn G] 47) (.cells #[.string ⟨c0.toArray⟩,.int .i64 c1,.int .i64 c2,.int .i64 u,.int .i64 s,.string ⟨c5.toArray⟩,.slice ca cn cc] 50) (.cells #[.string ⟨#[]⟩,.bool false,.bool false,.slice none 0 0,.int .i64 0,.int .i64 0,.slice none 0 0] 44));generalize(((((w.alloc (.cells #[.int .i64 n.kind,.int .i64 n.place,.string ⟨n.text.toArray⟩,.slice aa n.attrs.length ac,.slice ka n.kids.length kc] 37)).alloc (.cells #[.string ⟨base.scheme.toArray⟩,.string ⟨base.host.toArray⟩,.int .i64 base.port,.string ⟨base.path.toArray⟩,.string ⟨base.query.toArray⟩,.bool base.hq] 23)).alloc (.cells #[.string ⟨h.toArray⟩,.string ⟨t.toArray⟩,.slice F fn G] 47)).alloc (.cells #[.string ⟨c0.toArray⟩,.int .i64 c1,.int .i64 c2,.int .i64 u,.int .i64 s,.string ⟨c5.toArray⟩,.slice ca cn cc] 50)).alloc (.cells #[.string ⟨#[]⟩,.bool false,.bool false,.slice none 0 0,.int .i64 0,.int .i64 0,.slice none 0 0] 44))=W5 at*;have ap:=ad (Gc n c7.o A W5 _ (D.o.gl.gx.aq.next B.o.2.2.2.2.2) (bd.o.next B.o.2.2.2.2.2));have x0:=aj B.o.1;obtain⟨e,he⟩:∃e,xe n=e:=⟨_,rfl⟩;have HE:=ad he;rw[he] at ap;clear he;go_wp2_with fail;refine ap.o.m ?_;rintro en a⟨rfl,T⟩;have ab:=ad (B.o.2.2.2.2.2.t (T.m B.o.2.2.2.2.2.size));have p:=ad (And.intro (bz B.o.1 T) (And.intro (bz B.o.2.1 T) (And.intro (bz B.o.2.2.1 T) (And.intro (bz B.o.2.2.2.1 T) (bz B.o.2.2.2.2.1 T)))));clear T B x0 ap;by_cases h0:e=0
 ·subst h0;have v0:=aj p.o.2.2.1;have k3:=aj p.o.2.2.2.1;have dl:=@run_makeMap Tryz.prog;go_upto_region 4 with fail;have hA8:Below a.heap.size a ((a.alloc (.map #[] 0)).alloc (.cells #[.string ⟨#[]⟩,.bool false,.bool false,.slice none 0 0,.int .i64 0,.int .i64 0,.slice none 0 0,.slice none 0 0,.string ⟨h.toArray⟩,.string ⟨t.toArray⟩,.slice F fn G,.int .i64 (max 0 (min u 64)),.int .i64 (max 0 (min s 8)),.slice S fZ.length Y,.map (some a.heap.size)] 85)):=(az a _).alloc (by rw[aO];omega) _;have a5:=iT a (.map #[] 0) (.cells #[.string ⟨#[]⟩,.bool false,.bool false,.slice none 0 0,.int .i64 0,.int .i64 0,.slice none 0 0,.slice none 0 0,.string ⟨h.toArray⟩,.string ⟨t.toArray⟩,.slice F fn G,.int .i64 (max 0 (min u 64)),.int .i64 (max 0 (min s 8)),.slice S fZ.length Y,.map (some a.heap.size)] 85);have bv:=(Aw a).next (az (a.alloc (.map #[] 0)) (.cells #[.string ⟨#[]⟩,.bool false,.bool false,.slice none 0 0,.int .i64 0,.int .i64 0,.slice none 0 0,.slice none 0 0,.string ⟨h.toArray⟩,.string ⟨t.toArray⟩,.slice F fn G,.int .i64 (max 0 (min u 64)),.int .i64 (max 0 (min s 8)),.slice S fZ.length Y,.map (some a.heap.size)] 85))
  generalize(a.alloc (.map #[] 0)).alloc (.cells #[.string ⟨#[]⟩,.bool false,.bool false,.slice none 0 0,.int .i64 0,.int .i64 0,.slice none 0 0,.slice none 0 0,.string ⟨h.toArray⟩,.string ⟨t.toArray⟩,.slice F fn G,.int .i64 (max 0 (min u 64)),.int .i64 (max 0 (min s 8)),.slice S fZ.length Y,.map (some a.heap.size)] 85)=W8 at*;have Z:=ad (And.intro (bz p.o.1 hA8) (And.intro (bz p.o.2.1 hA8) (bz p.o.2.2.2.2 hA8)));have ao:=ad (ab.o.t (hA8.m ab.o.size));have dp:=(aB.1 p.o.2.2.2.2).1;have a2:=ab.o.size;obtain⟨E,M⟩:∃E:ME,E=⟨w,a.heap.size+1,a.heap.size,h,t,fs,F,fn,G,mO u 64,mO s 8,S,Y,fZ⟩:=⟨_,rfl⟩;have ay:=ad (show QQ E by rw[M];exact⟨D.o.gl,D.o.Vr,D.o.Vs,D.o.t1,D.o.h1,Jz _ _,Jz _ _,D.o.Vc,D.o.Vx,D.o.Vd⟩);have e1:max 0 (min u 64)=((mO u 64:Nat):Int):=by unfold mO;omega
  have e2:max 0 (min s 8)=((mO s 8:Nat):Int):=by unfold mO;omega
  rw[e1,e2] at a5;clear e1 e2;have bx:MX E W8 [a.heap.size+1,a.heap.size] N8 []:=by rw[M];exact⟨.slice none 0 0,.slice none 0 0,.slice none 0 0,⟨ao.o,a5,jO _ _ _ _,jO _ _ _ _,jO _ _ _ _,⟨[],bv,fun k=>rfl⟩,fF.2 ⟨by show a.heap.size+1≠a.heap.size;omega,fun g _=>⟨by simp[Value.ownBlock],by simp[Value.ownBlock],by simp[Value.ownBlock]⟩,fun g h=>by simp[Value.ownBlock] at h,fun g h=>by simp[Value.ownBlock] at h⟩,⟨by show w.heap.size≤a.heap.size+1;omega,a2⟩⟩,rfl⟩
  have cs:=ad bx;have cl:=ad M;have cx:=ad (show w.heap.size+1+1+1+1∉[a.heap.size+1,a.heap.size] from fun H=>by
   rcases bL.1 H with e|H
   ·omega
   ·have e:=fj.1 H;omega)
  clear bx hA8 a5 bv v0 k3 dl;have a6:E.mb=a.heap.size+1:=by rw[M]
  have ch:E.w0=w:=by rw[M]
  have br:E.env=⟨h,t,fs,mO u 64,fZ⟩:=by rw[M];rfl
  have bp:0+mO s 8=E.dep:=by rw[M];exact dH _
  have c4:=ad (show bq E.inc N8 (wN n) from⟨by have:=ay.o.i1;have:=bo.o;show 0+wN n+(E.inc-0)*ie≤_;unfold ie;omega,by have:=ay.o.i1;have:=bo.o;show 0+wN n+(E.inc-0)*ie≤_;unfold ie;omega,fun x hx=>by(cases hx),ag _,aH _⟩);have bs:∀b∈[a.heap.size+1,a.heap.size],a.heap.size≤b:=fun b H=>by
   rcases bL.1 H with e|H
   ·omega
   ·have e:=fj.1 H;omega
  have ct:=ad (eD (A':=fun b=>b∉[a.heap.size+1,a.heap.size]) ao.o.size (fun b h1 h2=>⟨fun H=>by have:=bs b H;have:=a2;omega,ao.o.block b h2⟩) n _ bd.o);have a8:=Ui cs.o (N3 ay.o (mO s 8) 0 bp base ck.o n cK.o) ct.o c4.o (aH _);rw[a6,br] at a8;have bk:=ad a8;have bf:=ad (HR.o.t (N7 _ _ _ HE.o));obtain⟨q,hq⟩:∃q,bT ⟨h,t,fs,mO u 64,fZ⟩ (rl ⟨h,t,fs,mO u 64,fZ⟩ (mO s 8)) base n false N8 0=q:=⟨_,rfl⟩;have bl:Hid (Calls Tryz.prog 24 #[.pointer (some ⟨a.heap.size+1,0,none⟩),.func (.func 25) #[.pointer (some ⟨a.heap.size+1,0,none⟩)] #[],wZ n.kind n.place n.text (.slice aa n.attrs.length ac) (.slice ka n.kids.length kc),uV base] W8 (BT E [a.heap.size+1,a.heap.size] W8 [] q)):=ad (by rw[←hq];exact bk.o);rw[hq] at bf;obtain⟨c,oc⟩:=q;have al:=ad a6;have bn:=ad ch;have co:=ad (show w.heap.size+1+1+1+1<W8.heap.size from(aB.1 Z.o.2.2).1);have bg:=ad (show w.heap.size≤w.heap.size+1+1+1+1 by omega);have x0:=aj Z.o.1;have u0:=aj Z.o.2.1;clear M a6 ch br bp bs a8 hq bk cl a2 dp;generalize a.heap.size+1=C at*;generalize w.heap.size+1+1+1+1=l at*;go_wp2_with fail;refine bl.o.m ?_;intro en w9 cb;obtain⟨M9,ok,d,o1,cd,rfl,⟨av,rv,ov,af,a3⟩,b9⟩:=cb.all;obtain⟨I,J,rfl⟩:=aX af.asked;obtain⟨K,L,rfl⟩:=aX af.reads;have bi:=ad (bf.o.t b9);have an:=cd.cO l co.o cx.o;have a0:=ad (show w9.heap[l]? =some (.cells #[.string ⟨#[]⟩,.bool false,.bool false,.slice none 0 0,.int .i64 0,.int .i64 0,.slice none 0 0] 44) from an.2.t Z.o.2.2);have am:=ad (show∀g,((Value.slice I c.asked.length J).ownBlock=some g∨(Value.slice K c.reads.length L).ownBlock=some g)→l≠g from fun g y e=>an.1 (by rw[a3,e];exact bY _ (bY _ (vP.2 (y.elim .inl fun h=>.inr (.inl h))))));have be:=ad (show l≠C from fun e=>an.1 (by rw[a3,e,←al.o];exact eF));have bb:=ad af;have a4:=af.box;rw[al.o] at a4;have ai:=ad a4;clear x0 u0 cd af a3 b9 an cb a4 bl Z;have b2:=aj ai.o 2;have Q:w9.frozen? ⟨C,2,none⟩=false:=aA ai.o;go_upto_region 5 with fail;clear b2 Q;have X:Hid ((w9.setCell ⟨C,2,none⟩ (.bool d)).heap[C]? =some (.cells (Vy E [] ok d c (.slice I c.asked.length J) (.slice K c.reads.length L) ov).toArray 85)):=ad (aw (j:=2) ai.o);have a1:=ad ((ak.refl C w9).set (j:=2) (v:=.bool d));generalize w9.setCell ⟨C,2,none⟩ (.bool d)=z at*;have i:=ad (show z.heap[l]? =_ from(a1.o.block l (aB.1 a0.o).1 (by intro e;injection e with e;exact be.o e)).t a0.o);have V:=bb.o.aN (by rw[al.o];exact a1.o);rw[bn.o] at V;have r:=ad V;have b1:=aj X.o 1;clear V ai a0;cases ok
  ·clear b1;have b0:=aj X.o;have r0:=aj i.o;have O:∀j,z.frozen? ⟨l,j,none⟩=false:=fun _=>aA i.o;go_wp2_with fail;clear b0 r0 O;have a9:=kS (.string ⟨List.toArray []⟩) (.bool false) (.bool d) (.slice I c.asked.length J) (.int .i64 c.aU) (.int .i64 c.work) (.slice K c.reads.length L) i.o;have W:=jy z l (.string ⟨List.toArray []⟩) (.bool false) (.bool d) (.slice I c.asked.length J) (.int .i64 c.aU) (.int .i64 c.work) (.slice K c.reads.length L);refine aD (ja rfl rfl a9) rfl ?_;rw[bi.o];exact⟨_,rfl,⟨(.slice I c.asked.length J),(.slice K c.reads.length L),rfl,bw r.o.1 fun g y=>W.block g (r.o.1.lt g y).2 (by intro e;injection e with e;exact(am.o g (.inl y)) e.symm),bw r.o.2.1 fun g y=>W.block g (r.o.2.1.lt g y).2 (by intro e;injection e with e;exact(am.o g (.inr y)) e.symm)⟩,r.o.2.2.2.t (W.below bg.o r.o.2.2.2.size)⟩
  ·have c9:=MP r.o.2.2.1;have b7:=aj X.o;have O:z.frozen? ⟨C,0,none⟩=false:=aA X.o;go_upto_region 7 with fail;have c3:Hid ((z.setCell ⟨C,0,none⟩ (.string ⟨o1.toArray⟩)).heap[C]? =some (.cells (Vy E o1 true d c (.slice I c.asked.length J) (.slice K c.reads.length L) ov).toArray 85)):=ad (aw (j:=0) X.o);have bm:=ad ((ak.refl C z).set (j:=0) (v:=.string ⟨o1.toArray⟩));clear b7 O b1 c9 X;generalize z.setCell ⟨C,0,none⟩ (.string ⟨o1.toArray⟩)=N at*;have b8:=(bm.o.block l (aB.1 i.o).1 (by intro e;injection e with e;exact be.o e)).t i.o;clear i;have i:=ad b8;have V:=bb.o.aN (by rw[al.o];exact a1.o.t bm.o);rw[bn.o] at V;clear r b8;have r:=ad V;clear V;have b0:=aj c3.o;have r0:=aj i.o;have O:∀j,N.frozen? ⟨l,j,none⟩=false:=fun _=>aA i.o;go_wp2_with fail;clear b0 r0 O;have a9:=kS (.string ⟨List.toArray o1⟩) (.bool true) (.bool d) (.slice I c.asked.length J) (.int .i64 c.aU) (.int .i64 c.work) (.slice K c.reads.length L) i.o;have W:=jy N l (.string ⟨List.toArray o1⟩) (.bool true) (.bool d) (.slice I c.asked.length J) (.int .i64 c.aU) (.int .i64 c.work) (.slice K c.reads.length L);refine aD (ja rfl rfl a9) rfl ?_;rw[bi.o];exact⟨_,rfl,⟨(.slice I c.asked.length J),(.slice K c.reads.length L),rfl,bw r.o.1 fun g y=>W.block g (r.o.1.lt g y).2 (by intro e;injection e with e;exact(am.o g (.inl y)) e.symm),bw r.o.2.1 fun g y=>W.block g (r.o.2.1.lt g y).2 (by intro e;injection e with e;exact(am.o g (.inr y)) e.symm)⟩,r.o.2.2.2.t (W.below bg.o r.o.2.2.2.size)⟩
 ·have q0:=eS h0;have i:=ad (HR.o.t (K4 _ _ _ (fun h=>h0 (HE.o.symm.t h))));have r0:=aj p.o.2.2.2.2;have O:∀j,a.frozen? ⟨w.heap.size+1+1+1+1,j,none⟩=false:=fun _=>aA p.o.2.2.2.2;clear h0;go_wp2_with fail;clear r0 O;have c6:=ad (kS (.string ⟨#[]⟩) (.bool false) (.bool true) (.slice none 0 0) (.int .i64 0) (.int .i64 0) (.slice none 0 0) p.o.2.2.2.2);have c8:=ad (jy a (w.heap.size+1+1+1+1) (.string ⟨#[]⟩) (.bool false) (.bool true) (.slice none 0 0) (.int .i64 0) (.int .i64 0) (.slice none 0 0));refine aD (ja rfl rfl c6.o) rfl ?_;rw[i.o];exact⟨_,rfl,⟨_,_,rfl,jO _ _ _ _,jO _ _ _ _⟩,ab.o.t (c8.o.below (by omega) ab.o.size)⟩
variable{a:List dQ}{b:Nat}{i:World}
def BX(w:World)(h t:ByteArray)(fs:List dQ)(e:Ending)(w':World):Prop:=
 ∃a b,e=.returned (.agg #[.string h,.string t,.slice a fs.length b])∧qV w' w.heap.size (.slice a fs.length b) fs∧Below w.heap.size w w'
theorem mP{base b j:Nat}{v x:Value}(h:qV i base v a)(l:b<base):qV (i.setCell ⟨b,j,none⟩ x) base v a:=by have c:i.grownBy (i.setCell ⟨b,j,none⟩ x) (some b):=⟨rfl,rfl,rfl,by rw[show(i.setCell ⟨b,j,none⟩ x).heap.size=i.heap.size by simp[World.setCell]];exact ag _,fun k _ d=>Below.heap_setCell i ⟨b,j,none⟩ x k (fun e=>d (by rw[e]))⟩;refine h.kept c (.inr fun e=> ?_);have:=(h.lt b e).1;omega
theorem Ax{b2:Nat}{v:Value}(h:qV i b v a)(d:b2≤b):qV i b2 v a:=by
 refine⟨h.1, ?_⟩;rcases h.2 with h|⟨g,cap,c,k,e,j⟩
 ·exact .inl h
 ·exact .inr ⟨g,cap,c,k,bP d e,j⟩
theorem Ur{W0 d:World}{c:Option Addr}{h t:ByteArray}{o q s:Value}(k:qV d W0.drew.heap.size (.slice c (([]:List dQ).length+a.length) b) ([]++a))(n:Below W0.heap.size W0 d)(u:W0.heap.size=i.heap.size+1+1)(e:Below i.heap.size i W0)
 (n2:d.heap[i.heap.size+1]? =some (.cells #[o,q,s] 47)):
 ((((d.setCell ⟨i.heap.size+1,0,none⟩ (.string h)).setCell ⟨i.heap.size+1,1,none⟩ (.string t)).setCell ⟨i.heap.size+1,2,none⟩ (.slice c a.length b)).cell? ⟨i.heap.size+1,0,none⟩=some (.string h)∧
 (((d.setCell ⟨i.heap.size+1,0,none⟩ (.string h)).setCell ⟨i.heap.size+1,1,none⟩ (.string t)).setCell ⟨i.heap.size+1,2,none⟩ (.slice c a.length b)).cell? ⟨i.heap.size+1,1,none⟩=some (.string t)∧
 (((d.setCell ⟨i.heap.size+1,0,none⟩ (.string h)).setCell ⟨i.heap.size+1,1,none⟩ (.string t)).setCell ⟨i.heap.size+1,2,none⟩ (.slice c a.length b)).cell? ⟨i.heap.size+1,2,none⟩=some (.slice c a.length b))∧
 BX i h t a (.returned (.agg #[.string h,.string t,.slice c a.length b])) (((d.setCell ⟨i.heap.size+1,0,none⟩ (.string h)).setCell ⟨i.heap.size+1,1,none⟩ (.string t)).setCell ⟨i.heap.size+1,2,none⟩ (.slice c a.length b)):=by
 rw[kK,show([]:List dQ).length+a.length=a.length by simp] at k;have r:=aw (j:=2) (v:=.slice c a.length b) (aw (j:=1) (v:=.string t) (aw (j:=0) (v:=.string h) n2));refine⟨⟨cell_of_row _ _ 0 _ _ _ r,cell_of_row _ _ 1 _ _ _ r,cell_of_row _ _ 2 _ _ _ r⟩,c,b,rfl,Ax (mP (mP (mP k ?_) ?_) ?_) ?_, ?_⟩
 ·show _<W0.heap.size;omega
 ·show _<W0.heap.size;omega
 ·show _<W0.heap.size;omega
 ·show _≤W0.heap.size;omega
 ·have l:=e.t (n.m e.size);exact((l.setCell (p:=⟨i.heap.size+1,0,none⟩) (by show i.heap.size≤i.heap.size+1;omega) _).setCell (p:=⟨i.heap.size+1,1,none⟩) (by show i.heap.size≤i.heap.size+1;omega) _).setCell (p:=⟨i.heap.size+1,2,none⟩) (by show i.heap.size≤i.heap.size+1;omega) _
theorem Ry(m t l h:ByteArray)(o:Int)(a:Option Addr)(n c:Nat)(fs:List dQ)(w:World)(hF:aZ w (.slice a n c) fs)(V:fs.length≤1000):
 Calls Tryz.prog 16 #[.agg #[.string m,.string t,.int .i64 o,.slice a n c,.string l],.string h] w (BX w h t fs):=by
 have I:([]:List dQ).length+fs.length≤100000:=by simp;omega
 have r:=Lib.hid (jG w (.cells #[.string m,.string t,.int .i64 o,.slice a n c,.string l] 26) (.cells #[.string ⟨#[]⟩,.string ⟨#[]⟩,.slice none 0 0] 47));have q:=Lib.hid hF;clear hF;go_enter Tryz.func16,Tryz.ntmps16;go_wp2_with fail;generalize(w.alloc (.cells #[.string m,.string t,.int .i64 o,.slice a n c,.string l] 26)).alloc (.cells #[.string ⟨#[]⟩,.string ⟨#[]⟩,.slice none 0 0] 47)=W0 at*;obtain⟨n1,n2,J,i⟩:=r.out;have x:aZ W0.drew (.slice a n c) fs:=(q.out.below i).below (Below.refl _ _).drew;have T:w.heap.size≤W0.drew.heap.size:=i.size;have B:=Lib.hid x;clear q r x;have s:=cell_of_row W0 _ 1 _ _ _ n1;have u:=cell_of_row W0 _ 3 _ _ _ n1;have R:=Lib.hid n1;have C:=Lib.hid n2;have A:=Lib.hid i;clear n1 n2 i;go_region_law (
  (refine Kn (by rfl) _ _ (by rfl) _ _ fs [] W0.drew.heap.size (by rfl) (by rfl) B.out (MS _ _) I (ag _) ?_;intro D E d z y;have j:Below W0.heap.size W0 d:=(Below.refl W0.heap.size W0).drew.t (C0 y (fun k e=>by cases e) (ag _));have d1:=((eR j).1 _ 1 (aV s)).t s;have S:=((eR j).1 _ 3 (aV u)).t u;have b:=(j.block (w.heap.size+1) (by omega)).t C.out;have F:=cell_of_row d _ 0 _ _ _ b;have G:=cell_of_row d _ 1 _ _ _ b;have H:=cell_of_row d _ 2 _ _ _ b;have K:=frozen_of_row d _ 0 _ _ b;have L:=frozen_of_row d _ 1 _ _ b;have M:=frozen_of_row d _ 2 _ _ b))
 all_goals
  have p:=Lib.hid (Ur (h:=h) (t:=t) z j J A.out b);clear b F G H K L M z y;obtain⟨N,O,Q⟩:=p.out.1;go_wp2;refine bodyPost_ret (v:=.agg #[.string h,.string t,.slice D fs.length E]) ?_ rfl p.out.2;simp[results,Tryz.f16,go_sem,N,O,Q]
abbrev km(u:U)(m t:ByteArray)(h:Int)(a:Option Addr)(n c:Nat)(b host:ByteArray)(e d:Int):List Value:=[.string ⟨u.scheme.toArray⟩,.string ⟨u.host.toArray⟩,.int .i64 u.port,.string ⟨u.path.toArray⟩,.string ⟨u.query.toArray⟩,.bool u.hq,.string m,.string t,.int .i64 h,.slice a n c,.string b,.string host,.int .i64 e,.int .i64 d]
def Xz(w:World)(a:Option Addr)(fZ:List j5):Prop:=∀(i:Nat) (g:j5),fZ[i]? =some g→∃b o,a=some ⟨b,o,none⟩∧b<w.heap.size∧w.cell? ⟨b,o+i*3,none⟩=some (.string ⟨g.body.toArray⟩)∧w.cell? ⟨b,o+i*3+1,none⟩=some (.bool g.F3)∧w.cell? ⟨b,o+i*3+2,none⟩=some (.bool g.ok)
def ZQ(fZ:List j5):Prop:=fZ.length≤140737488351232∧∀g∈fZ,g.body.length≤140737488351232
theorem Xz.below{w w':World}{c:Option Addr}{fZ:List j5}(h:Xz w c fZ)(e:Below w.heap.size w w'):Xz w' c fZ:=fun i g q=>by obtain⟨b,o,l,d,m,n,p⟩:=h i g q;have k:∀j,w'.cell? ⟨b,j,none⟩=w.cell? ⟨b,j,none⟩:=fun j=>World.cell?_of_block (a:=⟨b,j,none⟩) (e.block b d);exact⟨b,o,l,ej d e.size,(k _).t m,(k _).t n,(k _).t p⟩
theorem Xz.take{w:World}{b:Option Addr}{fZ:List j5}(h:Xz w b fZ)(k:Nat):Xz w b (fZ.take k):=fun i g a=>h i g (by rw[List.getElem?_take] at a;split at a;exact a;cases a)
variable{l:Array aaL}{e:Func}{d j:Nat}{a:aaK}{q R i:aaL}
theorem Oa{T:TypeId}(u0 u1 u2:aaL)(h:a.heap[d]? =some (.cells #[q,R,i] T)):
 (((a.setCell ⟨d,0,none⟩ u0).setCell ⟨d,1,none⟩ u1).setCell ⟨d,2,none⟩ u2).heap[d]? =some (.cells #[u0,u1,u2] T):=by
 have e:(a.setCell ⟨d,0,none⟩ u0).heap[d]? =some (.cells #[u0,R,i] T):=aw (j:=0) h;generalize a.setCell ⟨d,0,none⟩ u0=c at*;have k:(c.setCell ⟨d,1,none⟩ u1).heap[d]? =some (.cells #[u0,u1,i] T):=aw (j:=1) e;generalize c.setCell ⟨d,1,none⟩ u1=l at*;exact aw (j:=2) k
theorem BU(h:e.results=#[.cell j 47])(k:l.getD j undef=.pointer (some ⟨d,0,none⟩))(c:a.heap[d]? =some (.cells #[q,R,i] 47)):
 (results e l).run Tryz.prog a=.ok (.agg #[q,R,i]) a:=by
 obtain⟨n,o,p⟩:=qX3 (aj c) 0 1 2;have m:l[j]?.getD undef=.pointer (some ⟨d,0,none⟩):=by rw[←k];simp
 simp[results,h,go_sem,m,n,o,p]
theorem BV{c k m n:aaL}(h:e.results=#[.cell j 50])(p:l.getD j undef=.pointer (some ⟨d,0,none⟩))(o:a.heap[d]? =some (.cells #[q,R,i,c,k,m,n] 50)):
 (results e l).run Tryz.prog a=.ok (.agg #[q,R,i,c,k,m,n]) a:=by
 obtain⟨s,t,u,w,x,y,z⟩:=qX7 (aj o) 0 1 2 3 4 5 6;have r:l[j]?.getD undef=.pointer (some ⟨d,0,none⟩):=by rw[←p];simp
 simp[results,h,go_sem,r,s,t,u,w,x,y,z]
theorem xA(u:U)(d t:aaM)(h:Int)(a:Option Addr)(n c:Nat)(b host:aaM)(j i:Int)(fs:List dQ)(w:aaK)(hF:aZ w (.slice a n c) fs)(C:fs.length≤1000):
 Calls Tryz.prog 10 #[.agg (km u d t h a n c b host j i).toArray] w (BX w host t fs):=by
 have A:=jX w (.cells (km u d t h a n c b host j i).toArray 28) (.cells #[.string ⟨#[]⟩,.string ⟨#[]⟩,.slice none 0 0] 47);have B:=iT w (.cells (km u d t h a n c b host j i).toArray 28) (.cells #[.string ⟨#[]⟩,.string ⟨#[]⟩,.slice none 0 0] 47);have p:Below w.heap.size w ((w.alloc (.cells (km u d t h a n c b host j i).toArray 28)).alloc (.cells #[.string ⟨#[]⟩,.string ⟨#[]⟩,.slice none 0 0] 47)):=(az w _).alloc (by rw[aO];omega) _;have E:((w.alloc (.cells (km u d t h a n c b host j i).toArray 28)).alloc (.cells #[.string ⟨#[]⟩,.string ⟨#[]⟩,.slice none 0 0] 47)).heap.size=w.heap.size+1+1:=by rw[aO,aO]
 have F:=ad A;have G:=ad B;have s:=ad p;have I:=ad E;have J:=ad (Ry d t b host h a n c fs _ (hF.below p) C);clear A B p E hF C;go_enter Tryz.func10,Tryz.ntmps10;go_upto_region 1 with fail;generalize(w.alloc (.cells (km u d t h a n c b host j i).toArray 28)).alloc (.cells #[.string ⟨#[]⟩,.string ⟨#[]⟩,.slice none 0 0] 47)=W at*;have M:=aj F.o;go_wp2_with fail;refine J.o.m ?_;rintro e l⟨y,z,rfl,D,q⟩;have k:=ad (bz G.o q);have H:=ad D;have x:=ad (s.o.t (q.m s.o.size));clear M D q;have X:=aj k.o;have R:∀j,l.frozen? ⟨w.heap.size+1,j,none⟩=false:=fun _=>aA k.o;go_wp2_with fail;clear X R;have V:=Oa (.string host) (.string t) (.slice y fs.length z) k.o;have r:w.heap.size+1<W.heap.size:=by have:=I.o;omega
 refine aD (BU rfl rfl V) rfl ⟨y,z,rfl,Ax (mP (mP (mP H.o r) r) r) (by omega),x.o.t (((((ak.refl (w.heap.size+1) l).set).set).set).below (by omega) x.o.size)⟩
theorem sB(u:U)(m t:aaM)(j:Int)(a:Option Addr)(n c:Nat)(i host:aaM)(e d:Int)(w:aaK):
 Calls Tryz.prog 11 #[.agg (km u m t j a n c i host e d).toArray] w (cN w (.agg #[.string ⟨#[]⟩,.int .i64 0,.int .i64 0,.int .i64 e,.int .i64 d,.string ⟨#[]⟩,.slice none 0 0])):=by
 have l:=jX w (.cells (km u m t j a n c i host e d).toArray 28) (.cells #[.string ⟨#[]⟩,.int .i64 0,.int .i64 0,.int .i64 0,.int .i64 0,.string ⟨#[]⟩,.slice none 0 0] 50);have p:=iT w (.cells (km u m t j a n c i host e d).toArray 28) (.cells #[.string ⟨#[]⟩,.int .i64 0,.int .i64 0,.int .i64 0,.int .i64 0,.string ⟨#[]⟩,.slice none 0 0] 50);have q:Below w.heap.size w ((w.alloc (.cells (km u m t j a n c i host e d).toArray 28)).alloc (.cells #[.string ⟨#[]⟩,.int .i64 0,.int .i64 0,.int .i64 0,.int .i64 0,.string ⟨#[]⟩,.slice none 0 0] 50)):=(az w _).alloc (by rw[aO];omega) _;have r:=ad l;have b:=ad p;have k:=ad q;clear l p q;go_enter Tryz.func11,Tryz.ntmps11;go_upto_region 1 with fail;generalize(w.alloc (.cells (km u m t j a n c i host e d).toArray 28)).alloc (.cells #[.string ⟨#[]⟩,.int .i64 0,.int .i64 0,.int .i64 0,.int .i64 0,.string ⟨#[]⟩,.slice none 0 0] 50)=h at*;have s:=aj r.o;have H:=aj b.o;have y:∀j,h.frozen? ⟨w.heap.size+1,j,none⟩=false:=fun _=>aA b.o;go_wp2_with fail;clear s H y;have F:=kS (.string ⟨#[]⟩) (.int .i64 0) (.int .i64 0) (.int .i64 e) (.int .i64 d) (.string ⟨#[]⟩) (.slice none 0 0) b.o;have G:=jy h (w.heap.size+1) (.string ⟨#[]⟩) (.int .i64 0) (.int .i64 0) (.int .i64 e) (.int .i64 d) (.string ⟨#[]⟩) (.slice none 0 0);exact aD (BV rfl rfl F) rfl ⟨rfl,k.o.t (G.below (by omega) k.o.size)⟩
theorem GN{W:aaK}{b:Nat}{a:Array aaL}{t:TypeId}(fs:List dQ)(h:W.heap[b]? =some (.cells a t))(e:a=(eX fs).toArray):aZ W (.slice (some ⟨b,0,none⟩) fs.length fs.length) fs:=by subst e;refine .inr ⟨b,0,fs.length,rfl,ag _,(aB.1 h).1,fun j f i=> ?_⟩;obtain⟨c,d⟩:=tJ fs j f i;rw[dH];exact⟨(tH _ _ _ _ _ _ h).t (by simpa using c),(tH _ _ _ _ _ _ h).t (by simpa using d)⟩
end Go.Proofs.YtlemddnecmmfgaaGreatDoor
namespace Go.Proofs.YtlemddnecmmfgaaGreatDoor
open Go.RowKit
variable{D:Act}{b:Nat}{d:aaK}
structure oB where
 p:aaL→aaK→Prop
 up:∀v w w',Below w.heap.size w w'→p v w→p v w'
def oB.is(v0:aaL):oB:=⟨fun v _=>v=v0,fun _ _ _ _ h=>h⟩
def xU(o:Oper)(a:Act)(v:aaL):Prop:=match o.dst with|some d=>a.tmps[d]? =some v|none=>True
def vS(L:List Oper)(Φ:List oB)(a:Act)(w:aaK)(i:Nat):Prop:=
 match L[i]?,Φ[i]? with
 |some o,some p=>∃v,xU o a v∧p.p v w
 |_,_=>True
structure pg (L:List Oper) (a0 a:Act):Prop where
 size:a.tmps.size=a0.tmps.size
 defers:a.defers=a0.defers
 other:∀d,(∀o∈L,o.dst≠some d)→a.tmps[d]? =a0.tmps[d]?
def VG(P:Program)(L:List Oper)(Φ:List oB)(a0:Act)(W:aaK)(Q:Exit→Act→aaK→Prop)(o:Oper)(p:oB):Prop:=
 ∀a w,Below W.heap.size W w→pg L a0 a→(∀e∈o.after.toList,Region.binds .any e=true→vS L Φ a w e.on)→
  if Region.wanted o (yielded L.toArray a.tmps)=true then Oper.wp P o a w (fun b w'=>∃v,b=a.put o.dst v∧Below w.heap.size w w'∧p.p v w') Q else p.p undef w
def Ep(P:Program)(L:List Oper)(Φ:List oB)(a0:Act)(W:aaK)(Q:Exit→Act→aaK→Prop):List Oper→List oB→Prop
 |[],[]=>True
 |o::l,p::a=>VG P L Φ a0 W Q o p∧Ep P L Φ a0 W Q l a
 |_,_=>False
def sN(n:Nat):List Oper→Bool
 |[]=>true
 |o::l=>(match o.dst with|none=>true|some d=>decide (d<n)&&l.all fun a=>a.dst !=some d)&&sN n l
def vo:Nat→List Oper→Bool
 |_,[]=>true
 |k,o::l=>(o.after.toList.all fun e=> !Region.binds .any e||decide (e.on<k))&&vo (k+1) l
def eB:List Oper→List aaL→Act→Act
 |o::l,v::vs,a=>eB l vs (a.put o.dst v)
 |_,_,a=>a
def Et:List oB→List aaL→aaK→Prop
 |[],[],_=>True
 |p::a,v::vs,w=>p.p v w∧Et a vs w
 |_,_,_=>False
def jB:List Bool→Nat
 |[]=>0
 |b::r=>(bif b then 0 else 1)+jB r
section
variable{P:Program}{L:List Oper}{Φ:List oB}{a0:Act}{W:aaK}{Q:Exit→Act→aaK→Prop}
theorem xT:∀(l:List Bool) (i:Nat),l[i]? =some false→jB (l.set i true)+1=jB l
 |[],_,h=>by simp at h
 |b::r,0,h=>by simp at h;subst h;simp[jB];omega
 |b::r,i+1,h=>by have:=xT r i (by simpa using h);simp only[kh,jB];omega
theorem vp:∀{l:List Bool},jB l=0→∀i,i<l.length→l[i]? =some true
 |[],_,i,h=>by simp at h
 |b::r,h,i,a=>by
  simp only[jB] at h;cases b
  ·simp at h
  ·cases i with
   |zero=>rfl
   |succ i=>simpa using vp (l:=r) (by simp at h;exact h) i (by simpa using a)
theorem xW:∀n,jB (List.replicate n false)=n
 |0=>rfl
 |n+1=>by rw[List.replicate_succ,jB,xW n];simp;omega
theorem AX:∀{l:List Oper} {b:List oB} {i:Nat} {o:Oper},Ep P L Φ a0 W Q l b→l[i]? =some o→∃p,b[i]? =some p∧VG P L Φ a0 W Q o p
 |[],_,_,_,_,h=>by simp at h
 |o::l,[],_,_,h,_=>by cases h
 |o::l,p::b,0,c,h,a=>by simp at a;subst a;exact⟨p,rfl,h.1⟩
 |o::l,p::b,i+1,c,h,a=>by obtain⟨q,d,e⟩:=AX h.2 (show l[i]? =some c by simpa using a);exact⟨q,by simpa using d,e⟩
theorem uo:∀{l:List Oper} {a:List oB},Ep P L Φ a0 W Q l a→a.length=l.length
 |[],[],_=>rfl
 |[],_::_,h=>by cases h
 |_::_,[],h=>by cases h
 |o::l,p::a,h=>by rw[bF,bF,uo h.2]
theorem AY{n:Nat}:∀{l:List Oper},sN n l=true→∀{i j:Nat} {o q:Oper} {d:Nat},l[i]? =some o→l[j]? =some q→o.dst=some d→q.dst=some d→i=j
 |[],_,_,_,_,_,_,h,_,_,_=>by simp at h
 |o0::l,c,i,j,o,q,d,a,b,e,m=>by
  unfold sN at c;rw[cW] at c;have key:∀{o1:Oper} {k:Nat},o0.dst=some d→l[k]? =some o1→o1.dst=some d→False:=fun{o1 k} r s t=>by have p:=c.1;rw[r] at p;simp only[cW,eV] at p;have:=p.2 o1 (eQ s);rw[t] at this;simp at this
  cases i with
  |zero=>
   simp at a;subst a;cases j with
   |zero=>rfl
   |succ j=>exact(key e (by simpa using b) m).elim
  |succ i=>
   cases j with
   |zero=>simp at b;subst b;exact(key m (by simpa using a) e).elim
   |succ j=>exact congrArg (·+1) (AY c.2 (by simpa using a) (by simpa using b) e m)
theorem G9{n:Nat}:∀{l:List Oper},sN n l=true→∀{i:Nat} {o:Oper} {d:Nat},l[i]? =some o→o.dst=some d→d<n
 |[],_,_,_,_,h,_=>by simp at h
 |o0::l,a,i,o,d,b,e=>by
  unfold sN at a;rw[cW] at a;cases i with
  |zero=>simp at b;subst b;have c:=a.1;rw[e] at c;simp only[cW,eM] at c;exact c.1
  |succ i=>exact G9 a.2 (by simpa using b) e
theorem um:∀{l:List Oper} {k:Nat},vo k l=true→∀{i:Nat} {o:Oper},l[i]? =some o→∀e∈o.after.toList,Region.binds .any e=true→e.on<k+i
 |[],_,_,_,_,h,_,_,_=>by simp at h
 |o0::l,k,a,i,o,h,e,c,b=>by
  unfold vo at a;rw[cW,eV] at a;cases i with
  |zero=>simp at h;subst h;have:=a.1 e c;rw[b] at this;simpa using this
  |succ i=>have:=um a.2 (show l[i]? =some o by simpa using h) e c b;omega
theorem xV{dst:Option Tmp}{v:aaL}(h:dst≠some b):(D.put dst v).tmps[b]? =D.tmps[b]? :=by
 cases dst with
 |none=>rfl
 |some d2=>show(D.tmps.setIfInBounds d2 v)[b]? =_;rw[Km (by intro e;exact h (by rw[e]))]
theorem Er{v:aaL}(h:b<D.tmps.size):(D.put (some b) v).tmps[b]? =some v:=by show(D.tmps.setIfInBounds b v)[b]? =_;rw[Array.getElem?_setIfInBounds_self_of_lt h]
theorem xX(a:Act)(dst:Option Tmp)(v:aaL):(a.put dst v).tmps.size=a.tmps.size:=by
 cases dst with
 |none=>rfl
 |some d=>show(a.tmps.setIfInBounds d v).size=_;simp
theorem put_defers(a:Act)(dst:Option Tmp)(v:aaL):(a.put dst v).defers=a.defers:=by cases dst<;>rfl
theorem pg.put{a:Act}(h:pg L a0 a){o:Oper}(c:o∈L)(v:aaL):pg L a0 (a.put o.dst v):=
 ⟨(xX _ _ _).t h.size,(put_defers _ _ _).t h.defers,fun d b=>(xV (b o c)).t (h.other d b)⟩
theorem rF{d:Nat}:∀{l:List Oper} {vs:List aaL} {a:Act},(∀o∈l,o.dst≠some d)→(eB l vs a).tmps[d]? =a.tmps[d]?
 |[],_,_,_=>by unfold eB;rfl
 |o::l,[],_,_=>by unfold eB;rfl
 |o::l,v::vs,a,h=>by unfold eB;rw[rF (fun c b=>h c (by simp[b])),xV (h o (by simp))]
theorem qO:∀(l:List Oper) (vs:List aaL) (a:Act),(eB l vs a).defers=a.defers
 |[],_,_=>by unfold eB;rfl
 |o::l,[],_=>by unfold eB;rfl
 |o::l,v::vs,a=>by unfold eB;rw[qO,put_defers]
theorem AZ{n d:Nat}:∀{l:List Oper} {vs:List aaL} {a:Act} {i:Nat} {o:Oper} {v:aaL},sN n l=true→n≤a.tmps.size→l[i]? =some o→o.dst=some d→vs[i]? =some v→(eB l vs a).tmps[d]? =some v
 |[],_,_,_,_,_,_,_,h,_,_=>by simp at h
 |o0::l,[],_,_,_,_,_,_,_,_,h=>by simp at h
 |o0::l,v0::vs,a,0,o,v,b,p,j,c,k=>by simp at j k;subst j;subst k;unfold eB;have m:=b;unfold sN at m;rw[cW,c] at m;simp only[cW,eV,eM] at m;rw[rF (fun r q e=>by have:=m.1.2 r q;rw[e] at this;simp at this),c,Er (by have:=G9 b (show(o0::l)[0]? =some o0 from rfl) c;omega)]
 |o0::l,v0::vs,a,i+1,o,v,b,p,j,c,k=>by unfold eB;unfold sN at b;rw[cW] at b;exact AZ b.2 (by rw[xX];exact p) (by simpa using j) c (by simpa using k)
theorem JR{p:Nat→aaL→Prop}:∀n:Nat,(∀i,i<n→∃x,p i x)→∃l:List aaL,l.length=n∧∀i x,l[i]? =some x→p i x
 |0,_=>⟨[],rfl,fun i x h=>by simp at h⟩
 |n+1,h=>by
  obtain⟨l,b,d⟩:=JR n fun i c=>h i (by omega);obtain⟨x,e⟩:=h n (by omega);refine⟨l++[x],by simp[b],fun i y a=> ?_⟩;by_cases c:i<n
  ·rw[qC (by omega)] at a;exact d i y a
  ·have:i=n:=by have:=(cH.1 a).1;simp at this;omega
   subst this;rw[jL (by omega),b] at a;simp at a;subst a;exact e
theorem Ev:∀{a:List oB} {vs:List aaL} {w:aaK},vs.length=a.length→(∀(i:Nat) (p:oB) (v:aaL),a[i]? =some p→vs[i]? =some v→p.p v w)→Et a vs w
 |[],[],_,_,_=>trivial
 |[],_::_,_,h,_=>by simp at h
 |_::_,[],_,h,_=>by simp at h
 |p::a,v::vs,w,d,h=>⟨h 0 p v rfl rfl,Ev (by simpa using d) fun i e v' b c=>h (i+1) e v' (by simpa using b) (by simpa using c)⟩
theorem Uu(y:Φ.length=L.length)(x:sN a0.tmps.size L=true)(q:pg L a0 D)(h:∀i,i<L.length→vS L Φ D d i):∃vs,Et Φ vs d∧D=eB L vs a0:=by
 obtain⟨vs,z,k⟩:=JR (p:=fun i v=>∀o p,L[i]? =some o→Φ[i]? =some p→xU o D v∧p.p v d) L.length fun i c=>by have:=h i c;unfold vS at this;rw[cA c,cA (show i<Φ.length by omega)] at this;obtain⟨v,b,j⟩:=this;refine⟨v,fun o p l k=> ?_⟩;rw[cA c] at l;rw[cA (show i<Φ.length by omega)] at k;cases l;cases k;exact⟨b,j⟩
 refine⟨vs,Ev (by omega) fun i p v b j=> ?_, ?_⟩
 ·have c:i<L.length:=by have:=(cH.1 b).1;omega
  exact(k i v j _ p (cA c) b).2
 ·have t:D.tmps=(eB L vs a0).tmps:=by
   refine Array.ext_getElem? fun m=> ?_;by_cases hex:∃(i:Nat) (o:Oper),L[i]? =some o∧o.dst=some m
   ·obtain⟨i,o,b,j⟩:=hex;have c:i<L.length:=(cH.1 b).1;have u:vs[i]? =some (vs[i]'(by omega)):=cA _
    have n:=(k i _ u o (Φ[i]'(by omega)) b (cA _)).1
    unfold xU at n;rw[j] at n;rw[AZ x (ag _) b j u];exact n
   ·have s:∀o∈L,o.dst≠some m:=fun o l e=>by obtain⟨i,c⟩:=zP.1 l;exact hex ⟨i,o,c,e⟩
    rw[rF s];exact q.other m s
  have r:D.defers=(eB L vs a0).defers:=by rw[qO];exact q.defers
  cases D;simp only at t r;rw[t,r]
end
end Go.Proofs.YtlemddnecmmfgaaGreatDoor
namespace Go.Proofs.YtlemddnecmmfgaaGreatDoor
open Go.RowKit
variable{D:Act}{b:Nat}{d:aaK}
theorem mv{L:List Oper}{Φ:List oB}{o:Oper}(h:∀e∈o.after.toList,Region.binds .any e=true→vS L Φ D d e.on)(k:Nat)(i:(o.after.toList.any fun e=>Region.binds .any e&&e.on==k)=true):vS L Φ D d k:=by obtain⟨e,c,b⟩:=lF.1 i;rw[cW,bZ] at b;rw[←b.2];exact h e c b.1
theorem lX{L:List Oper}{a0 a:Act}(h:pg L a0 a)(d:Nat){v:aaL}(b:(L.all fun o=>o.dst !=some d)=true)(i:a0.tmps[d]? =some v):a.tmps[d]? =some v:=by rw[←i];refine h.other d fun o c e=> ?_;have:=eV.1 b o c;rw[e] at this;simp at this
end Go.Proofs.YtlemddnecmmfgaaGreatDoor
