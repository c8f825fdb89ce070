/- The walk of the maker's include. -/
import Derived.Test.YtlemddnecmmfgaaGreatDoorJbb
set_option linter.unusedVariables false
set_option maxRecDepth 100000
set_option maxHeartbeats 4000000
namespace Go.Proofs.YtlemddnecmmfgaaGreatDoor
open Go.RowKit
variable{b:Bool}{e j:Bs}{a i:List Nat}{d k:Nat}{z:U}
theorem Ar(u:U):∀l:List U,nB (l++[u])=nB l++qz u
 |[]=>by show qz u++nB []=[]++qz u;rw[nB,jm,kK]
 |x::r=>by rw[di,nB,nB,Ar u r,jl]
section
variable{E:ME}{W W':aaK}{S:PS}{out:Bs}{av rv ov:aaL}
theorem MK.Rr(H:MK E W S out av rv ov){a:aaK}{O:Obj}{n:Nat}(p:S.asked.length=n)
 (r:a.ownsRow E.w0.heap.size 23 6 (.slice (some ⟨d,0,none⟩) (n+1) k) (n+1) (nB S.asked++qz z))(m:(W.alloc O).grownBy a av.ownBlock)(c:some d=av.ownBlock∨W.heap.size+1≤d):
 (MK E (a.setCell ⟨E.mb,3,none⟩ (.slice (some ⟨d,0,none⟩) (n+1) k)) {S with asked:=S.asked++[z]} out (.slice (some ⟨d,0,none⟩) (n+1) k) rv ov∧
  bC (MB E av rv ov) W (MB E (.slice (some ⟨d,0,none⟩) (n+1) k) rv ov) (a.setCell ⟨E.mb,3,none⟩ (.slice (some ⟨d,0,none⟩) (n+1) k)))∧a.heap[E.mb]? =some (.cells (Gw E S av rv ov).toArray 85):=by
 obtain⟨h,i,l,b,s⟩:=H.grown (az W O) m (.inl rfl) 3 (.slice (some ⟨d,0,none⟩) (n+1) k);have o:some E.mb≠some d:=by
  obtain⟨n1,n2,t,w⟩:=fF.1 H.vW;intro e;injection e with e;rcases c with q|q
  ·exact(n2 E.mb (.inl rfl)).1 (by rw[←q,e])
  ·have:=H.lt;omega
 refine⟨H.swap (v:=av) (v':=.slice (some ⟨d,0,none⟩) (n+1) k) h i l (aw (j:=3) b) rfl (c.elim (fun q=>.inl q) (fun q=>.inr ⟨d,rfl,by omega⟩)) (.inl ⟨rfl,rfl,rfl,rfl,rfl,rfl, ?_⟩),b⟩;show World.ownsRow _ _ _ 6 _ (S.asked++[z]).length (nB (S.asked++[z]));rw[bB,p,Ar];exact r.kept s (.inr (fun e=>o e.symm))
end
theorem T7:(Tryz.prog.info? 23).map (fun i=>(i.zero,i.size,i.bytes))=some (some (.agg #[.string ⟨#[]⟩,.string ⟨#[]⟩,.int .i64 0,.string ⟨#[]⟩,.string ⟨#[]⟩,.bool false]),6,80):=by kernel_rfl
theorem Rs:Tryz.prog.underlying 41=some (.slice 23):=by kernel_rfl
theorem Vt:Tryz.prog.underlying 82=some (.map 9 116):=by kernel_rfl
theorem WC(W:aaK):(zeroValue 116).run Tryz.prog W=.ok (.agg #[.string ⟨#[]⟩]) W:=by
 have a:Tryz.t116.zero=some (.agg #[.string ⟨#[]⟩]):=by kernel_rfl
 simp[zeroValue,go_sem,a]
theorem MX.off{E:ME}{W W':aaK}{S:PS}{out:Bs}{p:Nat}(H:MX E W a S out)(o:p∉a)(n:E.w0.heap.size≤p)(m:ak p W W'):MX E W' a S out:=by obtain⟨av,rv,ov,h,rfl⟩:=H;have j:∀b∈MB E av rv ov,W'.heap[b]? =W.heap[b]? :=fun b k=>m.block b (h.mlt b k).2 (by intro e;injection e with e;exact o (e▸k));have i:∀v g,v.ownBlock=some g→v∈[av,rv,ov]→W'.heap[g]? =W.heap[g]? :=fun v g c d=>j g (bY _ (bY _ (cQ.2 ⟨v,d,c⟩)));refine⟨av,rv,ov,⟨h.up.t (m.below n h.up.size),(j _ eF).t h.box,bw h.asked fun g q=>i av g q (by simp),bw h.reads fun g q=>i rv g q (by simp),bw h.lE fun g q=>i ov g q (by simp), ?_,h.vW,h.far⟩,rfl⟩;obtain⟨l,c,d⟩:=h.inl;exact⟨l,ri c (j _ (bY _ eF)),d⟩
theorem bC.off{W0 W W':aaK}{p:Nat}(h:bC a W0 i W)(m:W0.heap.size≤p)(d:ak p W W'):bC a W0 i W':=
 ⟨bP h.size d.size,fun b c j=>by obtain⟨k,l⟩:=h.cO b c j;exact⟨k,(d.block b (ej c h.size) (by intro e;injection e with e;omega)).t l⟩⟩
abbrev WD(g:j5):aaL:=.agg #[.string ⟨g.body.toArray⟩,.bool g.F3,.bool g.ok]
theorem lT{fn:Func}{W:aaK}{tmps:Array aaL}{v0 v1 v2:aaL}(h:fn.results=#[.cell k 62])(c:tmps.getD k undef=.pointer (some ⟨d,0,none⟩))(a:W.heap[d]? =some (.cells #[v0,v1,v2] 62)):
 (results fn tmps).run Tryz.prog W=.ok (.agg #[v0,v1,v2]) W:=by
 obtain⟨i,j,l⟩:=qX3 (aj a) 0 1 2;have e:tmps[k]?.getD undef=.pointer (some ⟨d,0,none⟩):=by rw[←c];simp
 simp[results,h,go_sem,e,i,j,l]
theorem MX.Tq{E:ME}{W:aaK}{S:PS}{out:Bs}(H:MX E W a S out):W.cell? ⟨E.mb,14,none⟩=some (.map (some E.im)):=by obtain⟨av,rv,ov,b,_⟩:=H;exact tH _ _ 14 _ _ _ b.box
theorem MX.up{E:ME}{W:aaK}{M:List Nat}{S:PS}{out:Bs}(H:MX E W M S out):Below E.w0.heap.size E.w0 W:=by obtain⟨av,rv,ov,a,_⟩:=H;exact a.up
theorem MX.get{E:ME}{W:aaK}{S:PS}{out:Bs}(H:MX E W a S out)(k:Bs):
 (Instr.lookup 82 (.map (some E.im)) (.string ⟨k.toArray⟩) true).run Tryz.prog W=.ok (.tuple #[.agg #[.string ⟨((Xr S.inl k).getD []).toArray⟩],.bool (Xr S.inl k).isSome]) W:=by
 obtain⟨av,rv,ov,e,_⟩:=H;obtain⟨l,b,c⟩:=e.inl;rw[fz b _ _ Vt _ (WC W) _ _];have d:assoc l (⟨k.toArray⟩:aaM).data.toList=(Xr S.inl k).map fun t=>.agg #[.string ⟨t.toArray⟩]:=c k;rw[d];cases Xr S.inl k<;>rfl
theorem MX.WE{E:ME}{W:aaK}{S:PS}{out:Bs}(H:MX E W a S out)(c:(Xr S.inl e).getD []=j∧(Xr S.inl e).isSome=b):
 (Instr.lookup 82 (.map (some E.im)) (.string ⟨e.toArray⟩) true).run Tryz.prog W=.ok (.tuple #[.agg #[.string ⟨j.toArray⟩],.bool b]) W:=by
 have h:=H.get e;rw[c.1,c.2] at h;exact h
def sx(P:fx)(u:U)(S:PS):PS×Option j5:=
 match Xr S.inl (nE u) with
 |some t=>(S,some ⟨t,true,true⟩)
 |none=>({S with asked:=S.asked++[u]},P.fZ[S.asked.length]?)
theorem N0(P:fx)(f:U→Nd→PS→Nat→PS×Oc)(u:U)(S:PS)(ahead:Nat):zw P f u S ahead=match sx P u S with|(a,some g)=>zx f u a ahead g|(a,none)=>(a,.wait):=by
 unfold zw sx;cases Xr S.inl (nE u) with
 |some t=>rfl
 |none=>dsimp only;cases P.fZ[S.asked.length]? <;>rfl
def WG(E:ME)(M:List Nat)(W:aaK)(out:Bs)(r:PS×Option j5):Ending→aaK→Prop:=fun b w'=>match r.2 with
 |some g=>b=.returned (WD g)∧∃a,MX E w' a r.1 out∧bC M W a w'
 |none=>b=.panicked [gA]∧∃a,MX E w' a r.1 out∧bC M W a w'
theorem MX.mlt{E:ME}{W:aaK}{M:List Nat}{S:PS}{out:Bs}(H:MX E W M S out):∀b∈M,E.w0.heap.size≤b∧b<W.heap.size:=by obtain⟨av,rv,ov,a,rfl⟩:=H;exact a.mlt
structure Rt (E:ME) (W:aaK) (M:List Nat) (S:PS) (out t:Bs) (u:U) (ib:Nat) (wx:aaK):Prop where
 c:wx.cell? ⟨ib,0,none⟩=some (.string ⟨t.toArray⟩)
 mx:MX E wx M S out
 st:bC M W M wx
 g:wx.heap[W.heap.size+1]? =some (.cells #[.string ⟨#[]⟩,.bool false,.bool false] 62)
 ur:wx.heap[W.heap.size]? =some (.cells #[.string ⟨u.scheme.toArray⟩,.string ⟨u.host.toArray⟩,.int .i64 u.port,.string ⟨u.path.toArray⟩,.string ⟨u.query.toArray⟩,.bool u.hq] 23)
theorem Ru{E:ME}{W b:aaK}{S:PS}{out t:Bs}(H:MX E b a S out)(o:bC a W a b)(h:b.heap[W.heap.size+1]? =some (.cells #[.string ⟨#[]⟩,.bool false,.bool false] 62))(i:b.heap[W.heap.size]? =some (.cells #[.string ⟨z.scheme.toArray⟩,.string ⟨z.host.toArray⟩,.int .i64 z.port,.string ⟨z.path.toArray⟩,.string ⟨z.query.toArray⟩,.bool z.hq] 23))(n:b.heap[d]? =some (.cells #[.string ⟨#[]⟩] 116))(l:d∉a)(p:W.heap.size+1<d)(k:E.w0.heap.size≤d):
 Rt E W a S out t z d (b.setCell ⟨d,0,none⟩ (.string ⟨t.toArray⟩)):=by
 have c:ak d b (b.setCell ⟨d,0,none⟩ (.string ⟨t.toArray⟩)):=(ak.refl _ _).set;have m:(b.setCell ⟨d,0,none⟩ (.string ⟨t.toArray⟩)).heap[d]? =some (.cells #[.string ⟨t.toArray⟩] 116):=aw (j:=0) n;refine⟨tH _ _ 0 _ _ _ m,H.off l k c,o.off (by omega) c, ?_,(c.block _ (aB.1 i).1 (by intro e;injection e with e;omega)).t i⟩;exact(c.block _ (aB.1 h).1 (by intro e;injection e with e;omega)).t h
theorem Vu{E:ME}{W d c:aaK}{S:PS}{out:Bs}(H:MX E d a S out)(r:bC a W a d)(m:d.heap[W.heap.size+1]? =some (.cells #[.string ⟨#[]⟩,.bool false,.bool false] 62))(s:d.heap[W.heap.size]? =some (.cells #[.string ⟨z.scheme.toArray⟩,.string ⟨z.host.toArray⟩,.int .i64 z.port,.string ⟨z.path.toArray⟩,.string ⟨z.query.toArray⟩,.bool z.hq] 23))(i:Below d.heap.size d c)(o:(Xr S.inl e).getD []=j∧(Xr S.inl e).isSome=b):
 c.cell? ⟨E.mb,14,none⟩=some (.map (some E.im))∧(Instr.lookup 82 (.map (some E.im)) (.string ⟨e.toArray⟩) true).run Tryz.prog c=.ok (.tuple #[.agg #[.string ⟨j.toArray⟩],.bool b]) c∧(c.alloc (.cells #[.string ⟨#[]⟩] 116)).cell? ⟨E.mb,14,none⟩=some (.map (some E.im))∧(Instr.lookup 82 (.map (some E.im)) (.string ⟨e.toArray⟩) true).run Tryz.prog (c.alloc (.cells #[.string ⟨#[]⟩] 116))=.ok (.tuple #[.agg #[.string ⟨j.toArray⟩],.bool b]) (c.alloc (.cells #[.string ⟨#[]⟩] 116))∧
  (c.alloc (.cells #[.string ⟨#[]⟩] 116)).cell? ⟨c.heap.size,0,none⟩=some (.string ⟨#[]⟩)∧(c.alloc (.cells #[.string ⟨#[]⟩] 116)).frozen? ⟨c.heap.size,0,none⟩=false∧Rt E W a S out j z c.heap.size (c.alloc (.cells #[.string ⟨j.toArray⟩] 116)):=by
 have h:=H.next i;have l:=h.next (az c (.cells #[.string ⟨#[]⟩] 116));have p:=au c (.cells #[.string ⟨#[]⟩] 116);have n:=(aB.1 m).1;have x:=i.size;have y:=h.up.size;have q:=(i.block _ n).t m;have w:=(i.block _ (Nat.lt_of_succ_lt n)).t s;exact⟨h.Tq,h.WE o,l.Tq,l.WE o,tH _ _ 0 _ _ _ p,aA p,⟨tH _ _ 0 _ _ _ (au c (.cells #[.string ⟨j.toArray⟩] 116)),h.next (az c (.cells #[.string ⟨j.toArray⟩] 116)),(r.t (bC.ai i)).t (bC.ai (az c _)),((az c _).block _ (by omega)).t q,((az c _).block _ (by omega)).t w⟩⟩
theorem Vv{E:ME}{W c d:aaK}{S:PS}{out:Bs}(H:MX E c a S out)(r:bC a W a c)(m:c.heap[W.heap.size+1]? =some (.cells #[.string ⟨#[]⟩,.bool false,.bool false] 62))(s:c.heap[W.heap.size]? =some (.cells #[.string ⟨z.scheme.toArray⟩,.string ⟨z.host.toArray⟩,.int .i64 z.port,.string ⟨z.path.toArray⟩,.string ⟨z.query.toArray⟩,.bool z.hq] 23))(h:Below (c.heap.size+1) (c.alloc (.cells #[.string ⟨#[]⟩] 116)) d)(p:(Xr S.inl e).getD []=j∧(Xr S.inl e).isSome=b):
 d.cell? ⟨E.mb,14,none⟩=some (.map (some E.im))∧(Instr.lookup 82 (.map (some E.im)) (.string ⟨e.toArray⟩) true).run Tryz.prog d=.ok (.tuple #[.agg #[.string ⟨j.toArray⟩],.bool b]) d∧d.cell? ⟨c.heap.size,0,none⟩=some (.string ⟨#[]⟩)∧d.frozen? ⟨c.heap.size,0,none⟩=false∧Rt E W a S out j z c.heap.size (d.setCell ⟨c.heap.size,0,none⟩ (.string ⟨j.toArray⟩)):=by
 have i:=(H.next (az c (.cells #[.string ⟨#[]⟩] 116))).next (by rw[aO];exact h)
 have l:=(h.block _ (Nat.lt_succ_self _)).t (au c (.cells #[.string ⟨#[]⟩] 116));have n:=(aB.1 m).1;have x:=H.up.size;have o:=(h.block _ (by omega)).t (((az c _).block _ n).t m);have w:=(h.block _ (by omega)).t (((az c _).block _ (Nat.lt_of_succ_lt n)).t s);exact⟨i.Tq,i.WE p,tH _ _ 0 _ _ _ l,aA l,Ru i ((r.t (bC.ai (az c (.cells #[.string ⟨#[]⟩] 116)))).t (bC.ai (by rw[aO];exact h))) o w l (fun q=>by have:=(H.mlt _ q).2;omega) (by omega) x⟩
theorem Jt{E:ME}{W:aaK}{S:PS}{out:Bs}{wc:aaK}(H:MX E wc i S out)(m:bC a W i wc)(l:wc.heap[W.heap.size+1]? =some (.cells #[.string ⟨#[]⟩,.bool false,.bool false] 62))(b:W.heap.size+1∉i∧E.w0.heap.size≤W.heap.size+1)(t:Bs)(e k:Bool):
 (((wc.setCell ⟨W.heap.size+1,0,none⟩ (.string ⟨t.toArray⟩)).setCell ⟨W.heap.size+1,1,none⟩ (.bool e)).setCell ⟨W.heap.size+1,2,none⟩ (.bool k)).heap[W.heap.size+1]? =some (.cells #[.string ⟨t.toArray⟩,.bool e,.bool k] 62)∧
  MX E (((wc.setCell ⟨W.heap.size+1,0,none⟩ (.string ⟨t.toArray⟩)).setCell ⟨W.heap.size+1,1,none⟩ (.bool e)).setCell ⟨W.heap.size+1,2,none⟩ (.bool k)) i S out∧
  bC a W i (((wc.setCell ⟨W.heap.size+1,0,none⟩ (.string ⟨t.toArray⟩)).setCell ⟨W.heap.size+1,1,none⟩ (.bool e)).setCell ⟨W.heap.size+1,2,none⟩ (.bool k)):=by
 have c:ak (W.heap.size+1) wc (((wc.setCell ⟨W.heap.size+1,0,none⟩ (.string ⟨t.toArray⟩)).setCell ⟨W.heap.size+1,1,none⟩ (.bool e)).setCell ⟨W.heap.size+1,2,none⟩ (.bool k)):=(((ak.refl _ _).set).set).set;refine⟨?_,H.off b.1 b.2 c,m.off (by omega) c⟩;have d:(wc.setCell ⟨W.heap.size+1,0,none⟩ (.string ⟨t.toArray⟩)).heap[W.heap.size+1]? =some (.cells #[.string ⟨t.toArray⟩,.bool false,.bool false] 62):=aw (j:=0) l;have h:((wc.setCell ⟨W.heap.size+1,0,none⟩ (.string ⟨t.toArray⟩)).setCell ⟨W.heap.size+1,1,none⟩ (.bool e)).heap[W.heap.size+1]? =some (.cells #[.string ⟨t.toArray⟩,.bool e,.bool false] 62):=aw (j:=1) d;exact aw (j:=2) h
theorem T8{E:ME}(HE:QQ E){W:aaK}{S:PS}{out:Bs}(an:MX E W a S out)(u:U)(hu:xv u)(x:S.asked.length≤100000000):
 Calls Tryz.prog 137 #[.pointer (some ⟨E.mb,0,none⟩),uV u] W (WG E a W out (sx E.env u S)):=by
 have hA:Below W.heap.size W ((W.alloc (.cells #[.string ⟨u.scheme.toArray⟩,.string ⟨u.host.toArray⟩,.int .i64 u.port,.string ⟨u.path.toArray⟩,.string ⟨u.query.toArray⟩,.bool u.hq] 23)).alloc (.cells #[.string ⟨#[]⟩,.bool false,.bool false] 62)):=(az W _).alloc (by rw[aO];omega) _;have hd:=(ar ((W.alloc (.cells #[.string ⟨u.scheme.toArray⟩,.string ⟨u.host.toArray⟩,.int .i64 u.port,.string ⟨u.path.toArray⟩,.string ⟨u.query.toArray⟩,.bool u.hq] 23)).alloc (.cells #[.string ⟨#[]⟩,.bool false,.bool false] 62)).heap.size ((W.alloc (.cells #[.string ⟨u.scheme.toArray⟩,.string ⟨u.host.toArray⟩,.int .i64 u.port,.string ⟨u.path.toArray⟩,.string ⟨u.query.toArray⟩,.bool u.hq] 23)).alloc (.cells #[.string ⟨#[]⟩,.bool false,.bool false] 62))).drew;have aN:=ad ((bC.ai (M:=a) hA).t (bC.ai (M:=a) hd));have r:=ad ((an.next hA).next hd);have j:=ad (jX W (.cells #[.string ⟨u.scheme.toArray⟩,.string ⟨u.host.toArray⟩,.int .i64 u.port,.string ⟨u.path.toArray⟩,.string ⟨u.query.toArray⟩,.bool u.hq] 23) (.cells #[.string ⟨#[]⟩,.bool false,.bool false] 62));have H:=ad (iT W (.cells #[.string ⟨u.scheme.toArray⟩,.string ⟨u.host.toArray⟩,.int .i64 u.port,.string ⟨u.path.toArray⟩,.string ⟨u.query.toArray⟩,.bool u.hq] 23) (.cells #[.string ⟨#[]⟩,.bool false,.bool false] 62));have bp:W.heap.size+1∉a∧E.w0.heap.size≤W.heap.size+1:=by obtain⟨av,rv,ov,s,rfl⟩:=an;exact⟨fun hm=>by have:=(s.mlt _ hm).2;omega,by have:=s.up.size;omega⟩
 have N:=ad bp;have ao:=ad HE;have bd:=ad hu;obtain⟨t,ht⟩:∃t,(Xr S.inl (nE u)).getD []=t:=⟨_,rfl⟩;obtain⟨Z,hi⟩:∃Z,(Xr S.inl (nE u)).isSome=Z:=⟨_,rfl⟩;have J:=ad (And.intro ht hi);have L:=ad (And.intro x HE.Vc);clear hA hd an HE hu ht hi bp x;go_enter Tryz.func137,Tryz.ntmps137;go_upto_region 1 with fail;generalize(W.alloc (.cells #[.string ⟨u.scheme.toArray⟩,.string ⟨u.host.toArray⟩,.int .i64 u.port,.string ⟨u.path.toArray⟩,.string ⟨u.query.toArray⟩,.bool u.hq] 23)).alloc (.cells #[.string ⟨#[]⟩,.bool false,.bool false] 62)=b at*;have b4:=ad (aB.1 H.o).1;have u0:b.cell? ⟨W.heap.size,0,none⟩=some (.string ⟨u.scheme.toArray⟩):=tH _ _ 0 _ _ _ j.o;have u1:b.cell? ⟨W.heap.size,1,none⟩=some (.string ⟨u.host.toArray⟩):=tH _ _ 1 _ _ _ j.o;have u2:b.cell? ⟨W.heap.size,2,none⟩=some (.int .i64 u.port):=tH _ _ 2 _ _ _ j.o;have u3:b.cell? ⟨W.heap.size,3,none⟩=some (.string ⟨u.path.toArray⟩):=tH _ _ 3 _ _ _ j.o;have u4:b.cell? ⟨W.heap.size,4,none⟩=some (.string ⟨u.query.toArray⟩):=tH _ _ 4 _ _ _ j.o;have u5:b.cell? ⟨W.heap.size,5,none⟩=some (.bool u.hq):=tH _ _ 5 _ _ _ j.o;have a4:b.cell? ⟨E.mb,14,none⟩=some (.map (some E.im)):=by obtain⟨av,rv,ov,hm,_⟩:=r.o;exact tH _ _ 14 _ _ _ (by have:=hm.box;exact this)
 have a7:=az b.drew (.cells #[.string ⟨#[]⟩] 116);have br:=ad a7;have bg:=ad (r.o.next a7);have Tq:=aI (W:=b) a4 (.cells #[.string ⟨#[]⟩] 116);have G:=ad (show b.drew.heap[W.heap.size+1]? =_ from((ar b.heap.size b).drew.block _ (aB.1 H.o).1).t H.o);have a0:=ad (show b.drew.heap[W.heap.size]? =_ from((ar b.heap.size b).drew.block _ (aB.1 j.o).1).t j.o);have bv:=ad (show W.heap.size+1<b.drew.heap.size from(aB.1 G.o).1);have v0:=aI (W:=b) u0 (.cells #[.string ⟨#[]⟩] 116);have v1:=aI (W:=b) u1 (.cells #[.string ⟨#[]⟩] 116);have v2:=aI (W:=b) u2 (.cells #[.string ⟨#[]⟩] 116);have v3:=aI (W:=b) u3 (.cells #[.string ⟨#[]⟩] 116);have v4:=aI (W:=b) u4 (.cells #[.string ⟨#[]⟩] 116);have v5:=aI (W:=b) u5 (.cells #[.string ⟨#[]⟩] 116);clear a7
 go_cut [5,6] (fun s5 s6 F=>s6=.bool Z∧∃ib,s5=.pointer (some ⟨ib,0,none⟩)∧Hid (Rt E W a S out t u ib F))
 case first=>
  go_region_with (go_at_call 34;go_must (first|(refine(wa u b.drew (ao.o.gl.gx.next r.o.up) bd.o).m ?_;rintro e D⟨rfl,w⟩;obtain⟨bk,g5,cn,g6,z5,am,C⟩:=Vu r.o aN.o G.o a0.o w J.o;have bi:=ad C;clear w C)|(refine(wa u (b.drew.alloc (.cells #[.string ⟨#[]⟩] 116)) (ao.o.gl.gx.next bg.o.up) bd.o).m ?_;rintro e D⟨rfl,w⟩;obtain⟨bk,g5,z5,am,C⟩:=Vv r.o aN.o G.o a0.o (by rw[aO] at w;exact w) J.o;have z5:D.cell? ⟨b.heap.size,0,none⟩=some (.string ⟨#[]⟩):=z5;have am:D.frozen? ⟨b.heap.size,0,none⟩=false:=am;have bi:=ad C;clear w C)))
  all_goals
   clear a4 Tq bk g5 z5 am u0 u1 u2 u3 u4 u5 v0 v1 v2 v3 v4 v5;go_wp2_with fail
   go_meet
   exact⟨rfl,_,rfl,bi⟩
 case rest=>
  obtain⟨rfl,ib,rfl,d⟩:=hcut;clear j H r aN bg br G a0 bv b4 a4 Tq u0 u1 u2 u3 u4 u5 v0 v1 v2 v3 v4 v5;obtain⟨r0,r1,r2⟩:=qX3 (aj d.o.g) 0 1 2;have ab:wc.frozen? ⟨W.heap.size+1,0,none⟩=false:=aA d.o.g;have af:wc.frozen? ⟨W.heap.size+1,1,none⟩=false:=aA d.o.g;have al:wc.frozen? ⟨W.heap.size+1,2,none⟩=false:=aA d.o.g;cases Z
  ·have O:=ad (show sx E.env u S=({S with asked:=S.asked++[u]},E.fZ[S.asked.length]?) by
    obtain⟨s,z⟩:=J.o;unfold sx;cases X:Xr S.inl (nE u) with
    |none=>rfl
    |some t'=>rw[X] at z;cases z)
   obtain⟨av,rv,ov,h,A⟩:=d.o.mx;obtain⟨aa,ac,rfl⟩:=aX h.asked;have aq:=ad h.asked;obtain⟨n,x⟩:∃n,S.asked.length=n:=⟨_,rfl⟩;have k:=ad x;rw[x] at aq h A;have be:=ad h;have K:=ad A;have b3:wc.cell? ⟨E.mb,3,none⟩=some (.slice aa n ac):=tH _ _ 3 _ _ _ h.box;have x0:wc.cell? ⟨W.heap.size,0,none⟩=some (.string ⟨u.scheme.toArray⟩):=tH _ _ 0 _ _ _ d.o.ur;have x1:wc.cell? ⟨W.heap.size,1,none⟩=some (.string ⟨u.host.toArray⟩):=tH _ _ 1 _ _ _ d.o.ur;have x2:wc.cell? ⟨W.heap.size,2,none⟩=some (.int .i64 u.port):=tH _ _ 2 _ _ _ d.o.ur;have x3:wc.cell? ⟨W.heap.size,3,none⟩=some (.string ⟨u.path.toArray⟩):=tH _ _ 3 _ _ _ d.o.ur;have x4:wc.cell? ⟨W.heap.size,4,none⟩=some (.string ⟨u.query.toArray⟩):=tH _ _ 4 _ _ _ d.o.ur;have x5:wc.cell? ⟨W.heap.size,5,none⟩=some (.bool u.hq):=tH _ _ 5 _ _ _ d.o.ur;have a5:∀a2,(wc.alloc a2).cell? ⟨E.mb,3,none⟩=some (.slice aa n ac):=fun a2=>aI b3 a2;have B:=ar wc.heap.size wc;have ap:=ad (be.o.next B.drew);have bf:=ad (d.o.st.t (bC.ai (M:=a) B.drew));have a9:=(aB.1 d.o.g).1;have I:=ad (show W.heap.size+1<wc.drew.heap.size∧wc.drew.heap[W.heap.size+1]? =some (.cells #[.string ⟨#[]⟩,.bool false,.bool false] 62) from⟨ej a9 B.drew.size,(B.drew.block _ a9).t d.o.g⟩);clear h A B x a9;go_upto_region 4 with fail
   go_cut [] (fun F=>∃M',Hid (MX E F M' {S with asked:=S.asked++[u]} out)∧Hid (bC a W M' F)∧Hid (F.heap[W.heap.size+1]? =some (.cells #[.string ⟨#[]⟩,.bool false,.bool false] 62))∧Hid (W.heap.size+1∉M'))
   case first=>
    go_region_law
     (go_loud (refine gM (by rfl) _ _ 41 (by rfl) 23 (.agg #[.string ⟨#[]⟩,.string ⟨#[]⟩,.int .i64 0,.string ⟨#[]⟩,.string ⟨#[]⟩,.bool false]) 6 80 Rs T7 (by rfl) (by decide) E.w0.heap.size wc.drew (.slice aa n ac) n (nB S.asked) (by rfl) (cp aq.o (ax wc 1)) (qz u) (by rfl) (by rfl) (by rfl) (by simp[qz,Value.oneCell']) (by have:=L.o;have:=k.o;omega) (by have:=L.o;have:=k.o;omega) (by exact ap.o.up.size) ?_);intro g cap D bo bl bn;have p:=ad (ap.o.Rr k.o bo bl bn);have cl:=tH _ _ 3 _ _ _ p.o.2;have co:D.frozen? ⟨E.mb,3,none⟩=false:=aA p.o.2;clear bo bl bn)
    all_goals
     go_wp2_with fail
     go_meet
     refine⟨_,ad ⟨_,_,_,p.o.1.1,rfl⟩,ad (bf.o.t (by rw[K.o];exact p.o.1.2)), ?_, ?_⟩
     ·exact ad ((p.o.1.2.cO _ I.o.1 (by rw[←K.o];exact N.o.1)).2.t I.o.2)
     ·exact ad (p.o.1.2.cO _ I.o.1 (by rw[←K.o];exact N.o.1)).1
   case rest=>
    obtain⟨R,Q,aU,q,bx⟩:=hcut;clear ap bf I K be aq b3 a5 x0 x1 x2 x3 x4 x5 r0 r1 r2 ab af al d;obtain⟨ck,ct,cs,h,A⟩:=Q.o;obtain⟨b5,b6,rfl⟩:=aX h.asked;obtain⟨i,a6⟩:∃i,E.fZ.length=i:=⟨_,rfl⟩;have hl:({S with asked:=S.asked++[u]}:PS).asked.length=n+1:=by show(S.asked++[u]).length=n+1;rw[bB,k.o];rfl
    have b3:=aj h.box 3;rw[hl] at b3;have a3:wc.cell? ⟨E.mb,13,none⟩=some (.slice E.ga i E.gc):=by rw[←a6];exact tH _ _ 13 _ _ _ h.box
    obtain⟨r0,r1,r2⟩:=qX3 (aj q.o) 0 1 2;have ab:wc.frozen? ⟨W.heap.size+1,0,none⟩=false:=aA q.o;have af:wc.frozen? ⟨W.heap.size+1,1,none⟩=false:=aA q.o;have al:wc.frozen? ⟨W.heap.size+1,2,none⟩=false:=aA q.o;have i1:(n:Int)≤100000000:=by have:=L.o;have:=k.o;omega
    have i2:(i:Int)≤100000000:=by have:=L.o;omega
    have i3:(0:Int)≤(n:Int):=by omega
    have i4:(0:Int)≤(i:Int):=by omega
    have bb:=ad a6;have a1:=ad h.up;clear h A hl a6;cases l:E.fZ[n]? with
    |none=>
     have ay:=ad (show sx E.env u S=({S with asked:=S.asked++[u]},none) by rw[O.o,k.o,l]);have i5:(i:Int)<(n:Int)+1:=by have:=List.getElem?_eq_none_iff.1 l;have:=bb.o;omega
     clear l;go_upto_region 5 with fail
     go_quiet (fail)
     go_wp2_with fail;rw[ay.o];exact⟨rfl,rfl,R,Q.o.next (ax _ _),aU.o.t (bC.ai (ax _ _))⟩
    |some g=>
     have ay:=ad (show sx E.env u S=({S with asked:=S.asked++[u]},some g) by rw[O.o,k.o,l]);have i6:n<i:=by have:=(cH.1 l).1;have:=bb.o;omega
     have i5:¬(i:Int)<(n:Int)+1:=by omega
     have i7:(n:Int)<(i:Int):=by omega
     have i8:IntKind.i64.wrap (n:Int)=(n:Int):=IntWalk.i64_in _ (by omega);obtain⟨T,V,bm,Y,y0,y1,y2⟩:=ao.o.fZ n g l;have z0:=(a1.o.cell Y).t y0;have z1:=(a1.o.cell Y).t y1;have z2:=(a1.o.cell Y).t y2;rw[bm] at a3;clear l y0 y1 y2 bm Y;go_upto_region 5 with fail
     go_quiet (fail)
     go_upto_region 7 with fail;have b1:=ad (Q.o.next (ax wc nq));have bJ:=ad (aU.o.t (bC.ai (M:=R) (ax wc nq)));have bs:=ad (show(wc.drewN nq).heap[W.heap.size+1]? =some (.cells #[.string ⟨#[]⟩,.bool false,.bool false] 62) from q.o);have a5:(wc.drewN nq).cell? ⟨E.mb,3,none⟩=some (.slice b5 (n+1) b6):=b3;have b7:(wc.drewN nq).cell? ⟨E.mb,13,none⟩=some (.slice (some ⟨T,V,none⟩) i E.gc):=a3;have ce:(wc.drewN nq).cell? ⟨T,V+n*3,none⟩=some (.string ⟨g.body.toArray⟩):=z0;have ch:(wc.drewN nq).cell? ⟨T,V+n*3+1,none⟩=some (.bool g.F3):=z1;have ci:(wc.drewN nq).cell? ⟨T,V+n*3+2,none⟩=some (.bool g.ok):=z2;have cb:(wc.drewN nq).frozen? ⟨W.heap.size+1,0,none⟩=false:=ab;have cc:(wc.drewN nq).frozen? ⟨W.heap.size+1,1,none⟩=false:=af;have cd:(wc.drewN nq).frozen? ⟨W.heap.size+1,2,none⟩=false:=al;have b8:(wc.drewN nq).cell? ⟨W.heap.size+1,0,none⟩=some (.string ⟨#[]⟩):=r0;have b9:(wc.drewN nq).cell? ⟨W.heap.size+1,1,none⟩=some (.bool false):=r1;have ca:(wc.drewN nq).cell? ⟨W.heap.size+1,2,none⟩=some (.bool false):=r2;clear b3 a3 z0 z1 z2 ab af al r0 r1 r2 Q aU q;generalize wc.drewN nq=w8 at*;have a8:=ax w8 1;have b2:=ad (b1.o.next a8);have b0:=ad (bJ.o.t (bC.ai (M:=R) a8));have y:=ad (Jt b2.o b0.o (show w8.drew.heap[W.heap.size+1]? =_ from bs.o) ⟨bx.o,N.o.2⟩ g.body g.F3 g.ok);clear a8;go_region_law (fail);all_goals
      clear a5 b7 ce ch ci cb cc cd b8 b9 ca;go_wp2_with fail;refine aD (lT rfl rfl y.o.1) rfl ?_;rw[ay.o];exact⟨rfl,R,y.o.2⟩
  ·have i0:=d.o.c;have y:=ad (Jt d.o.mx d.o.st d.o.g N.o t true true);have O:=ad (show sx E.env u S=(S,some ⟨t,true,true⟩) by
    obtain⟨s,z⟩:=J.o;unfold sx;cases X:Xr S.inl (nE u) with
    |none=>rw[X] at z;cases z
    |some t'=>rw[X] at s;cases s;rfl)
   go_wp2_with fail;refine aD (lT rfl rfl y.o.1) rfl ?_;rw[O.o];exact⟨rfl,a,y.o.2⟩
variable{h:Bool}{r:Bs}{G:Deep}{a:List Nat}{l:ME}{i w:Nat}{s:Nd}{e d:Option Addr}{p:PS}{z:U}{k:aaK}
theorem Rq(R:i≤1000)(H:MX l k a p r)(J:kl l G z (i+1) s){b1 b2 b3 b4:Nat}{ac:Nat}{b:U}
 (D:k.heap[b1]? =some (.cells #[.pointer (some ⟨l.mb,0,none⟩)] 81))(F:k.heap[b2]? =some (.cells (eH s.kind s.place s.text (.slice e s.attrs.length ac) (.slice d s.kids.length w)).toArray 37))
 (L:fu (fun b=>b∉a) k s (wZ s.kind s.place s.text (.slice e s.attrs.length ac) (.slice d s.kids.length w)))(j:k.heap[b3]? =some (.cells (qz z).toArray 23))(I:k.heap[b4]? =some (.cells (zv b i h).toArray 109))(O:bq l.inc p (wN s))(N:r.length≤262144):
 Calls Tryz.prog 138 #[.pointer (some ⟨b1,0,none⟩),.pointer (some ⟨b2,0,none⟩),.pointer (some ⟨b3,0,none⟩),.pointer (some ⟨b4,0,none⟩)] k (dk l a k r (bT l.env G z s false p r.length)):=by
 have y:=ad (J k a p r false _ H L O N);obtain⟨q,hq⟩:∃q,bT l.env G z s false p r.length=q:=⟨_,rfl⟩;rw[hq] at y⊢;obtain⟨d1,K⟩:∃d1,i+1=d1:=⟨_,rfl⟩;rw[K] at y;have Q:=ad (show((d1:Nat):Int)=(i:Int)+1 by omega);rw[show Tp z d1 false=.agg #[.string ⟨z.scheme.toArray⟩,.string ⟨z.host.toArray⟩,.int .i64 z.port,.string ⟨z.path.toArray⟩,.string ⟨z.query.toArray⟩,.bool z.hq,.int .i64 ((i:Int)+1),.bool false] by rw[←Q.o]] at y;have T:=aj D 0;obtain⟨Y,Z,x2,x3,x4⟩:=qX5 (aj F) 0 1 2 3 4;have u0:k.cell? ⟨b3,0,none⟩=some (.string ⟨z.scheme.toArray⟩):=tH _ _ 0 _ _ _ j;have u1:k.cell? ⟨b3,1,none⟩=some (.string ⟨z.host.toArray⟩):=tH _ _ 1 _ _ _ j;have u2:k.cell? ⟨b3,2,none⟩=some (.int .i64 z.port):=tH _ _ 2 _ _ _ j;have u3:k.cell? ⟨b3,3,none⟩=some (.string ⟨z.path.toArray⟩):=tH _ _ 3 _ _ _ j;have u4:k.cell? ⟨b3,4,none⟩=some (.string ⟨z.query.toArray⟩):=tH _ _ 4 _ _ _ j;have u5:k.cell? ⟨b3,5,none⟩=some (.bool z.hq):=tH _ _ 5 _ _ _ j;have X:=aj I 6;have i1:(i:Int)≤1000:=by omega
 have i0:(0:Int)≤(i:Int):=by omega
 clear hq J H L D F j I O N K R;go_enter Tryz.func138,Tryz.ntmps138;go_wp2_with fail;refine y.o.m ?_;rintro en C B;clear T Y Z x2 x3 x4 u0 u1 u2 u3 u4 u5 X;obtain⟨A,V⟩:=q;cases V with
 |yes t=>obtain⟨rfl,c⟩:=B;have x:=ad (show dk l a k r (A,.yes t) (.returned (.bool true)) C from⟨rfl,c⟩);clear c;go_wp2_with fail;go_ret;exact x.o
 |no=>obtain⟨rfl,c⟩:=B;have x:=ad (show dk l a k r (A,.no) (.returned (.bool false)) C from⟨rfl,c⟩);clear c;go_wp2_with fail;go_ret;exact x.o
 |wait=>obtain⟨rfl,c⟩:=B;have x:=ad (show dk l a k r (A,.wait) (.panicked [gA]) C from⟨rfl,c⟩);clear c;go_wp2_with fail;exact⟨rfl,x.o⟩
theorem NZ(H:MX l k a p r)(O:kl l G z i s){b1 b2 b4 V X:Nat}{kn kc:Nat}(aa:1≤kn){n:Nd}{av:aaL}{xd:Nat}
 (K:k.heap[b1]? =some (.cells #[.pointer (some ⟨l.mb,0,none⟩)] 81))(L:k.cell? ⟨b2,4,none⟩=some (.slice (some ⟨V,X,none⟩) kn kc))
 (Q:fu (fun b=>b∉a) k s (wZ s.kind s.place s.text (.slice e s.attrs.length w) (.slice d s.kids.length xd)))(u:∀(j:Nat) (v:aaL),(eH s.kind s.place s.text (.slice e s.attrs.length w) (.slice d s.kids.length xd))[j]? =some v→k.cell? ⟨V,X+j,none⟩=some v)(N:k.heap[b4]? =some (.cells (zv z i h).toArray 109))(T:bq l.inc p (wN s))(R:r.length≤262144):
 Calls Tryz.prog 50 #[.pointer (some ⟨b1,0,none⟩),.pointer (some ⟨b2,0,none⟩),.pointer (some ⟨b4,0,none⟩)] k (dk l a k r (bT l.env G z s h p r.length)):=by
 have A:=(ar k.heap.size k).drew;have D:=ad (bC.ai (M:=a) A);have y:=ad (O k.drew a p r h _ (H.next A) (Q.next A) T R);obtain⟨q,hq⟩:∃q,bT l.env G z s h p r.length=q:=⟨_,rfl⟩;rw[hq] at y⊢;have Y:=aj K 0;have F:=u 0 _ rfl;have x1:=u 1 _ rfl;have x2:=u 2 _ rfl;have x3:=u 3 _ rfl;have x4:=u 4 _ rfl;rw[qF] at F;obtain⟨Z,p1,p2,p3,p4,p5,p6,p7⟩:=qX8 (aj N) 0 1 2 3 4 5 6 7;have i1:(0:Int)<(kn:Int):=by omega
 have i2:0<kn:=aa;clear hq O H Q K N T R A u;obtain⟨I,oc⟩:=q;cases oc with
 |yes t=>
  go_enter Tryz.func50,Tryz.ntmps50;go_upto_region 1 with fail
  go_region_with (go_at_call 25;refine y.o.m ?_;rintro J B⟨rfl,c⟩;have C:=ad (dk.pre D.o (show dk l a k.drew r (I,.yes t) (.returned (.bool true)) B from⟨rfl,c⟩));clear c)
  all_goals
   clear Y F x1 x2 x3 x4 Z p1 p2 p3 p4 p5 p6 p7 L;go_wp2_with fail;go_ret;exact C.o
 |no=>
  go_enter Tryz.func50,Tryz.ntmps50;go_upto_region 1 with fail
  go_region_with (go_at_call 25;refine y.o.m ?_;rintro J B⟨rfl,c⟩;have C:=ad (dk.pre D.o (show dk l a k.drew r (I,.no) (.returned (.bool false)) B from⟨rfl,c⟩));clear c)
  all_goals
   clear Y F x1 x2 x3 x4 Z p1 p2 p3 p4 p5 p6 p7 L;go_wp2_with fail;go_ret;exact C.o
 |wait=>
  go_enter Tryz.func50,Tryz.ntmps50;go_upto_region 1 with fail
  go_region_dies
  all_goals
   refine y.o.m ?_;rintro J B⟨rfl,c⟩;exact⟨rfl,dk.pre D.o ⟨rfl,c⟩⟩
end Go.Proofs.YtlemddnecmmfgaaGreatDoor
namespace Go.Proofs.YtlemddnecmmfgaaGreatDoor
open Go.Lib
variable{i:Bs}{J l B C:Cm}{G n:Deep}{b:Nat}{j:Nd}{d:PS}{e a:PS×Oc}{z:U}{H Q:U→Nd→PS→Nat→PS×Oc}{Y:fx}
structure Up (S:PS) (r:PS×Oc):Prop where
 asked:S.asked<+:r.1.asked
 work:S.work≤r.1.work
 aU:S.aU≤r.1.aU
theorem Up.refl(S:PS)(o:Oc):Up S (S,o):=⟨List.prefix_rfl,ag _,ag _⟩
theorem Up.t{S:PS}{r q:PS×Oc}(h:Up S r)(a:Up r.1 q):Up S q:=⟨h.asked.t a.asked,bP h.work a.work,bP h.aU a.aU⟩
def Cut(k:Nat)(r a:PS×Oc):Prop:=
 (r.1.asked.length≤k∧a=r)∨(k<r.1.asked.length∧a.2=.wait∧a.1.asked=r.1.asked.take (k+1)∧a.1.work≤r.1.work∧a.1.aU≤r.1.aU)
def RA(k:Nat)(c b:Cm):Prop:=∀S a,Up S (c S a)∧(S.asked.length≤k→Cut k (c S a) (b S a))
theorem take_prefix{c:Type}{l m:List c}(h:l<+:m)(a:b≤l.length):m.take b=l.take b:=by obtain⟨t,rfl⟩:=h;rw[List.take_append_of_le_length a]
theorem Ye{g g':PS×Oc→PS×Oc}(n:Cut b e a)(c:Up e.1 (g e))(m:e.1.asked.length≤b→Cut b (g e) (g' e))(o:∀S,g' (S,.wait)=(S,.wait)):Cut b (g e) (g' a):=by
 rcases n with⟨h,rfl⟩|⟨h,d,i,j,l⟩
 ·exact m h
 ·obtain⟨q,p⟩:=a;have d:p=.wait:=d;subst d;rw[o];have s:=c.asked.length_le;refine .inr ⟨by omega,rfl, ?_,bP j c.work,bP l c.aU⟩;rw[take_prefix c.asked (by omega)];exact i
theorem Ya(h:∀S a,(J S a).1.asked=S.asked∧S.work≤(J S a).1.work∧S.aU≤(J S a).1.aU):RA b J J:=fun S a=>⟨⟨by rw[(h S a).1];exact List.prefix_rfl,(h S a).2.1,(h S a).2.2⟩,fun d=>.inl ⟨by rw[(h S a).1];exact d,rfl⟩⟩
def X8(t:Bs)(q:PS×Oc):PS×Oc:=match q with|(a,.yes b)=>(a,.yes (t++b))|q=>q
theorem Xx(t:Bs)(q:PS×Oc):(X8 t q).1=q.1:=by obtain⟨S,o⟩:=q;cases o<;>rfl
theorem Yb(c d:Cm)(S:PS)(a:Nat):K9 c d S a=(fun r:PS×Oc=>match r with|(b,.yes t)=>X8 t (d b (a+t.length))|q=>q) (c S a):=rfl
theorem ZL(h:Up d e)(t:Bs):Up d (X8 t e):=⟨by rw[Xx];exact h.asked,by rw[Xx];exact h.work,by rw[Xx];exact h.aU⟩
theorem ZM(h:Cut b e a)(t:Bs):Cut b (X8 t e) (X8 t a):=
 Ye (g:=X8 t) (g':=X8 t) h ⟨by rw[Xx];exact List.prefix_rfl,by rw[Xx];exact ag _,by rw[Xx];exact ag _⟩ (fun c=>.inl ⟨by rw[Xx];exact c,rfl⟩) (fun _=>rfl)
theorem Z1(i:RA b J l)(j:RA b B C):RA b (K9 J B) (K9 l C):=by
 intro S a;rw[Yb,Yb];have m:∀r:PS×Oc,Up r.1 ((fun r:PS×Oc=>match r with|(e,.yes t)=>X8 t (B e (a+t.length))|q=>q) r):=fun r=>by
  obtain⟨e,o⟩:=r;cases o with
  |yes t=>exact ZL (j e _).1 t
  |no=>exact Up.refl _ _
  |wait=>exact Up.refl _ _
 refine⟨(i S a).1.t (m _),fun n=> ?_⟩;refine Ye (g:=fun r:PS×Oc=>match r with|(e,.yes t)=>X8 t (B e (a+t.length))|q=>q) (g':=fun r:PS×Oc=>match r with|(e,.yes t)=>X8 t (C e (a+t.length))|q=>q) ((i S a).2 n) (m _) ?_ (fun _=>rfl);generalize J S a=r;intro h;obtain⟨e,o⟩:=r;cases o with
 |yes t=>exact ZM ((j e (a+t.length)).2 h) t
 |no=>exact .inl ⟨h,rfl⟩
 |wait=>exact .inl ⟨h,rfl⟩
theorem aaa(i:RA b J l)(j:RA b B C):RA b (RE J B) (RE l C):=fun S a=>by
 unfold RE;have m:∀r:PS×Oc,Up r.1 (Au r fun e=>B e a):=fun r=>by
  obtain⟨e,o⟩:=r;cases o with
  |yes t=>exact Up.refl _ _
  |no=>exact(j e _).1
  |wait=>exact Up.refl _ _
 refine⟨(i S a).1.t (m _),fun n=> ?_⟩;refine Ye (g:=fun r=>Au r fun e=>B e a) (g':=fun r=>Au r fun e=>C e a) ((i S a).2 n) (m _) ?_ (fun _=>rfl);generalize J S a=r;intro h;obtain⟨e,o⟩:=r;cases o with
 |yes t=>exact .inl ⟨h,rfl⟩
 |no=>exact(j e _).2 h
 |wait=>exact .inl ⟨h,rfl⟩
def Xt(E:fx)(k:Nat):fx:={E with fZ:=E.fZ.take k}
theorem YF{f:U→Nd→PS→Nat→PS×Oc}(h:∀u t S a,Up S (f u t S a))(u:U)(S:PS)(a:Nat)(g:j5):Up S (zx f u S a g):=by
 unfold zx;split
 ·exact Up.refl _ _
 split
 ·exact Up.refl _ _
 split
 ·exact Up.refl _ _
 exact h _ _ _ _
theorem YT(h:∀u t,RA b (fun S a=>H u t S a) (fun S a=>Q u t S a))(u:U)(S:PS)(a:Nat)(g:j5)(c:S.asked.length≤b):Cut b (zx H u S a g) (zx Q u S a g):=by
 unfold zx;split
 ·exact .inl ⟨c,rfl⟩
 split
 ·exact .inl ⟨c,rfl⟩
 split
 ·exact .inl ⟨c,rfl⟩
 exact(h _ _ _ _).2 c
theorem Z2(E:fx){f:U→Nd→PS→Nat→PS×Oc}(h:∀u t S a,Up S (f u t S a))(u:U)(S:PS)(a:Nat):Up S (zw E f u S a):=by
 have b:∀o,Up S ({S with asked:=S.asked++[u]},o):=fun o=>⟨List.prefix_append _ _,ag _,ag _⟩;unfold zw;cases Xr S.inl (nE u) with
 |some t=>exact YF h _ _ _ _
 |none=>
  cases E.fZ[S.asked.length]? with
  |none=>exact b _
  |some g=>exact(b .no).t (YF h _ _ _ _)
theorem ZN(E:fx)(h:∀u t,RA b (fun S a=>H u t S a) (fun S a=>Q u t S a))(u:U)(S:PS)(a:Nat)(l:S.asked.length≤b):Cut b (zw E H u S a) (zw (Xt E b) Q u S a):=by
 unfold zw;cases Xr S.inl (nE u) with
 |some t=>exact YT h _ _ _ _ l
 |none=>
  have o:(S.asked++[u]).length=S.asked.length+1:=by rw[bB];rfl
  rcases aaN S.asked.length b with m|n
  ·have e:(Xt E b).fZ[S.asked.length]? =E.fZ[S.asked.length]? :=XR m;rw[e];cases E.fZ[S.asked.length]? with
   |none=>exact .inl ⟨by show(S.asked++[u]).length≤b;omega,rfl⟩
   |some g=>exact YT h _ _ _ _ (by show(S.asked++[u]).length≤b;omega)
  ·have e:(Xt E b).fZ[S.asked.length]? =none:=by rw[List.getElem?_eq_none_iff];show(E.fZ.take b).length≤_;rw[gu];omega
   rw[e];have i:(S.asked++[u]).take (b+1)=S.asked++[u]:=oe (by omega);cases E.fZ[S.asked.length]? with
   |none=>exact .inr ⟨by show b<(S.asked++[u]).length;omega,rfl,i.symm,ag _,ag _⟩
   |some g=>
    have c:=YF (f:=H) (fun u t S a=>(h u t S a).1) u {S with asked:=S.asked++[u]} a g;have j:=c.asked.length_le;have d:b+1≤(S.asked++[u]).length:=by omega
    refine .inr ⟨ej d j,rfl, ?_,c.work,c.aU⟩;show S.asked++[u]=_;rw[take_prefix c.asked d];exact i.symm
theorem XT(S:PS)(a:List (Bs×Bs×Bool))(o:Oc):Up S (S.read a,o):=⟨List.prefix_rfl,ag _,ag _⟩
theorem Yc(S:PS)(o:Oc):Up S (S.step,o):=⟨List.prefix_rfl,fB _,ag _⟩
def Zl(k:Nat)(deep b:Deep):Prop:=(deep=none∧b=none)∨∃f c,deep=some f∧b=some c∧∀u t,RA k (fun S a=>f u t S a) (fun S a=>c u t S a)
theorem Zm(E:fx)(base:U)(l:Zl b G n)(s:Bs):RA b (fun S a=>gB E G base S a s) (fun S a=>gB (Xt E b) n base S a s):=fun S a=>by
 have e:BR (Xt E b) s=BR E s:=rfl;simp only[gB,e];cases BR E s with
 |none=>exact⟨XT _ _ _,fun c=>.inl ⟨c,rfl⟩⟩
 |some r=>
  show Up S (if _ then _ else _)∧(_→Cut b (if _ then _ else _) (if _ then _ else _));have j:(Xt E b).inc=E.inc:=rfl;rw[j];by_cases d:(eW base r).2≠0∨E.inc≤(S.read (dd s)).aU
  ·rw[ah d,ah d];exact⟨XT _ _ _,fun c=>.inl ⟨c,rfl⟩⟩
  ·rw[ae d,ae d];rcases l with⟨rfl,rfl⟩|⟨f,m,rfl,rfl,i⟩
   ·exact⟨XT _ _ _,fun c=>.inl ⟨c,rfl⟩⟩
   ·have h:=Z2 E (f:=f) (fun u t S a=>(i u t S a).1) (eW base r).1 {S.read (dd s) with aU:=(S.read (dd s)).aU+1} a;exact⟨⟨h.asked,h.work,bP (fB _) h.aU⟩,fun c=>ZN E i _ _ _ c⟩
theorem Yf(E:fx)(k:Nat)(base:U)(i:Zl k G n):JD E (Xt E k) G n base (RA k) where
 nil:=Ya fun S _=>⟨rfl,ag _,ag _⟩
 no:=Ya fun S _=>⟨rfl,ag _,ag _⟩
 step:=fun h S a=>⟨(Yc S .no).t (h S.step a).1,fun b=>(h S.step a).2 b⟩
 text:=fun vs t=>Ya fun S a=>by
  unfold lS;split
  ·exact⟨rfl,ag _,ag _⟩
  ·split<;>exact⟨rfl,ag _,ag _⟩
 inl:=fun l t=>Ya fun S a=>by show(lV base l t S).asked=_∧_≤(lV base l t S).work∧_≤(lV base l t S).aU;unfold lV;split<;>exact⟨rfl,ag _,ag _⟩
 Tv:=Zm E base i
 seq:=Z1
 Tu:=aaa
 test:=fun l c m d o j i S a=>by
  have e:∀u,gr (Xt E k).h (Xt E k).t (Xt E k).fs u=gr E.h E.t E.fs u:=fun _=>rfl;simp only[AA];split
  ·exact⟨(Yc S .no).t (i _ _).1,fun b=>(i _ _).2 b⟩
  ·show Up S (if _ then _ else _)∧(_→Cut k (if _ then _ else _) (if _ then _ else _));rw[show gr (Xt E k).h (Xt E k).t (Xt E k).fs=gr E.h E.t E.fs from rfl];by_cases h:oz (bt (gr E.h E.t E.fs) (gd l).1).1=true
   ·rw[ah h,ah h];exact⟨(Yc S .no).t ((XT _ _ .no).t (j _ _).1),fun b=>(j _ _).2 b⟩
   ·rw[ae h,ae h];exact⟨(Yc S .no).t ((XT _ _ .no).t (i _ _).1),fun b=>(i _ _).2 b⟩
theorem YG(E:fx)(k:Nat):∀d,Zl k (rl E d) (rl (Xt E k) d)
 |0=>.inl ⟨rfl,rfl⟩
 |d+1=>.inr ⟨_,_,rfl,rfl,fun u t=>(vg (Yf E k u (YG E k d)) t).1 false⟩
structure X9 (E:fx) (S:PS):Prop where
 asked:S.asked.length≤S.aU
 aU:S.aU≤E.inc
 ok:∀u∈S.asked,aQ u=0
def Yz(E:fx)(a:Nat)(r:PS×Oc):Prop:=X9 E r.1∧match r.2 with
 |.yes t=>r.1.asked.length≤E.fZ.length∧a+t.length≤oP
 |.no=>r.1.asked.length≤E.fZ.length
 |.wait=>r.1.asked.length=E.fZ.length+1
def Zp(E:fx)(c b:Cm):Prop:=∀S a,X9 E S→S.asked.length≤E.fZ.length→a≤oP→Yz E a (c S a)
theorem Yg(h:X9 Y d)(c:d.asked.length≤Y.fZ.length)(t:Bs)(a:Nat):Yz Y a (d,jq t a):=by
 refine⟨h, ?_⟩;unfold jq;by_cases b:oP<a+t.length
 ·simp only[ah b];exact c
 ·simp only[ae b];exact⟨c,by omega⟩
theorem X9.read{E:fx}{S:PS}(h:X9 E S)(us):X9 E (S.read us):=⟨h.asked,h.aU,h.ok⟩
theorem X9.step{E:fx}{S:PS}(h:X9 E S):X9 E S.step:=⟨h.asked,h.aU,h.ok⟩
theorem zS(h:(ju i).2=0):aQ (ju i).1=0:=by
 unfold ju at h⊢;split at h
 ·rename_i a;rw[ah a];have b:=qT (s:=i) (v:=(cZ i).1) (by rw[←a]);exact(eC _).2 (Jc b.ok)
 ·rename_i a;exact(a h).elim
theorem CY(h:(hZ z).2=0):aQ (hZ z).1=0:=by
 unfold hZ at h⊢;split at h
 ·rename_i a;rw[ah a];exact(eC _).2 (Jc ((eC _).1 a))
 ·rename_i a;exact(a h).elim
theorem Jd(h:(eW z i).2=0):aQ (eW z i).1=0:=by
 unfold eW at h⊢;split at h
 ·exact absurd h (by decide)
 rename_i c;split at h
 ·rename_i d;rw[ae c,ah d];unfold wM at h⊢;split at h
  ·rename_i b;rw[ah b];split at h
   ·rename_i a;rw[ah a];exact zS h
   ·exact absurd h (by decide)
  ·rename_i b;rw[ae b];split at h
   ·rename_i a;rw[ah a];exact zS h
   ·rename_i a;rw[ae a];exact CY h
 ·exact absurd h (by decide)
theorem Z3(m:Zp Y J l)(n:Zp Y B C):Zp Y (K9 J B) (K9 l C):=by
 intro S a i j k;rw[Yb];have e:=m S a i j k;revert e;obtain⟨h,o⟩:=J S a;intro e;cases o with
 |no=>exact e
 |wait=>exact e
 |yes t=>
  have b:=n h (a+t.length) e.1 e.2.1 e.2.2;show Yz Y a (X8 t (B h (a+t.length)));revert b;obtain⟨p,o2⟩:=B h (a+t.length);intro b;cases o2 with
  |no=>exact b
  |wait=>exact b
  |yes q=>exact⟨b.1,b.2.1,by have:=b.2.2;rw[bB];omega⟩
theorem aab(k:Zp Y J l)(m:Zp Y B C):Zp Y (RE J B) (RE l C):=by
 intro S a i j e;have b:=k S a i j e;unfold RE;revert b;obtain⟨h,o⟩:=J S a;intro b;cases o with
 |no=>exact m h a b.1 b.2 e
 |wait=>exact b
 |yes t=>exact b
theorem Zq(h:∀u t,Zp Y (fun S a=>H u t S a) (fun S a=>H u t S a))(u:U)(S:PS)(a:Nat)(g:j5)(b:X9 Y S)(c:S.asked.length≤Y.fZ.length)(d:a≤oP):Yz Y a (zx H u S a g):=by
 unfold zx;split
 ·exact⟨b,c⟩
 split
 ·exact Yg b c _ _
 split
 ·exact⟨b,c⟩
 exact h _ _ _ _ b c d
theorem aac(h:∀u t,Zp Y (fun S a=>H u t S a) (fun S a=>H u t S a))(u:U)(k:aQ u=0)(S:PS)(a:Nat)(l:S.asked.length+1≤S.aU)(c:X9 Y S)(j:S.asked.length≤Y.fZ.length)(d:a≤oP):Yz Y a (zw Y H u S a):=by
 have m:(S.asked++[u]).length=S.asked.length+1:=by rw[bB];rfl
 have i:X9 Y {S with asked:=S.asked++[u]}:=⟨by show(S.asked++[u]).length≤S.aU;omega,c.aU,fun v b=>by
  rcases gZ.1 b with b|b
  ·exact c.ok v b
  ·rw[fj.1 b];exact k⟩
 unfold zw;cases Xr S.inl (nE u) with
 |some t=>exact Zq h _ _ _ _ c j d
 |none=>
  cases e:Y.fZ[S.asked.length]? with
  |none=>rw[List.getElem?_eq_none_iff] at e;exact⟨i,by show(S.asked++[u]).length=_;omega⟩
  |some g=>have:=(cH.1 e).1;exact Zq h _ _ _ _ i (by show(S.asked++[u]).length≤_;omega) d
def Zr(E:fx)(deep:Deep):Prop:=∀f,deep=some f→∀u t,Zp E (fun S a=>f u t S a) (fun S a=>f u t S a)
theorem Zs(E:fx)(base:U)(j:Zr E G)(s:Bs):Zp E (fun S a=>gB E G base S a s) (fun S a=>gB E G base S a s):=fun S a b c h=>by
 simp only[gB];cases BR E s with
 |none=>exact⟨b.read _,c⟩
 |some r=>
  show Yz E a (if _ then _ else _);by_cases d:(eW base r).2≠0∨E.inc≤(S.read (dd s)).aU
  ·rw[ah d];exact⟨b.read _,c⟩
  ·rw[ae d];cases G with
   |none=>exact⟨b.read _,c⟩
   |some f=>have i:(eW base r).2=0:=Decidable.not_not.1 fun e=>d (.inl e);have k:¬E.inc≤S.aU:=fun e=>d (.inr e);have l:=b.asked;exact aac (j f rfl) _ (Jd i) _ a (by show S.asked.length+1≤S.aU+1;omega) ⟨by show S.asked.length≤S.aU+1;omega,by show S.aU+1≤E.inc;omega,b.ok⟩ c h
theorem YC(E:fx)(base:U)(k:Zr E G):JD E E G G base (Zp E) where
 nil:=fun S a b i j=>⟨b,i,by simpa using j⟩
 no:=fun S a b i j=>⟨b,i⟩
 step:=fun h S a b i j=>h S.step a b.step i j
 text:=fun vs t S a b i j=>by
  show Yz E a (lS E vs t S a);unfold lS;split
  ·exact Yg b i _ _
  ·split
   ·exact⟨b.read _,i⟩
   ·exact Yg (b.read _) i _ _
 inl:=fun l t S a b i j=>by
  have e:(lV base l t S).asked=S.asked∧(lV base l t S).aU=S.aU:=by unfold lV;split<;>exact⟨rfl,rfl⟩
  refine⟨⟨?_, ?_, ?_⟩, ?_,by simpa using j⟩
  ·show(lV base l t S).asked.length≤(lV base l t S).aU;rw[e.1,e.2];exact b.asked
  ·show(lV base l t S).aU≤_;rw[e.2];exact b.aU
  ·show∀u∈(lV base l t S).asked,_;rw[e.1];exact b.ok
  ·show(lV base l t S).asked.length≤_;rw[e.1];exact i
 Tv:=Zs E base k
 seq:=Z3
 Tu:=aab
 test:=fun l c n d o m k S a b i j=>by
  show Yz E a (if _ then _ else _);split
  ·exact k _ _ b.step i j
  ·split
   ·exact m _ _ (b.step.read _) i j
   ·exact k _ _ (b.step.read _) i j
theorem Zt(E:fx):∀d,Zr E (rl E d)
 |0=>fun f h=>by cases h
 |d+1=>fun f h u t=>by cases h;exact(vg (YC E u (Zt E d)) t).1 false
theorem ZO(E:fx)(d:Nat)(base:U)(t:Nd):Yz E 0 (bT E (rl E d) base t false N8 0):=
 (vg (YC E base (Zt E d)) t).1 false N8 0 ⟨ag _,aH _,fun u h=>by cases h⟩ (aH _) (aH _)
theorem ZP(E:fx)(d:Nat)(base:U)(t:Nd)(vs:Bool)(S:PS)(a:Nat):Up S (oT E (rl E d) base t vs S a):=
 ((vg (Yf E 0 base (YG E 0 d)) t).2 vs S a).1
def RZ(c b:Cm):Prop:=∀S a,(c S a).1.aU=S.aU
theorem Zu(E:fx)(base:U):JD E E none none base RZ where
 nil:=fun S a=>rfl
 no:=fun S a=>rfl
 step:=fun h S a=>h S.step a
 text:=fun vs t S a=>by
  show(lS E vs t S a).1.aU=_;unfold lS;split
  ·rfl
  ·split<;>rfl
 inl:=fun l t S a=>by show(lV base l t S).aU=_;unfold lV;split<;>rfl
 Tv:=fun s S a=>by
  simp only[gB];cases BR E s with
  |none=>rfl
  |some r=>show(if _ then _ else _:PS×Oc).1.aU=_;split<;>rfl
 seq:=fun{c k d m} i e S a=>by
  rw[Yb];have b:=i S a;revert b;obtain⟨j,o⟩:=c S a;intro b;cases o with
  |no=>exact b
  |wait=>exact b
  |yes t=>show(X8 t (d j (a+t.length))).1.aU=_;rw[Xx,e];exact b
 Tu:=fun{c k d m} i e S a=>by
  unfold RE;have b:=i S a;revert b;obtain⟨j,o⟩:=c S a;intro b;cases o with
  |no=>show(d j a).1.aU=_;rw[e];exact b
  |wait=>exact b
  |yes t=>exact b
 test:=fun l c k d m i e S a=>by
  show(if _ then _ else _:PS×Oc).1.aU=_;split
  ·exact e _ _
  ·split
   ·exact i _ _
   ·exact e _ _
theorem Zv(E:fx)(d:Nat)(base:U)(h:j.kind=1):1≤(bT E (rl E d) base j false N8 0).1.work:=by obtain⟨k,p,b,l,a⟩:=j;obtain rfl:k=1:=h;rw[xy,ae (by decide),ae (by decide),ae (by decide),ae (by decide),ae (by decide),ae (by decide)];have:=(ZP E d base (.mk 1 p b l a) (false||decide ((1:Int)=13)) N8.step 0).work;rw[xx] at this;exact this
theorem YH(E:fx)(d:Nat)(base:U)(e:xe j=0):
 (qK E d base j).aU≤E.inc∧(d=0→(qK E d base j).aU=0)∧(qK E d base j).asked.length≤(qK E d base j).aU∧(qK E d base j).out.length≤oP∧
 ((qK E d base j).ok=true→(qK E d base j).done=true)∧((qK E d base j).ok=false→(qK E d base j).out=[])∧1≤(qK E d base j).work∧(∀u∈(qK E d base j).asked,aQ u=0)∧
 ((qK E d base j).done=true∨(qK E d base j).asked.length=E.fZ.length+1):=by
 have i:j.kind=1:=by
  unfold xe at e;by_cases i:j.kind=1
  ·exact i
  ·rw[ae i] at e;exact absurd e (by decide)
 have k:=ZO E d base j;have c:d=0→(bT E (rl E d) base j false N8 0).1.aU=0:=fun h=>by subst h;exact(vg (Zu E base) j).1 false N8 0
 have b:=Zv E d base i;unfold qK;rw[ah e];revert k c b;obtain⟨S,o⟩:=bT E (rl E d) base j false N8 0;intro k c b;obtain⟨a,l⟩:=k;cases o with
 |yes x=>exact⟨a.aU,c,a.asked,by have:=l.2;show x.length≤_;omega,fun _=>rfl,fun h=>(by cases h),b,a.ok,.inl rfl⟩
 |no=>exact⟨a.aU,c,a.asked,aH _,fun h=>(by cases h),fun _=>rfl,b,a.ok,.inl rfl⟩
 |wait=>exact⟨a.aU,c,a.asked,aH _,fun h=>(by cases h),fun _=>rfl,b,a.ok,.inr l⟩
end Go.Proofs.YtlemddnecmmfgaaGreatDoor
namespace Go.Proofs.YtlemddnecmmfgaaGreatDoor
open Go.RowKit
variable{a:Nat}{C:Obj}{z:U}{d:aaK}{Y:fx}
def Ju(E:ME)(deep:Deep)(dp:Nat):Prop:=(deep=none∧E.dep≤dp)∨∃d2,deep=some (fun u t S a=>bT E.env d2 u t false S a)∧dp<E.dep∧∀u n,DO u→sy n→kl E d2 u (dp+1) n
def Jv(deep:Deep)(S:PS)(k:(U→Nd→PS→Nat→PS×Oc)→PS×Oc):PS×Oc:=match deep with|none=>(S,.no)|some f=>k f
theorem KT(P:fx)(deep:Deep)(base:U)(S:PS)(a:Nat)(s:Bs):gB P deep base S a s=if(eA P.h P.t P.fs s).2=0 then
 (if(eW base (eA P.h P.t P.fs s).1).2≠0∨P.inc≤(S.read (dd s)).aU then(S.read (dd s),.no) else Jv deep (S.read (dd s)) fun f=>zw P f (eW base (eA P.h P.t P.fs s).1).1 {S.read (dd s) with aU:=(S.read (dd s)).aU+1} a)
 else(S.read (dd s),.no):=by
 unfold gB BR;dsimp only;by_cases h:(eA P.h P.t P.fs s).2=0
 ·rw[ah h,ah h];rfl
 ·rw[ae h,ae h]
structure TS (E:ME) (W:aaK) (M0:List Nat) (wx:aaK) (M:List Nat) (S:PS) (out:Bs) (bm bp:Nat) (base:U) (dp:Nat) (vs:Bool):Prop where
 mx:MX E wx M S out
 st:bC M0 W M wx
 hm:wx.heap[bm]? =some (.cells #[.pointer (some ⟨E.mb,0,none⟩)] 81)
 hp:wx.heap[bp]? =some (.cells (zv base dp vs).toArray 109)
 nm:bm∉M
 np:bp∉M
section
variable{E:ME}{W wx wy:aaK}{M0 M M':List Nat}{S S':PS}{out out':Bs}{bm bp:Nat}{base:U}{dp:Nat}{vs:Bool}
theorem TS.stay(h:TS E W M0 wx M S out bm bp base dp vs)(d:MX E wy M' S' out')(a:bC M wx M' wy):TS E W M0 wy M' S' out' bm bp base dp vs:=by have b:=a.cO bm (aB.1 h.hm).1 h.nm;have c:=a.cO bp (aB.1 h.hp).1 h.np;exact⟨d,h.st.t a,b.2.t h.hm,c.2.t h.hp,b.1,c.1⟩
theorem TS.next(h:TS E W M0 wx M S out bm bp base dp vs)(a:Below wx.heap.size wx wy):TS E W M0 wy M S out bm bp base dp vs:=h.stay (h.mx.next a) (bC.ai a)
theorem T9(H:MX E W M S out)(A B:Obj)(d:A=.cells #[.pointer (some ⟨E.mb,0,none⟩)] 81)(e:B=.cells (zv base dp vs).toArray 109):TS E W M ((W.alloc A).alloc B) M S out W.heap.size (W.heap.size+1) base dp vs:=by
 have a:Below W.heap.size W ((W.alloc A).alloc B):=(az W A).alloc (by rw[aO];omega) B;have c:∀b,W.heap.size≤b→b∉M:=fun b h i=>by have:=(H.mlt b i).2;omega
 subst d e;exact⟨H.next a,bC.ai a,jX W _ _,iT W _ _,c _ (ag _),c _ (fB _)⟩
theorem TS.no(h:TS E W M0 wx M S out bm bp base dp vs){a:Bs}(c:out=a){R:PS×Oc}(b:R=(S,.no)):fy E M0 W a R (.returned (.bool false)) wx:=by subst c b;exact⟨rfl,M,h.mx,h.st⟩
theorem TS.ret(h:TS E W M0 wx M S out bm bp base dp vs){R:PS×Oc}{a:Ending}(b:fy E M wx out R a wy):fy E M0 W out R a wy:=fy.pre h.st b
end
def KX(M:List Nat)(w:aaK)(b:Nat)(O:Obj):Prop:=w.heap[b]? =some O∧b∉M
theorem KX.stay{M M':List Nat}{w':aaK}(h:KX M d a C)(e:bC M d M' w'):KX M' w' a C:=by have c:=e.cO a (aB.1 h.1).1 h.2;exact⟨c.2.t h.1,c.1⟩
theorem KX.next{M:List Nat}{w w':aaK}(h:KX M w a C)(c:Below w.heap.size w w'):KX M w' a C:=h.stay (bC.ai c)
theorem rk{E:ME}{M:List Nat}{S:PS}{out:Bs}(H:MX E d M S out)(O:Obj):KX M (d.alloc O) d.heap.size O:=⟨au d O,fun a=>by have:=(H.mlt _ a).2;omega⟩
theorem MX.more{E:ME}{w:aaK}{M:List Nat}{S:PS}{out:Bs}(H:MX E w M S out):MX E (w.setCell ⟨E.mb,4,none⟩ (.int .i64 ((S.aU:Int)+1))) M {S with aU:=S.aU+1} out∧bC M w M (w.setCell ⟨E.mb,4,none⟩ (.int .i64 ((S.aU:Int)+1))):=by obtain⟨av,rv,b,a,rfl⟩:=H;have h:=a.more;rw[show((S.aU+1:Nat):Int)=(S.aU:Int)+1 by omega] at h;exact⟨⟨av,rv,b,h.1,rfl⟩,h.2⟩
theorem KU{l:List (Bs×Bs)}{k t:Bs}(h:Xr l k=some t):∃x∈l,x.2=t:=by unfold Xr at h;obtain⟨x,a,b⟩:=qG.1 h;exact⟨x,List.mem_reverse.1 (List.mem_of_find?_eq_some a),b⟩
theorem KV{S c:PS}{e:Option j5}{r:Nat}(h:bq a S r)(d:S.asked.length+1≤S.aU)(b:sx Y z S=(c,e)):bq a c r:=by
 unfold sx at b;split at b
 ·cases b;exact h
 ·cases b;exact⟨h.reads,h.work,h.inl,by show(S.asked++[z]).length≤S.aU;rw[bB];exact d,h.aU⟩
theorem KW{S b:PS}{g:j5}(h:∀x∈S.inl,x.2.length≤65536)(c:∀g∈Y.fZ,g.body.length≤1000000)(a:sx Y z S=(b,some g)):g.body.length≤1000000:=by
 unfold sx at a;split at a
 ·rename_i t d;cases a;obtain⟨x,e,rfl⟩:=KU d;have:=h x e;show x.2.length≤_;omega
 ·injection a with _ a;exact c g (eQ a)
theorem Ua{E:ME}{deep:Deep}{base:U}{dp:Nat}(HE:QQ E)(HD:Ju E deep dp)(hb:DO base)(b8:dp≤1000){W:aaK}{M:List Nat}{S:PS}{out:Bs}(bk:MX E W M S out)(s:Bs)(hs:s.length≤1000000)(hw:bq E.inc S (s.length+1))(ho:out.length≤262144)(vs:Bool):
 Calls Tryz.prog 99 #[.pointer (some ⟨E.mb,0,none⟩),.string ⟨s.toArray⟩,Tp base dp vs] W (fy E M W out (gB E.env deep base S out.length s)):=by
 have HT:=ad (T9 (base:=base) (dp:=dp) (vs:=vs) bk _ _ rfl rfl);have bg:=KT E.env deep base S out.length s;obtain⟨R,hR⟩:∃R,gB E.env deep base S out.length s=R:=⟨_,rfl⟩;rw[hR] at bg⊢;have HR:=ad bg;have D:=ad HE;have bn:=ad HD;have cd:=ad hb;have ce:=ad b8;have an:=ad (show bq E.inc (S.read (dd s)) 0 from bq.read (hw.less (by have:=nD s;omega)));obtain⟨c,a7⟩:∃c,S.read (dd s)=c:=⟨_,rfl⟩;rw[a7] at HR an;have cl:=ad a7;have bv:=ad (show S.reads.length≤90000000 by have:=hw.reads;omega);have bx:=ad hs;have ay:=ad ho;clear bk bg hR HE HD hb b8 hs hw ho a7;go_enter Tryz.func99,Tryz.ntmps99;go_upto_region 1 with fail;generalize(W.alloc (.cells #[.pointer (some ⟨E.mb,0,none⟩)] 81)).alloc (.cells (zv base dp vs).toArray 109)=W1 at*;generalize W.heap.size=bm at*;have k:=aj HT.o.hm 0;have ab:=ad (DH D.o HT.o.mx s bx.o bv.o);rw[cl.o] at ab;have a6:=ad (xt E.h E.t E.fs s);obtain⟨V,hV⟩:∃V,eA E.h E.t E.fs s=V:=⟨_,rfl⟩;have a1:=ad (show R=if V.2=0 then(if(eW base V.1).2≠0∨E.inc≤c.aU then(c,.no) else Jv deep c fun f=>zw E.env f (eW base V.1).1 {c with aU:=c.aU+1} out.length) else(c,.no) by rw[←hV];exact HR.o);rw[hV] at ab a6;obtain⟨O,e⟩:=V;clear hV HR bx bv;go_wp2_with fail;refine ab.o.m ?_;rintro K w2⟨rfl,M2,cc,cb⟩;have H:=ad (HT.o.stay cc cb);clear cc cb k ab HT;by_cases he:e=0
 ·subst he;have aN:=ad (DP base O w2 (D.o.gl.gx.next H.o.mx.up) cd.o (by have h:O.length≤262144:=a6.o;omega));have F:=ad (show R=(if(eW base O).2≠0∨E.inc≤c.aU then(c,.no) else Jv deep c fun f=>zw E.env f (eW base O).1 {c with aU:=c.aU+1} out.length) from a1.o);have a0:=ad (fun h:(eW base O).2=0=>pZ ((eC _).1 (Jd h)));obtain⟨Q,r⟩:∃Q,eW base O=Q:=⟨_,rfl⟩;rw[r] at aN F a0;obtain⟨u,e2⟩:=Q;clear r a1 a6;obtain⟨p0,p1,p2,p3,p4,p5⟩:=qX6 (aj H.o.hp) 0 1 2 3 4 5;go_wp2_with fail;refine aN.o.m ?_;rintro K w3⟨rfl,a9⟩;clear p0 p1 p2 p3 p4 p5 aN;have b2:Hid (KX M2 (w3.alloc (.cells #[.string ⟨u.scheme.toArray⟩,.string ⟨u.host.toArray⟩,.int .i64 u.port,.string ⟨u.path.toArray⟩,.string ⟨u.query.toArray⟩,.bool u.hq] 23)) w3.heap.size (.cells (qz u).toArray 23)):=ad (rk (H.o.next a9).mx (.cells (qz u).toArray 23));have p:=ad ((H.o.next a9).next (az w3 (.cells #[.string ⟨u.scheme.toArray⟩,.string ⟨u.host.toArray⟩,.int .i64 u.port,.string ⟨u.path.toArray⟩,.string ⟨u.query.toArray⟩,.bool u.hq] 23)));clear a9 H;go_upto_region 5 with fail;generalize w3.alloc (.cells #[.string ⟨u.scheme.toArray⟩,.string ⟨u.host.toArray⟩,.int .i64 u.port,.string ⟨u.path.toArray⟩,.string ⟨u.query.toArray⟩,.bool u.hq] 23)=z at*;generalize w3.heap.size=T at*;have k:=aj p.o.hm 0;have p6:=aj p.o.hp 6;have b4:z.cell? ⟨E.mb,4,none⟩=some (.int .i64 (c.aU:Int)):=by obtain⟨av,rv,ov,j,_⟩:=p.o.mx;exact tH _ _ 4 _ _ _ j.box
  have cn:z.cell? ⟨E.mb,11,none⟩=some (.int .i64 (E.inc:Int)):=by obtain⟨av,rv,ov,j,_⟩:=p.o.mx;exact tH _ _ 11 _ _ _ j.box
  have co:z.cell? ⟨E.mb,12,none⟩=some (.int .i64 (E.dep:Int)):=by obtain⟨av,rv,ov,j,_⟩:=p.o.mx;exact tH _ _ 12 _ _ _ j.box
  by_cases bd:e2=0
  ·subst bd;by_cases ap:E.inc≤c.aU
   ·have G:=ad (show R=(c,.no) by rw[F.o];exact ah (.inr ap));have d:=ad (fun n=>(p.o.next (ax z n)).no rfl G.o);have i1:(E.inc:Int)≤(c.aU:Int):=by omega
    clear ap
    go_quiet (fail)
    go_wp2_with fail;go_ret;exact d.o _
   ·have i1:¬(E.inc:Int)≤(c.aU:Int):=by omega
    have bp:=ad ap;have G:=ad (show R=(Jv deep c fun f=>zw E.env f u {c with aU:=c.aU+1} out.length) by rw[F.o];exact ae (by rintro(h|h);exact h rfl;exact bp.o h));clear ap;by_cases bb:E.dep≤dp
    ·have af:=ad (show R=(c,.no) by
      rw[G.o];rcases bn.o with⟨h,_⟩|⟨d2,_,h,_⟩
      ·rw[h];rfl
      ·omega)
     have d:=ad (fun n=>(p.o.next (ax z n)).no rfl af.o);have i2:(E.dep:Int)≤(dp:Int):=by omega
     clear bb
     go_quiet (fail)
     go_wp2_with fail;go_ret;exact d.o _
    ·have i2:¬(E.dep:Int)≤(dp:Int):=by omega
     have cs:=bn.o;rcases cs with⟨_,h⟩|⟨d2,b7,ct,b9⟩
     ·exact absurd h bb
     have ch:=ad b9;have af:=ad (show R=zw E.env (fun u t S a=>bT E.env d2 u t false S a) u {c with aU:=c.aU+1} out.length by rw[G.o,b7];rfl);have i3:(c.aU:Int)≤64:=by have:=an.o.aU;have:=D.o.i1;omega
     have i4:(0:Int)≤(c.aU:Int):=by omega
     have a2:=ad (bq.more an.o (by have:=bp.o;omega));have bl:=ad (show({c with aU:=c.aU+1}:PS).asked.length+1≤({c with aU:=c.aU+1}:PS).aU by have h:=an.o.asked;show c.asked.length+1≤c.aU+1;omega);clear bb b7 b9 ct G F
     go_quiet (fail)
     go_upto_region 7 with fail;have I:=ad (p.o.next (ax z nq));have b3:=ad (b2.o.next (ax z nq));generalize z.drewN nq=W5 at*;clear k p6 b4 cn co p b2;have ao:=ad I.o.mx.more;have X:=ad (I.o.stay ao.o.1 ao.o.2);have B:=ad (b3.o.stay ao.o.2);have k:=aj I.o.hm 0;have b4:W5.cell? ⟨E.mb,4,none⟩=some (.int .i64 (c.aU:Int)):=by obtain⟨av,rv,ov,j,_⟩:=I.o.mx;exact tH _ _ 4 _ _ _ j.box
     have f4:W5.frozen? ⟨E.mb,4,none⟩=false:=by obtain⟨av,rv,ov,j,_⟩:=I.o.mx;exact aA j.box
     go_upto_region 8 with fail;generalize W5.setCell ⟨E.mb,4,none⟩ (.int .i64 ((c.aU:Int)+1))=J at*;generalize({c with aU:=c.aU+1}:PS)=S3 at*;clear k b4 f4 I b3 ao i1 i2 i3 i4;have k:=aj X.o.hm 0;have u0:J.cell? ⟨T,0,none⟩=some (.string ⟨u.scheme.toArray⟩):=tH _ _ 0 _ _ _ B.o.1;have u1:J.cell? ⟨T,1,none⟩=some (.string ⟨u.host.toArray⟩):=tH _ _ 1 _ _ _ B.o.1;have u2:J.cell? ⟨T,2,none⟩=some (.int .i64 u.port):=tH _ _ 2 _ _ _ B.o.1;have u3:J.cell? ⟨T,3,none⟩=some (.string ⟨u.path.toArray⟩):=tH _ _ 3 _ _ _ B.o.1;have u4:J.cell? ⟨T,4,none⟩=some (.string ⟨u.query.toArray⟩):=tH _ _ 4 _ _ _ B.o.1;have u5:J.cell? ⟨T,5,none⟩=some (.bool u.hq):=tH _ _ 5 _ _ _ B.o.1;have aq:=ad (T8 D.o X.o.mx u (a0.o rfl) (by have:=bl.o;have:=a2.o.aU;have:=D.o.i1;omega));obtain⟨Q,r⟩:∃Q,sx E.env u S3=Q:=⟨_,rfl⟩;have bs:=ad r;have ai:=ad (af.o.t (N0 E.env _ u S3 out.length));rw[r] at aq ai;obtain⟨C,og⟩:=Q;have ck:=ad (KV a2.o bl.o r);clear r af;go_wp2_with fail;refine aq.o.m ?_;intro K w8 L;clear k u0 u1 u2 u3 u4 u5;cases og with
     |none=>
      obtain⟨rfl,M8,aa,N⟩:=L;have H8:=ad (show fy E M W out R (.panicked [gA]) w8 by rw[ai.o];exact⟨rfl,M8,[],by rw[jm];exact aa,X.o.st.t N⟩)
      clear aa N;go_wp2_with fail;exact⟨rfl,H8.o⟩
     |some g=>
      obtain⟨rfl,M8,aa,N⟩:=L;have al:=ad (show R=zx (fun u t S a=>bT E.env d2 u t false S a) u C out.length g from ai.o);have bo:=ad (KW a2.o.inl D.o.Vd bs.o);have a4:=ad (X.o.stay aa N);have b5:=ad (B.o.stay N);clear aa N ai aq X B;go_upto_region 9 with fail;have ac:=ad (rk a4.o.mx (.cells #[.string ⟨g.body.toArray⟩,.bool g.F3,.bool g.ok] 62));have y:=ad (a4.o.next (az w8 (.cells #[.string ⟨g.body.toArray⟩,.bool g.F3,.bool g.ok] 62)));have b6:=ad (b5.o.next (az w8 (.cells #[.string ⟨g.body.toArray⟩,.bool g.F3,.bool g.ok] 62)));generalize w8.alloc (.cells #[.string ⟨g.body.toArray⟩,.bool g.F3,.bool g.ok] 62)=w9 at*;generalize w8.heap.size=gb at*;clear a4 b5 bs;obtain⟨body,F3,ok⟩:=g;have g0:w9.cell? ⟨gb,0,none⟩=some (.string ⟨body.toArray⟩):=tH _ _ 0 _ _ _ ac.o.1;have g1:w9.cell? ⟨gb,1,none⟩=some (.bool F3):=tH _ _ 1 _ _ _ ac.o.1;have g2:w9.cell? ⟨gb,2,none⟩=some (.bool ok):=tH _ _ 2 _ _ _ ac.o.1;have k:=aj y.o.hm 0;cases ok
      ·have d:=ad (y.o.no rfl (show R=(C,.no) from al.o));go_wp2_with fail;go_ret;exact d.o
      ·cases F3
       ·have x:=ad (show R=(C,jq body out.length) from al.o);have HW:=ad (xq y.o.mx body (by have h:body.length≤1000000:=bo.o;omega) (by have:=ay.o;omega));rcases xr body out.length with Z|Z
        ·rw[Z] at HW x;clear Z;go_wp2_with fail;refine HW.o.m ?_;rintro K A⟨rfl,i⟩;have d:=ad (show fy E M W out R (.returned (.bool false)) A by rw[x.o];exact y.o.ret ⟨rfl,i⟩);clear i;go_wp2_with fail;go_ret;exact d.o
        ·rw[Z] at HW x;clear Z;go_wp2_with fail;refine HW.o.m ?_;rintro K A⟨rfl,i⟩;have d:=ad (show fy E M W out R (.returned (.bool true)) A by rw[x.o];exact y.o.ret ⟨rfl,i⟩);clear i;go_wp2_with fail;go_ret;exact d.o
       ·have HP:=ad (Am w9 (D.o.gl.next y.o.mx.up) body bo.o);have a5:=ad (fun h:(gW body).2.2=0=>sA h);have x:=ad (show R=if(gW body).2.2≠0 then(C,.no) else bT E.env d2 u (gW body).1 false C out.length from al.o);obtain⟨Q,r⟩:∃Q,gW body=Q:=⟨_,rfl⟩;rw[r] at HP a5 x;obtain⟨t,pl,e3⟩:=Q;clear r al;go_wp2_with fail;refine HP.o.m ?_;rintro K A⟨a8,v,rfl,bf⟩;obtain⟨na,nc,ka,kc,rfl,-,-⟩:=bf.shape;have a3:=ad (y.o.next a8);have b0:=ad (b6.o.next a8);have Y:=az A (.cells #[.int .i64 t.kind,.int .i64 t.place,.string ⟨t.text.toArray⟩,.slice na t.attrs.length nc,.slice ka t.kids.length kc] 37);have br:Hid (KX M8 (A.alloc (.cells #[.int .i64 t.kind,.int .i64 t.place,.string ⟨t.text.toArray⟩,.slice na t.attrs.length nc,.slice ka t.kids.length kc] 37)) A.heap.size (.cells (eH t.kind t.place t.text (.slice na t.attrs.length nc) (.slice ka t.kids.length kc)).toArray 37)):=ad (rk a3.o.mx (.cells (eH t.kind t.place t.text (.slice na t.attrs.length nc) (.slice ka t.kids.length kc)).toArray 37));have l:=ad (a3.o.next Y);have b1:=ad (b0.o.next Y);have ci:=ad (eD (A':=fun b=>b∉M8) Y.size (fun b h1 i=>⟨fun j=>by have:=(y.o.mx.mlt b j).2;have h1:w9.heap.size≤b:=h1;omega,Y.block b i⟩) t _ bf);clear a8 bf Y g0 g1 g2 k y b6 a3 b0 ac;by_cases be:e3=0
        ·subst be;obtain⟨ca,cx⟩:=a5.o rfl;have am:=ad (show R=bT E.env d2 u t false C out.length from x.o);go_upto_region 14 with fail;generalize A.alloc (.cells #[.int .i64 t.kind,.int .i64 t.place,.string ⟨t.text.toArray⟩,.slice na t.attrs.length nc,.slice ka t.kids.length kc] 37)=cK at*;generalize A.heap.size=tb at*;have bJ:=ad (xu l.o.mx (by have:=ay.o;omega) _ _ (fun vs w=>cP Tryz.func138 (by kernel_rfl) rfl vs w) (Rq ce.o l.o.mx (ch.o u t (.inl (a0.o trivial)) ca) l.o.hm br.o.1 ci.o b1.o.1 l.o.hp (ck.o.less (by unfold ie;omega)) ay.o));obtain⟨q,hq⟩:∃q,bT E.env d2 u t false C out.length=q:=⟨_,rfl⟩;rw[hq] at bJ am;obtain⟨S5,oc⟩:=q;have k:=aj l.o.hm 0;clear hq ca cx x a5;go_wp2_with fail;refine bJ.o.m ?_;intro K bi L;clear k;cases oc with
         |yes t5=>obtain⟨rfl,i⟩:=L;have d:=ad (show fy E M W out R (.returned (.bool true)) bi by rw[am.o];exact l.o.ret ⟨rfl,i⟩);clear i;go_wp2_with fail;go_ret;exact d.o
         |no=>obtain⟨rfl,i⟩:=L;have d:=ad (show fy E M W out R (.returned (.bool false)) bi by rw[am.o];exact l.o.ret ⟨rfl,i⟩);clear i;go_wp2_with fail;go_ret;exact d.o
         |wait=>obtain⟨rfl,i⟩:=L;have d:=ad (show fy E M W out R (.panicked [gA]) bi by rw[am.o];exact l.o.ret ⟨rfl,i⟩);clear i;go_wp2_with fail;exact⟨rfl,d.o⟩
        ·have q1:=eS be;have d:=ad (l.o.no rfl (show R=(C,.no) by rw[x.o];exact ah be));clear l b1 br;go_wp2_with fail;go_ret;exact d.o
  ·have G:=ad (show R=(c,.no) by rw[F.o];exact ah (.inl bd));have q1:=eS bd;have d:=ad (fun n=>(p.o.next (ax z n)).no rfl G.o)
   go_quiet (fail)
   go_wp2_with fail;go_ret;exact d.o _
 ·have F:=ad (show R=(c,.no) by rw[a1.o];exact ae he);have q1:=eS he;have d:=ad (H.o.no rfl F.o);clear he;go_wp2_with fail;go_ret;exact d.o
variable{d:Bs}{A:List Bs}{b:Nat}
def lU(P:fx)(deep:Deep)(base:U)(a:List bQ)(n:Nat):List Bs→PS→PS×Oc
 |[],S=>(S,if(bG a dj).isSome then .yes [] else .no)
 |nm::r,S=>match DQ P deep base S n (bG a nm) with
  |(b,.no)=>lU P deep base a n r b
  |q=>q
theorem GD{P:fx}{deep:Deep}{base:U}{a:List bQ}{n:Nat}(k:A[b]? =some d)(S:PS):
 (bG a d=none→lU P deep base a n (A.drop b) S=lU P deep base a n (A.drop (b+1)) S)∧∀s,bG a d=some s→(∀c,gB P deep base S n s=(c,.no)→lU P deep base a n (A.drop b) S=lU P deep base a n (A.drop (b+1)) c)∧
  (∀c t,gB P deep base S n s=(c,.yes t)→lU P deep base a n (A.drop b) S=(c,.yes t))∧(∀c,gB P deep base S n s=(c,.wait)→lU P deep base a n (A.drop b) S=(c,.wait)):=by
 obtain⟨e,j⟩:=cH.1 k;rw[lG e,j];refine⟨fun h=> ?_,fun s h=>⟨fun c q=> ?_,fun c t q=> ?_,fun c q=> ?_⟩⟩
 ·rw[lU,h];rfl
 all_goals
  rw[lU,h];show(match gB P deep base S n s with|(c,.no)=>lU P deep base a n (A.drop (b+1)) c|q=>q)=_;rw[q]
def Tr(a:List bQ)(l:List Bs):Nat:=(l.map fun nm=>BS (bG a nm)).sum
theorem N1{a:List bQ}(h:A[b]? =some d):Tr a (A.drop b)=BS (bG a d)+Tr a (A.drop (b+1)):=by obtain⟨c,e⟩:=cH.1 h;rw[lG c,e];simp[Tr]
theorem tW{a:List bQ}{s:Bs}(h:bG a d=some s)(e:∀x∈a,x.val.length≤b):s.length≤b:=by unfold bG at h;obtain⟨x,c,rfl⟩:=qG.1 h;exact e x (List.mem_of_find?_eq_some c)
structure IS (E:ME) (W:aaK) (M0:List Nat) (wx:aaK) (M:List Nat) (S:PS) (out:Bs) (bn bp:Nat) (base:U) (dp:Nat) (vs:Bool) (k p:Int) (t:Bs) (a:List bQ) (aa:Option Addr) (ac:Nat) (kv:aaL):Prop where
 mx:MX E wx M S out
 st:bC M0 W M wx
 hn:KX M wx bn (.cells (eH k p t (.slice aa a.length ac) kv).toArray 37)
 hp:KX M wx bp (.cells (zv base dp vs).toArray 109)
 at_:aP (fun b=>b∉M) wx a (.slice aa a.length ac)
section
variable{E:ME}{W wx wy:aaK}{M0 M M':List Nat}{S S':PS}{out out':Bs}{bn bp:Nat}{base:U}{dp:Nat}{vs:Bool}{k p:Int}{t:Bs}{a:List bQ}{aa:Option Addr}{ac:Nat}{kv:aaL}
theorem IS.stay(h:IS E W M0 wx M S out bn bp base dp vs k p t a aa ac kv)(i:MX E wy M' S' out')(c:bC M wx M' wy):IS E W M0 wy M' S' out' bn bp base dp vs k p t a aa ac kv:=
 ⟨i,h.st.t c,h.hn.stay c,h.hp.stay c,h.at_.cO c.size fun b d e=>c.cO b e d⟩
theorem IS.next(h:IS E W M0 wx M S out bn bp base dp vs k p t a aa ac kv)(b:Below wx.heap.size wx wy):IS E W M0 wy M S out bn bp base dp vs k p t a aa ac kv:=h.stay (h.mx.next b) (bC.ai b)
theorem Ub(H:MX E W M S out)(m:aP (fun b=>b∉M) W a (.slice aa a.length ac))(A B:Obj)(j:A=.cells (eH k p t (.slice aa a.length ac) kv).toArray 37)(l:B=.cells (zv base dp vs).toArray 109):IS E W M ((W.alloc A).alloc B) M S out W.heap.size (W.heap.size+1) base dp vs k p t a aa ac kv:=by
 have c:Below W.heap.size W ((W.alloc A).alloc B):=(az W A).alloc (by rw[aO];omega) B;have d:∀b,W.heap.size≤b→b∉M:=fun b h n=>by have:=(H.mlt b n).2;omega
 subst j l;exact⟨H.next c,bC.ai c,⟨jX W _ _,d _ (ag _)⟩,⟨iT W _ _,d _ (fB _)⟩,m.cO c.size fun b e i=>⟨e,c.block b i⟩⟩
theorem IS.ret(h:IS E W M0 wx M S out bn bp base dp vs k p t a aa ac kv){R:PS×Oc}{b:Ending}(c:fy E M wx out R b wy):fy E M0 W out R b wy:=fy.pre h.st c
end
theorem GF{E:ME}{deep:Deep}{base:U}{dp:Nat}(HE:QQ E)(HD:Ju E deep dp)(HG:Rv E.env deep)(hb:DO base)(aU:dp≤1000){W:aaK}{M:List Nat}{S:PS}{out:Bs}(ab:MX E W M S out){k p:Int}{t:Bs}{a:List bQ}{aa ka:Option Addr}{ac kn kc:Nat}(ay:aP (fun b=>b∉M) W a (.slice aa a.length ac))(av:a.length≤1000000)(aN:∀x∈a,x.val.length≤65536)(hw:bq E.inc S (bV a))(ho:out.length≤262144)(vs:Bool):
 Calls Tryz.prog 49 #[.pointer (some ⟨E.mb,0,none⟩),wZ k p t (.slice aa a.length ac) (.slice ka kn kc),Tp base dp vs] W (fy E M W out (oQ E.env deep base a S out.length)):=by
 have K:=ad (Ub (base:=base) (dp:=dp) (vs:=vs) (k:=k) (p:=p) (t:=t) (kv:=.slice ka kn kc) ab ay _ _ rfl rfl);obtain⟨R,N⟩:∃R,oQ E.env deep base a S out.length=R:=⟨_,rfl⟩;rw[N];have ao:Hid (lU E.env deep base a out.length (([lC,lD]:List Bs).drop 0) S=R):=ad N;have aq:Hid (bq E.inc S (Tr a (([lC,lD]:List Bs).drop 0))):=ad (hw.less (by have:=N2 (n1:=lC) (n2:=lD) (by decide) a;show(BS (bG a lC)+(BS (bG a lD)+0))≤_;omega));have a5:=ad HE;have a3:=ad HD;have a6:=ad HG;have a2:=ad hb;have a4:=ad aU;have af:=ad av;have a1:=ad aN;have bb:=ad ho;clear ab ay av aN hw ho hb aU HE HD HG N;go_enter Tryz.func49,Tryz.ntmps49;go_upto_region 1 with fail;generalize(W.alloc (.cells #[.int .i64 k,.int .i64 p,.string ⟨t.toArray⟩,.slice aa a.length ac,.slice ka kn kc] 37)).alloc (.cells (zv base dp vs).toArray 109)=D at*;generalize W.heap.size=bn at*;have an:Hid (KX M (D.alloc (.cells #[.string ⟨#[115,114,99]⟩,.string ⟨#[97,108,116]⟩] 9)) D.heap.size (.cells #[.string ⟨#[115,114,99]⟩,.string ⟨#[97,108,116]⟩] 9)):=ad (rk K.o.mx (.cells #[.string ⟨#[115,114,99]⟩,.string ⟨#[97,108,116]⟩] 9));have ap:=ad (K.o.next (az D (.cells #[.string ⟨#[115,114,99]⟩,.string ⟨#[97,108,116]⟩] 9)));clear K;go_upto_region 2 with fail;generalize D.alloc (.cells #[.string ⟨#[115,114,99]⟩,.string ⟨#[97,108,116]⟩] 9)=W2 at*;generalize D.heap.size=nb at*
 go_loopw [15] (fun V wr=>∃(i:Nat) (M':List Nat) (S':PS),i≤2∧V=.int .i64 i∧Hid (IS E W M wr M' S' out bn (bn+1) base dp vs k p t a aa ac (.slice ka kn kc))∧Hid (KX M' wr nb (.cells #[.string ⟨#[115,114,99]⟩,.string ⟨#[97,108,116]⟩] 9))∧Hid (lU E.env deep base a out.length (([lC,lD]:List Bs).drop i) S'=R)∧Hid (bq E.inc S' (Tr a (([lC,lD]:List Bs).drop i)))) (fun V _=>2-(intOf V).toNat)
 case atStart=>exact⟨0,M,S,aH _,rfl,ap,an,ao,aq⟩
 case round=>
  obtain⟨i,M',S',hi,rfl,d,y,r,be⟩:=hrel;clear ap an ao aq;by_cases bk:i<2
  ·have i1:(i:Int)<2:=by omega
   have i0:(0:Int)≤(i:Int):=by omega
   obtain⟨nm,O,bi⟩:∃nm,([lC,lD]:List Bs)[i]? =some nm∧wr.cell? ⟨nb,i,none⟩=some (.string ⟨nm.toArray⟩):=by
    have:i=0∨i=1:=by omega
    rcases this with rfl|rfl
    ·exact⟨lC,rfl,tH _ _ 0 _ _ _ y.o.1⟩
    ·exact⟨lD,rfl,tH _ _ 1 _ _ _ y.o.1⟩
   have H:=ad (GD (P:=E.env) (deep:=deep) (base:=base) (a:=a) (n:=out.length) O S');have B:=ad (show bq E.inc S' (BS (bG a nm)+Tr a (([lC,lD]:List Bs).drop (i+1))) by rw[←N1 O];exact be.o);have ai:=ad (fun w=>pU (A:=fun b=>b∉M') k p t nm (aa:=aa) (ka:=ka) (ac:=ac) (kn:=kn) (kc:=kc) (l:=a) w);have j:=ad (ai.o wr d.o.at_ af.o);obtain⟨Y,Z,x2,x3,x4⟩:=qX5 (aj d.o.hn.1) 0 1 2 3 4;have J:=ad (fun s (h:bG a nm=some s)=>tW h a1.o);obtain⟨o,G⟩:∃o,bG a nm=o:=⟨_,rfl⟩;rw[G] at j H B J;clear ai O G;go_wp2_with fail;refine j.o.m ?_;rintro en X⟨rfl,u⟩;have c:=ad (d.o.next u);have am:=ad (y.o.next u);clear u Y Z x2 x3 x4 bi j d y;cases o with
   |none=>
    have z:Hid (lU E.env deep base a out.length (([lC,lD]:List Bs).drop (i+1)) S'=R):=ad ((H.o.1 rfl).symm.t r.o);have bg:=ad (B.o.less (w':=Tr a (([lC,lD]:List Bs).drop (i+1))) (Nat.le_add_left _ _));go_wp2_with fail
    go_roundw
    case rel=>exact⟨i+1,M',S',by omega,by go_num,c,am,z,bg⟩
    case measure=>(simp[intOf]<;>omega)
   |some s=>
    obtain⟨p0,p1,p2,p3,p4,p5,p6,p7⟩:=qX8 (aj c.o.hp.1) 0 1 2 3 4 5 6 7;have bf:=ad (J.o s rfl);have L:=ad (Ua a5.o a3.o a2.o a4.o c.o.mx s (by have:=bf.o;omega) (B.o.less (sd _ _)) bb.o vs);have al:=ad (DR a6.o base s S' out.length _ B.o);obtain⟨q,hq⟩:∃q,gB E.env deep base S' out.length s=q:=⟨_,rfl⟩;have I:=ad (H.o.2 s rfl);rw[hq] at L I;have a7:Hid (bq E.inc q.1 (Tr a (([lC,lD]:List Bs).drop (i+1)))):=ad (by rw[←hq];exact al.o);obtain⟨C,oc⟩:=q;clear hq H al B J;go_wp2_with fail;refine L.o.m ?_;intro en w6 Q;clear p0 p1 p2 p3 p4 p5 p6 p7 L;cases oc with
    |yes t5=>obtain⟨rfl,F⟩:=Q;have e:=ad (show fy E M W out R (.returned (.bool true)) w6 by rw[←r.o,I.o.2.1 C t5 rfl];exact c.o.ret ⟨rfl,F⟩);clear F;go_wp2_with fail;go_ret;exact e.o
    |no=>
     obtain⟨rfl,M6,a0,T⟩:=Q;have bd:Hid (lU E.env deep base a out.length (([lC,lD]:List Bs).drop (i+1)) C=R):=ad ((I.o.1 C rfl).symm.t r.o);have a8:=ad (c.o.stay a0 T);have a9:=ad (am.o.stay T);clear a0 T;go_wp2_with fail
     go_roundw
     case rel=>exact⟨i+1,M6,C,by omega,by go_num,a8,a9,bd,a7⟩
     case measure=>(simp[intOf]<;>omega)
    |wait=>obtain⟨rfl,F⟩:=Q;have e:=ad (show fy E M W out R (.panicked [gA]) w6 by rw[←r.o,I.o.2.2 C rfl];exact c.o.ret ⟨rfl,F⟩);clear F;go_wp2_with fail;exact⟨rfl,e.o⟩
  ·obtain rfl:i=2:=by omega
   have z:=ad (show R=(S',if(bG a dj).isSome then .yes [] else .no) from r.o.symm);have j:=ad (pU (A:=fun b=>b∉M') k p t dj (aa:=aa) (ka:=ka) (ac:=ac) (kn:=kn) (kc:=kc) (l:=a) wr d.o.at_ af.o);obtain⟨Y,Z,x2,x3,x4⟩:=qX5 (aj d.o.hn.1) 0 1 2 3 4;obtain⟨o,G⟩:∃o,bG a dj=o:=⟨_,rfl⟩;rw[G] at j z;clear G r;go_wp2_with fail;refine j.o.m ?_;rintro en X⟨rfl,u⟩;have c:=ad (d.o.next u);clear u Y Z x2 x3 x4 j d y;cases o with
   |none=>have e:=ad (show fy E M W out R (.returned (.bool false)) X by rw[z.o];exact⟨rfl,M',c.o.mx,c.o.st⟩);go_wp2_with fail;go_ret;exact e.o
   |some s=>have e:=ad (show fy E M W out R (.returned (.bool true)) X by rw[z.o];exact⟨rfl,M',by rw[jm];exact c.o.mx,c.o.st⟩);go_wp2_with fail;go_ret;exact e.o
