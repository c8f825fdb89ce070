/- With fewer answers a page waits, having asked for the first ones. -/
import Derived.Test.YtlemddnecmmfgaaGreatDoorKbe
set_option linter.unusedVariables false
set_option maxRecDepth 100000
set_option maxHeartbeats 4000000
namespace Go.Proofs.YtlemddnecmmfgaaGreatDoor
open Go.RowKit
variable{n:Bool}{b d:Bs}{s O:List Nat}{a i:Nat}{x:U}
theorem Ar(u:U):∀l:List U,nB (l++[u])=nB l++qz u
 |[]=>by show qz u++nB []=[]++qz u;rw[nB,jm,kK]
 |x::r=>by rw[di,nB,nB,Ar u r,jl]
section
variable{E:ME}{W W':aaK}{S:PS}{out:Bs}{av rv ov:aaL}
theorem MK.Rr(H:MK E W S out av rv ov){b:aaK}{O:Obj}{n:Nat}(p:S.asked.length=n)
 (r:b.ownsRow E.w0.heap.size 23 6 (.slice (some ⟨a,0,none⟩) (n+1) i) (n+1) (nB S.asked++qz x))(m:(W.alloc O).grownBy b av.ownBlock)(d:some a=av.ownBlock∨W.heap.size+1≤a):
 (MK E (b.setCell ⟨E.mb,3,none⟩ (.slice (some ⟨a,0,none⟩) (n+1) i)) {S with asked:=S.asked++[x]} out (.slice (some ⟨a,0,none⟩) (n+1) i) rv ov∧
  bC (MB E av rv ov) W (MB E (.slice (some ⟨a,0,none⟩) (n+1) i) rv ov) (b.setCell ⟨E.mb,3,none⟩ (.slice (some ⟨a,0,none⟩) (n+1) i)))∧b.heap[E.mb]? =some (.cells (Gw E S av rv ov).toArray 85):=by
 obtain⟨h,k,l,c,s⟩:=H.grown (az W O) m (.inl rfl) 3 (.slice (some ⟨a,0,none⟩) (n+1) i);have o:some E.mb≠some a:=by
  obtain⟨n1,n2,t,w⟩:=fF.1 H.vW;intro e;injection e with e;rcases d with q|q
  ·exact(n2 E.mb (.inl rfl)).1 (by rw[←q,e])
  ·have:=H.lt;omega
 refine⟨H.swap (v:=av) (v':=.slice (some ⟨a,0,none⟩) (n+1) i) h k l (aw (j:=3) c) rfl (d.elim (fun q=>.inl q) (fun q=>.inr ⟨a,rfl,by omega⟩)) (.inl ⟨rfl,rfl,rfl,rfl,rfl,rfl, ?_⟩),c⟩;show World.ownsRow _ _ _ 6 _ (S.asked++[x]).length (nB (S.asked++[x]));rw[bB,p,Ar];exact r.kept s (.inr (fun e=>o e.symm))
end
theorem T7:(Tryz.prog.info? 23).map (fun i=>(i.zero,i.size,i.bytes))=some (some (.agg #[.string ⟨#[]⟩,.string ⟨#[]⟩,.int .i64 0,.string ⟨#[]⟩,.string ⟨#[]⟩,.bool false]),6,80):=by kernel_rfl
theorem Rs:Tryz.prog.underlying 41=some (.slice 23):=by kernel_rfl
theorem Vt:Tryz.prog.underlying 82=some (.map 9 116):=by kernel_rfl
theorem WC(W:aaK):(zeroValue 116).run Tryz.prog W=.ok (.agg #[.string ⟨#[]⟩]) W:=by
 have a:Tryz.t116.zero=some (.agg #[.string ⟨#[]⟩]):=by kernel_rfl
 simp[zeroValue,go_sem,a]
theorem MX.off{E:ME}{W W':aaK}{S:PS}{out:Bs}{p:Nat}(H:MX E W s S out)(n:p∉s)(m:E.w0.heap.size≤p)(k:ak p W W'):MX E W' s S out:=by obtain⟨av,rv,ov,h,rfl⟩:=H;have i:∀b∈MB E av rv ov,W'.heap[b]? =W.heap[b]? :=fun b j=>k.block b (h.mlt b j).2 (by intro e;injection e with e;exact n (e▸j));have d:∀v g,v.ownBlock=some g→v∈[av,rv,ov]→W'.heap[g]? =W.heap[g]? :=fun v g a c=>i g (bY _ (bY _ (cQ.2 ⟨v,c,a⟩)));refine⟨av,rv,ov,⟨h.up.t (k.below m h.up.size),(i _ eF).t h.box,bw h.asked fun g q=>d av g q (by simp),bw h.reads fun g q=>d rv g q (by simp),bw h.lE fun g q=>d ov g q (by simp), ?_,h.vW,h.far⟩,rfl⟩;obtain⟨l,a,c⟩:=h.inl;exact⟨l,ri a (i _ (bY _ eF)),c⟩
theorem bC.off{W0 W W':aaK}{p:Nat}(h:bC s W0 O W)(k:W0.heap.size≤p)(c:ak p W W'):bC s W0 O W':=
 ⟨bP h.size c.size,fun b a d=>by obtain⟨i,j⟩:=h.cO b a d;exact⟨i,(c.block b (ej a h.size) (by intro e;injection e with e;omega)).t j⟩⟩
abbrev WD(g:j5):aaL:=.agg #[.string ⟨g.body.toArray⟩,.bool g.F3,.bool g.ok]
theorem lT{fn:Func}{W:aaK}{tmps:Array aaL}{v0 v1 v2:aaL}(h:fn.results=#[.cell i 62])(d:tmps.getD i undef=.pointer (some ⟨a,0,none⟩))(c:W.heap[a]? =some (.cells #[v0,v1,v2] 62)):
 (results fn tmps).run Tryz.prog W=.ok (.agg #[v0,v1,v2]) W:=by
 obtain⟨j,k,l⟩:=qX3 (aj c) 0 1 2;have e:tmps[i]?.getD undef=.pointer (some ⟨a,0,none⟩):=by rw[←d];simp
 simp[results,h,go_sem,e,j,k,l]
theorem MX.Tq{E:ME}{W:aaK}{S:PS}{out:Bs}(H:MX E W s S out):W.cell? ⟨E.mb,14,none⟩=some (.map (some E.im)):=by obtain⟨av,rv,ov,a,_⟩:=H;exact tH _ _ 14 _ _ _ a.box
theorem MX.up{E:ME}{W:aaK}{M:List Nat}{S:PS}{out:Bs}(H:MX E W M S out):Below E.w0.heap.size E.w0 W:=by obtain⟨av,rv,ov,a,_⟩:=H;exact a.up
theorem MX.get{E:ME}{W:aaK}{S:PS}{out:Bs}(H:MX E W s S out)(k:Bs):
 (Instr.lookup 82 (.map (some E.im)) (.string ⟨k.toArray⟩) true).run Tryz.prog W=.ok (.tuple #[.agg #[.string ⟨((Xr S.inl k).getD []).toArray⟩],.bool (Xr S.inl k).isSome]) W:=by
 obtain⟨av,rv,ov,d,_⟩:=H;obtain⟨l,a,b⟩:=d.inl;rw[fz a _ _ Vt _ (WC W) _ _];have c:assoc l (⟨k.toArray⟩:aaM).data.toList=(Xr S.inl k).map fun t=>.agg #[.string ⟨t.toArray⟩]:=b k;rw[c];cases Xr S.inl k<;>rfl
theorem MX.WE{E:ME}{W:aaK}{S:PS}{out:Bs}(H:MX E W s S out)(a:(Xr S.inl b).getD []=d∧(Xr S.inl b).isSome=n):
 (Instr.lookup 82 (.map (some E.im)) (.string ⟨b.toArray⟩) true).run Tryz.prog W=.ok (.tuple #[.agg #[.string ⟨d.toArray⟩],.bool n]) W:=by
 have h:=H.get b;rw[a.1,a.2] at h;exact h
def sx(P:fx)(u:U)(S:PS):PS×Option j5:=
 match Xr S.inl (nE u) with
 |some t=>(S,some ⟨t,true,true⟩)
 |none=>({S with asked:=S.asked++[u]},P.fZ[S.asked.length]?)
theorem N0(P:fx)(f:U→Nd→PS→Nat→PS×Oc)(u:U)(S:PS)(ahead:Nat):zw P f u S ahead=match sx P u S with|(a,some g)=>zx f u a ahead g|(a,none)=>(a,.wait):=by
 unfold zw sx;cases Xr S.inl (nE u) with
 |some t=>rfl
 |none=>dsimp only;cases P.fZ[S.asked.length]? <;>rfl
def WG(E:ME)(M:List Nat)(W:aaK)(out:Bs)(r:PS×Option j5):Ending→aaK→Prop:=fun b w'=>match r.2 with
 |some g=>b=.returned (WD g)∧∃a,MX E w' a r.1 out∧bC M W a w'
 |none=>b=.panicked [gA]∧∃a,MX E w' a r.1 out∧bC M W a w'
theorem MX.mlt{E:ME}{W:aaK}{M:List Nat}{S:PS}{out:Bs}(H:MX E W M S out):∀b∈M,E.w0.heap.size≤b∧b<W.heap.size:=by obtain⟨av,rv,ov,a,rfl⟩:=H;exact a.mlt
structure Rt (E:ME) (W:aaK) (M:List Nat) (S:PS) (out t:Bs) (u:U) (ib:Nat) (wx:aaK):Prop where
 c:wx.cell? ⟨ib,0,none⟩=some (.string ⟨t.toArray⟩)
 mx:MX E wx M S out
 st:bC M W M wx
 g:wx.heap[W.heap.size+1]? =some (.cells #[.string ⟨#[]⟩,.bool false,.bool false] 62)
 ur:wx.heap[W.heap.size]? =some (.cells #[.string ⟨u.scheme.toArray⟩,.string ⟨u.host.toArray⟩,.int .i64 u.port,.string ⟨u.path.toArray⟩,.string ⟨u.query.toArray⟩,.bool u.hq] 23)
theorem Ru{E:ME}{W b:aaK}{S:PS}{out t:Bs}(H:MX E b s S out)(n:bC s W s b)(d:b.heap[W.heap.size+1]? =some (.cells #[.string ⟨#[]⟩,.bool false,.bool false] 62))(h:b.heap[W.heap.size]? =some (.cells #[.string ⟨x.scheme.toArray⟩,.string ⟨x.host.toArray⟩,.int .i64 x.port,.string ⟨x.path.toArray⟩,.string ⟨x.query.toArray⟩,.bool x.hq] 23))(m:b.heap[a]? =some (.cells #[.string ⟨#[]⟩] 116))(k:a∉s)(o:W.heap.size+1<a)(i:E.w0.heap.size≤a):
 Rt E W s S out t x a (b.setCell ⟨a,0,none⟩ (.string ⟨t.toArray⟩)):=by
 have c:ak a b (b.setCell ⟨a,0,none⟩ (.string ⟨t.toArray⟩)):=(ak.refl _ _).set;have l:(b.setCell ⟨a,0,none⟩ (.string ⟨t.toArray⟩)).heap[a]? =some (.cells #[.string ⟨t.toArray⟩] 116):=aw (j:=0) m;refine⟨tH _ _ 0 _ _ _ l,H.off k i c,n.off (by omega) c, ?_,(c.block _ (aB.1 h).1 (by intro e;injection e with e;omega)).t h⟩;exact(c.block _ (aB.1 d).1 (by intro e;injection e with e;omega)).t d
theorem Vu{E:ME}{W c a:aaK}{S:PS}{out:Bs}(H:MX E c s S out)(q:bC s W s c)(j:c.heap[W.heap.size+1]? =some (.cells #[.string ⟨#[]⟩,.bool false,.bool false] 62))(r:c.heap[W.heap.size]? =some (.cells #[.string ⟨x.scheme.toArray⟩,.string ⟨x.host.toArray⟩,.int .i64 x.port,.string ⟨x.path.toArray⟩,.string ⟨x.query.toArray⟩,.bool x.hq] 23))(h:Below c.heap.size c a)(m:(Xr S.inl b).getD []=d∧(Xr S.inl b).isSome=n):
 a.cell? ⟨E.mb,14,none⟩=some (.map (some E.im))∧(Instr.lookup 82 (.map (some E.im)) (.string ⟨b.toArray⟩) true).run Tryz.prog a=.ok (.tuple #[.agg #[.string ⟨d.toArray⟩],.bool n]) a∧(a.alloc (.cells #[.string ⟨#[]⟩] 116)).cell? ⟨E.mb,14,none⟩=some (.map (some E.im))∧(Instr.lookup 82 (.map (some E.im)) (.string ⟨b.toArray⟩) true).run Tryz.prog (a.alloc (.cells #[.string ⟨#[]⟩] 116))=.ok (.tuple #[.agg #[.string ⟨d.toArray⟩],.bool n]) (a.alloc (.cells #[.string ⟨#[]⟩] 116))∧
  (a.alloc (.cells #[.string ⟨#[]⟩] 116)).cell? ⟨a.heap.size,0,none⟩=some (.string ⟨#[]⟩)∧(a.alloc (.cells #[.string ⟨#[]⟩] 116)).frozen? ⟨a.heap.size,0,none⟩=false∧Rt E W s S out d x a.heap.size (a.alloc (.cells #[.string ⟨d.toArray⟩] 116)):=by
 have e:=H.next h;have i:=e.next (az a (.cells #[.string ⟨#[]⟩] 116));have o:=au a (.cells #[.string ⟨#[]⟩] 116);have l:=(aB.1 j).1;have y:=h.size;have z:=e.up.size;have p:=(h.block _ l).t j;have w:=(h.block _ (Nat.lt_of_succ_lt l)).t r;exact⟨e.Tq,e.WE m,i.Tq,i.WE m,tH _ _ 0 _ _ _ o,aA o,⟨tH _ _ 0 _ _ _ (au a (.cells #[.string ⟨d.toArray⟩] 116)),e.next (az a (.cells #[.string ⟨d.toArray⟩] 116)),(q.t (bC.ai h)).t (bC.ai (az a _)),((az a _).block _ (by omega)).t p,((az a _).block _ (by omega)).t w⟩⟩
theorem Vv{E:ME}{W a c:aaK}{S:PS}{out:Bs}(H:MX E a s S out)(q:bC s W s a)(j:a.heap[W.heap.size+1]? =some (.cells #[.string ⟨#[]⟩,.bool false,.bool false] 62))(r:a.heap[W.heap.size]? =some (.cells #[.string ⟨x.scheme.toArray⟩,.string ⟨x.host.toArray⟩,.int .i64 x.port,.string ⟨x.path.toArray⟩,.string ⟨x.query.toArray⟩,.bool x.hq] 23))(e:Below (a.heap.size+1) (a.alloc (.cells #[.string ⟨#[]⟩] 116)) c)(o:(Xr S.inl b).getD []=d∧(Xr S.inl b).isSome=n):
 c.cell? ⟨E.mb,14,none⟩=some (.map (some E.im))∧(Instr.lookup 82 (.map (some E.im)) (.string ⟨b.toArray⟩) true).run Tryz.prog c=.ok (.tuple #[.agg #[.string ⟨d.toArray⟩],.bool n]) c∧c.cell? ⟨a.heap.size,0,none⟩=some (.string ⟨#[]⟩)∧c.frozen? ⟨a.heap.size,0,none⟩=false∧Rt E W s S out d x a.heap.size (c.setCell ⟨a.heap.size,0,none⟩ (.string ⟨d.toArray⟩)):=by
 have h:=(H.next (az a (.cells #[.string ⟨#[]⟩] 116))).next (by rw[aO];exact e)
 have i:=(e.block _ (Nat.lt_succ_self _)).t (au a (.cells #[.string ⟨#[]⟩] 116));have l:=(aB.1 j).1;have y:=H.up.size;have m:=(e.block _ (by omega)).t (((az a _).block _ l).t j);have w:=(e.block _ (by omega)).t (((az a _).block _ (Nat.lt_of_succ_lt l)).t r);exact⟨h.Tq,h.WE o,tH _ _ 0 _ _ _ i,aA i,Ru h ((q.t (bC.ai (az a (.cells #[.string ⟨#[]⟩] 116)))).t (bC.ai (by rw[aO];exact e))) m w i (fun p=>by have:=(H.mlt _ p).2;omega) (by omega) y⟩
theorem Jt{E:ME}{W:aaK}{S:PS}{out:Bs}{wc:aaK}(H:MX E wc O S out)(i:bC s W O wc)(h:wc.heap[W.heap.size+1]? =some (.cells #[.string ⟨#[]⟩,.bool false,.bool false] 62))(a:W.heap.size+1∉O∧E.w0.heap.size≤W.heap.size+1)(t:Bs)(e k:Bool):
 (((wc.setCell ⟨W.heap.size+1,0,none⟩ (.string ⟨t.toArray⟩)).setCell ⟨W.heap.size+1,1,none⟩ (.bool e)).setCell ⟨W.heap.size+1,2,none⟩ (.bool k)).heap[W.heap.size+1]? =some (.cells #[.string ⟨t.toArray⟩,.bool e,.bool k] 62)∧
  MX E (((wc.setCell ⟨W.heap.size+1,0,none⟩ (.string ⟨t.toArray⟩)).setCell ⟨W.heap.size+1,1,none⟩ (.bool e)).setCell ⟨W.heap.size+1,2,none⟩ (.bool k)) O S out∧
  bC s W O (((wc.setCell ⟨W.heap.size+1,0,none⟩ (.string ⟨t.toArray⟩)).setCell ⟨W.heap.size+1,1,none⟩ (.bool e)).setCell ⟨W.heap.size+1,2,none⟩ (.bool k)):=by
 have b:ak (W.heap.size+1) wc (((wc.setCell ⟨W.heap.size+1,0,none⟩ (.string ⟨t.toArray⟩)).setCell ⟨W.heap.size+1,1,none⟩ (.bool e)).setCell ⟨W.heap.size+1,2,none⟩ (.bool k)):=(((ak.refl _ _).set).set).set;refine⟨?_,H.off a.1 a.2 b,i.off (by omega) b⟩;have c:(wc.setCell ⟨W.heap.size+1,0,none⟩ (.string ⟨t.toArray⟩)).heap[W.heap.size+1]? =some (.cells #[.string ⟨t.toArray⟩,.bool false,.bool false] 62):=aw (j:=0) h;have d:((wc.setCell ⟨W.heap.size+1,0,none⟩ (.string ⟨t.toArray⟩)).setCell ⟨W.heap.size+1,1,none⟩ (.bool e)).heap[W.heap.size+1]? =some (.cells #[.string ⟨t.toArray⟩,.bool e,.bool false] 62):=aw (j:=1) c;exact aw (j:=2) d
theorem T8{E:ME}(HE:QQ E){W:aaK}{S:PS}{out:Bs}(an:MX E W s S out)(u:U)(hu:xv u)(x:S.asked.length≤100000000):
 Calls Tryz.prog 137 #[.pointer (some ⟨E.mb,0,none⟩),uV u] W (WG E s W out (sx E.env u S)):=by
 have hA:Below W.heap.size W ((W.alloc (.cells #[.string ⟨u.scheme.toArray⟩,.string ⟨u.host.toArray⟩,.int .i64 u.port,.string ⟨u.path.toArray⟩,.string ⟨u.query.toArray⟩,.bool u.hq] 23)).alloc (.cells #[.string ⟨#[]⟩,.bool false,.bool false] 62)):=(az W _).alloc (by rw[aO];omega) _;have hd:=(ar ((W.alloc (.cells #[.string ⟨u.scheme.toArray⟩,.string ⟨u.host.toArray⟩,.int .i64 u.port,.string ⟨u.path.toArray⟩,.string ⟨u.query.toArray⟩,.bool u.hq] 23)).alloc (.cells #[.string ⟨#[]⟩,.bool false,.bool false] 62)).heap.size ((W.alloc (.cells #[.string ⟨u.scheme.toArray⟩,.string ⟨u.host.toArray⟩,.int .i64 u.port,.string ⟨u.path.toArray⟩,.string ⟨u.query.toArray⟩,.bool u.hq] 23)).alloc (.cells #[.string ⟨#[]⟩,.bool false,.bool false] 62))).drew;have aN:=ad ((bC.ai (M:=s) hA).t (bC.ai (M:=s) hd));have q:=ad ((an.next hA).next hd);have i:=ad (jX W (.cells #[.string ⟨u.scheme.toArray⟩,.string ⟨u.host.toArray⟩,.int .i64 u.port,.string ⟨u.path.toArray⟩,.string ⟨u.query.toArray⟩,.bool u.hq] 23) (.cells #[.string ⟨#[]⟩,.bool false,.bool false] 62));have H:=ad (iT W (.cells #[.string ⟨u.scheme.toArray⟩,.string ⟨u.host.toArray⟩,.int .i64 u.port,.string ⟨u.path.toArray⟩,.string ⟨u.query.toArray⟩,.bool u.hq] 23) (.cells #[.string ⟨#[]⟩,.bool false,.bool false] 62));have bp:W.heap.size+1∉s∧E.w0.heap.size≤W.heap.size+1:=by obtain⟨av,rv,ov,r,rfl⟩:=an;exact⟨fun hm=>by have:=(r.mlt _ hm).2;omega,by have:=r.up.size;omega⟩
 have N:=ad bp;have ao:=ad HE;have bd:=ad hu;obtain⟨t,ht⟩:∃t,(Xr S.inl (nE u)).getD []=t:=⟨_,rfl⟩;obtain⟨Z,hi⟩:∃Z,(Xr S.inl (nE u)).isSome=Z:=⟨_,rfl⟩;have J:=ad (And.intro ht hi);have L:=ad (And.intro x HE.Vc);clear hA hd an HE hu ht hi bp x;go_enter Tryz.func137,Tryz.ntmps137;go_upto_region 1 with fail;generalize(W.alloc (.cells #[.string ⟨u.scheme.toArray⟩,.string ⟨u.host.toArray⟩,.int .i64 u.port,.string ⟨u.path.toArray⟩,.string ⟨u.query.toArray⟩,.bool u.hq] 23)).alloc (.cells #[.string ⟨#[]⟩,.bool false,.bool false] 62)=a at*;have b4:=ad (aB.1 H.o).1;have u0:a.cell? ⟨W.heap.size,0,none⟩=some (.string ⟨u.scheme.toArray⟩):=tH _ _ 0 _ _ _ i.o;have u1:a.cell? ⟨W.heap.size,1,none⟩=some (.string ⟨u.host.toArray⟩):=tH _ _ 1 _ _ _ i.o;have u2:a.cell? ⟨W.heap.size,2,none⟩=some (.int .i64 u.port):=tH _ _ 2 _ _ _ i.o;have u3:a.cell? ⟨W.heap.size,3,none⟩=some (.string ⟨u.path.toArray⟩):=tH _ _ 3 _ _ _ i.o;have u4:a.cell? ⟨W.heap.size,4,none⟩=some (.string ⟨u.query.toArray⟩):=tH _ _ 4 _ _ _ i.o;have u5:a.cell? ⟨W.heap.size,5,none⟩=some (.bool u.hq):=tH _ _ 5 _ _ _ i.o;have a4:a.cell? ⟨E.mb,14,none⟩=some (.map (some E.im)):=by obtain⟨av,rv,ov,hm,_⟩:=q.o;exact tH _ _ 14 _ _ _ (by have:=hm.box;exact this)
 have a7:=az a.drew (.cells #[.string ⟨#[]⟩] 116);have br:=ad a7;have bg:=ad (q.o.next a7);have Tq:=aI (W:=a) a4 (.cells #[.string ⟨#[]⟩] 116);have G:=ad (show a.drew.heap[W.heap.size+1]? =_ from((ar a.heap.size a).drew.block _ (aB.1 H.o).1).t H.o);have a0:=ad (show a.drew.heap[W.heap.size]? =_ from((ar a.heap.size a).drew.block _ (aB.1 i.o).1).t i.o);have bv:=ad (show W.heap.size+1<a.drew.heap.size from(aB.1 G.o).1);have v0:=aI (W:=a) u0 (.cells #[.string ⟨#[]⟩] 116);have v1:=aI (W:=a) u1 (.cells #[.string ⟨#[]⟩] 116);have v2:=aI (W:=a) u2 (.cells #[.string ⟨#[]⟩] 116);have v3:=aI (W:=a) u3 (.cells #[.string ⟨#[]⟩] 116);have v4:=aI (W:=a) u4 (.cells #[.string ⟨#[]⟩] 116);have v5:=aI (W:=a) u5 (.cells #[.string ⟨#[]⟩] 116);clear a7
 go_cut [5,6] (fun s5 s6 F=>s6=.bool Z∧∃ib,s5=.pointer (some ⟨ib,0,none⟩)∧Hid (Rt E W s S out t u ib F))
 case first=>
  go_region_with (go_at_call 34;go_must (first|(refine(wa u a.drew (ao.o.gl.gx.next q.o.up) bd.o).m ?_;rintro e D⟨rfl,w⟩;obtain⟨bk,g5,cn,g6,z5,am,C⟩:=Vu q.o aN.o G.o a0.o w J.o;have bi:=ad C;clear w C)|(refine(wa u (a.drew.alloc (.cells #[.string ⟨#[]⟩] 116)) (ao.o.gl.gx.next bg.o.up) bd.o).m ?_;rintro e D⟨rfl,w⟩;obtain⟨bk,g5,z5,am,C⟩:=Vv q.o aN.o G.o a0.o (by rw[aO] at w;exact w) J.o;have z5:D.cell? ⟨a.heap.size,0,none⟩=some (.string ⟨#[]⟩):=z5;have am:D.frozen? ⟨a.heap.size,0,none⟩=false:=am;have bi:=ad C;clear w C)))
  all_goals
   clear a4 Tq bk g5 z5 am u0 u1 u2 u3 u4 u5 v0 v1 v2 v3 v4 v5;go_wp2_with fail
   go_meet
   exact⟨rfl,_,rfl,bi⟩
 case rest=>
  obtain⟨rfl,ib,rfl,b⟩:=hcut;clear i H q aN bg br G a0 bv b4 a4 Tq u0 u1 u2 u3 u4 u5 v0 v1 v2 v3 v4 v5;obtain⟨r0,r1,r2⟩:=qX3 (aj b.o.g) 0 1 2;have ab:wc.frozen? ⟨W.heap.size+1,0,none⟩=false:=aA b.o.g;have af:wc.frozen? ⟨W.heap.size+1,1,none⟩=false:=aA b.o.g;have al:wc.frozen? ⟨W.heap.size+1,2,none⟩=false:=aA b.o.g;cases Z
  ·have O:=ad (show sx E.env u S=({S with asked:=S.asked++[u]},E.fZ[S.asked.length]?) by
    obtain⟨r,z⟩:=J.o;unfold sx;cases X:Xr S.inl (nE u) with
    |none=>rfl
    |some t'=>rw[X] at z;cases z)
   obtain⟨av,rv,ov,d,A⟩:=b.o.mx;obtain⟨aa,ac,rfl⟩:=aX d.asked;have aq:=ad d.asked;obtain⟨n,x⟩:∃n,S.asked.length=n:=⟨_,rfl⟩;have j:=ad x;rw[x] at aq d A;have be:=ad d;have K:=ad A;have b3:wc.cell? ⟨E.mb,3,none⟩=some (.slice aa n ac):=tH _ _ 3 _ _ _ d.box;have x0:wc.cell? ⟨W.heap.size,0,none⟩=some (.string ⟨u.scheme.toArray⟩):=tH _ _ 0 _ _ _ b.o.ur;have x1:wc.cell? ⟨W.heap.size,1,none⟩=some (.string ⟨u.host.toArray⟩):=tH _ _ 1 _ _ _ b.o.ur;have x2:wc.cell? ⟨W.heap.size,2,none⟩=some (.int .i64 u.port):=tH _ _ 2 _ _ _ b.o.ur;have x3:wc.cell? ⟨W.heap.size,3,none⟩=some (.string ⟨u.path.toArray⟩):=tH _ _ 3 _ _ _ b.o.ur;have x4:wc.cell? ⟨W.heap.size,4,none⟩=some (.string ⟨u.query.toArray⟩):=tH _ _ 4 _ _ _ b.o.ur;have x5:wc.cell? ⟨W.heap.size,5,none⟩=some (.bool u.hq):=tH _ _ 5 _ _ _ b.o.ur;have a5:∀a2,(wc.alloc a2).cell? ⟨E.mb,3,none⟩=some (.slice aa n ac):=fun a2=>aI b3 a2;have B:=ar wc.heap.size wc;have ap:=ad (be.o.next B.drew);have bf:=ad (b.o.st.t (bC.ai (M:=s) B.drew));have a9:=(aB.1 b.o.g).1;have I:=ad (show W.heap.size+1<wc.drew.heap.size∧wc.drew.heap[W.heap.size+1]? =some (.cells #[.string ⟨#[]⟩,.bool false,.bool false] 62) from⟨ej a9 B.drew.size,(B.drew.block _ a9).t b.o.g⟩);clear d A B x a9;go_upto_region 4 with fail
   go_cut [] (fun F=>∃M',Hid (MX E F M' {S with asked:=S.asked++[u]} out)∧Hid (bC s W M' F)∧Hid (F.heap[W.heap.size+1]? =some (.cells #[.string ⟨#[]⟩,.bool false,.bool false] 62))∧Hid (W.heap.size+1∉M'))
   case first=>
    go_region_law
     (go_loud (refine gM (by rfl) _ _ 41 (by rfl) 23 (.agg #[.string ⟨#[]⟩,.string ⟨#[]⟩,.int .i64 0,.string ⟨#[]⟩,.string ⟨#[]⟩,.bool false]) 6 80 Rs T7 (by rfl) (by decide) E.w0.heap.size wc.drew (.slice aa n ac) n (nB S.asked) (by rfl) (cp aq.o (ax wc 1)) (qz u) (by rfl) (by rfl) (by rfl) (by simp[qz,Value.oneCell']) (by have:=L.o;have:=j.o;omega) (by have:=L.o;have:=j.o;omega) (by exact ap.o.up.size) ?_);intro g cap D bo bl bn;have l:=ad (ap.o.Rr j.o bo bl bn);have cl:=tH _ _ 3 _ _ _ l.o.2;have co:D.frozen? ⟨E.mb,3,none⟩=false:=aA l.o.2;clear bo bl bn)
    all_goals
     go_wp2_with fail
     go_meet
     refine⟨_,ad ⟨_,_,_,l.o.1.1,rfl⟩,ad (bf.o.t (by rw[K.o];exact l.o.1.2)), ?_, ?_⟩
     ·exact ad ((l.o.1.2.cO _ I.o.1 (by rw[←K.o];exact N.o.1)).2.t I.o.2)
     ·exact ad (l.o.1.2.cO _ I.o.1 (by rw[←K.o];exact N.o.1)).1
   case rest=>
    obtain⟨R,Q,aU,p,bx⟩:=hcut;clear ap bf I K be aq b3 a5 x0 x1 x2 x3 x4 x5 r0 r1 r2 ab af al b;obtain⟨ck,ct,cs,d,A⟩:=Q.o;obtain⟨b5,b6,rfl⟩:=aX d.asked;obtain⟨h,a6⟩:∃h,E.fZ.length=h:=⟨_,rfl⟩;have hl:({S with asked:=S.asked++[u]}:PS).asked.length=n+1:=by show(S.asked++[u]).length=n+1;rw[bB,j.o];rfl
    have b3:=aj d.box 3;rw[hl] at b3;have a3:wc.cell? ⟨E.mb,13,none⟩=some (.slice E.ga h E.gc):=by rw[←a6];exact tH _ _ 13 _ _ _ d.box
    obtain⟨r0,r1,r2⟩:=qX3 (aj p.o) 0 1 2;have ab:wc.frozen? ⟨W.heap.size+1,0,none⟩=false:=aA p.o;have af:wc.frozen? ⟨W.heap.size+1,1,none⟩=false:=aA p.o;have al:wc.frozen? ⟨W.heap.size+1,2,none⟩=false:=aA p.o;have i1:(n:Int)≤100000000:=by have:=L.o;have:=j.o;omega
    have i2:(h:Int)≤100000000:=by have:=L.o;omega
    have i3:(0:Int)≤(n:Int):=by omega
    have i4:(0:Int)≤(h:Int):=by omega
    have bb:=ad a6;have a1:=ad d.up;clear d A hl a6;cases k:E.fZ[n]? with
    |none=>
     have ay:=ad (show sx E.env u S=({S with asked:=S.asked++[u]},none) by rw[O.o,j.o,k]);have i5:(h:Int)<(n:Int)+1:=by have:=List.getElem?_eq_none_iff.1 k;have:=bb.o;omega
     clear k;go_upto_region 5 with fail
     go_quiet (fail)
     go_wp2_with fail;rw[ay.o];exact⟨rfl,rfl,R,Q.o.next (ax _ _),aU.o.t (bC.ai (ax _ _))⟩
    |some g=>
     have ay:=ad (show sx E.env u S=({S with asked:=S.asked++[u]},some g) by rw[O.o,j.o,k]);have i6:n<h:=by have:=(cH.1 k).1;have:=bb.o;omega
     have i5:¬(h:Int)<(n:Int)+1:=by omega
     have i7:(n:Int)<(h:Int):=by omega
     have i8:IntKind.i64.wrap (n:Int)=(n:Int):=Xu _ (by omega);obtain⟨T,V,bm,Y,y0,y1,y2⟩:=ao.o.fZ n g k;have z0:=(a1.o.cell Y).t y0;have z1:=(a1.o.cell Y).t y1;have z2:=(a1.o.cell Y).t y2;rw[bm] at a3;clear k y0 y1 y2 bm Y;go_upto_region 5 with fail
     go_quiet (fail)
     go_upto_region 7 with fail;have b1:=ad (Q.o.next (ax wc nq));have bJ:=ad (aU.o.t (bC.ai (M:=R) (ax wc nq)));have bs:=ad (show(wc.drewN nq).heap[W.heap.size+1]? =some (.cells #[.string ⟨#[]⟩,.bool false,.bool false] 62) from p.o);have a5:(wc.drewN nq).cell? ⟨E.mb,3,none⟩=some (.slice b5 (n+1) b6):=b3;have b7:(wc.drewN nq).cell? ⟨E.mb,13,none⟩=some (.slice (some ⟨T,V,none⟩) h E.gc):=a3;have ce:(wc.drewN nq).cell? ⟨T,V+n*3,none⟩=some (.string ⟨g.body.toArray⟩):=z0;have ch:(wc.drewN nq).cell? ⟨T,V+n*3+1,none⟩=some (.bool g.F3):=z1;have ci:(wc.drewN nq).cell? ⟨T,V+n*3+2,none⟩=some (.bool g.ok):=z2;have cb:(wc.drewN nq).frozen? ⟨W.heap.size+1,0,none⟩=false:=ab;have cc:(wc.drewN nq).frozen? ⟨W.heap.size+1,1,none⟩=false:=af;have cd:(wc.drewN nq).frozen? ⟨W.heap.size+1,2,none⟩=false:=al;have b8:(wc.drewN nq).cell? ⟨W.heap.size+1,0,none⟩=some (.string ⟨#[]⟩):=r0;have b9:(wc.drewN nq).cell? ⟨W.heap.size+1,1,none⟩=some (.bool false):=r1;have ca:(wc.drewN nq).cell? ⟨W.heap.size+1,2,none⟩=some (.bool false):=r2;clear b3 a3 z0 z1 z2 ab af al r0 r1 r2 Q aU p;generalize wc.drewN nq=w8 at*;have a8:=ax w8 1;have b2:=ad (b1.o.next a8);have b0:=ad (bJ.o.t (bC.ai (M:=R) a8));have y:=ad (Jt b2.o b0.o (show w8.drew.heap[W.heap.size+1]? =_ from bs.o) ⟨bx.o,N.o.2⟩ g.body g.F3 g.ok);clear a8;go_region_law (fail);all_goals
      clear a5 b7 ce ch ci cb cc cd b8 b9 ca;go_wp2_with fail;refine aD (lT rfl rfl y.o.1) rfl ?_;rw[ay.o];exact⟨rfl,R,y.o.2⟩
  ·have i0:=b.o.c;have y:=ad (Jt b.o.mx b.o.st b.o.g N.o t true true);have O:=ad (show sx E.env u S=(S,some ⟨t,true,true⟩) by
    obtain⟨r,z⟩:=J.o;unfold sx;cases X:Xr S.inl (nE u) with
    |none=>rw[X] at z;cases z
    |some t'=>rw[X] at r;cases r;rfl)
   go_wp2_with fail;refine aD (lT rfl rfl y.o.1) rfl ?_;rw[O.o];exact⟨rfl,s,y.o.2⟩
variable{d:Bool}{p:Bs}{z:Deep}{s:List Nat}{k:ME}{h y:Nat}{r:Nd}{e a:Option Addr}{l:PS}{w:U}{i:aaK}
theorem Rq(R:h≤1000)(H:MX k i s l p)(J:kl k z w (h+1) r){b1 b2 b3 b4:Nat}{ac:Nat}{b:U}
 (F:i.heap[b1]? =some (.cells #[.pointer (some ⟨k.mb,0,none⟩)] 81))(G:i.heap[b2]? =some (.cells (eH r.kind r.place r.text (.slice e r.attrs.length ac) (.slice a r.kids.length y)).toArray 37))
 (L:fu (fun b=>b∉s) i r (wZ r.kind r.place r.text (.slice e r.attrs.length ac) (.slice a r.kids.length y)))(j:i.heap[b3]? =some (.cells (qz w).toArray 23))(I:i.heap[b4]? =some (.cells (zv b h d).toArray 109))(O:bq k.inc l (wN r))(N:p.length≤262144):
 Calls Tryz.prog 138 #[.pointer (some ⟨b1,0,none⟩),.pointer (some ⟨b2,0,none⟩),.pointer (some ⟨b3,0,none⟩),.pointer (some ⟨b4,0,none⟩)] i (dk k s i p (bT k.env z w r false l p.length)):=by
 have A:=ad (J i s l p false _ H L O N);obtain⟨q,hq⟩:∃q,bT k.env z w r false l p.length=q:=⟨_,rfl⟩;rw[hq] at A⊢;obtain⟨d1,K⟩:∃d1,h+1=d1:=⟨_,rfl⟩;rw[K] at A;have Q:=ad (show((d1:Nat):Int)=(h:Int)+1 by omega);rw[show Tp w d1 false=.agg #[.string ⟨w.scheme.toArray⟩,.string ⟨w.host.toArray⟩,.int .i64 w.port,.string ⟨w.path.toArray⟩,.string ⟨w.query.toArray⟩,.bool w.hq,.int .i64 ((h:Int)+1),.bool false] by rw[←Q.o]] at A;have T:=aj F 0;obtain⟨Y,Z,x2,x3,x4⟩:=qX5 (aj G) 0 1 2 3 4;have u0:i.cell? ⟨b3,0,none⟩=some (.string ⟨w.scheme.toArray⟩):=tH _ _ 0 _ _ _ j;have u1:i.cell? ⟨b3,1,none⟩=some (.string ⟨w.host.toArray⟩):=tH _ _ 1 _ _ _ j;have u2:i.cell? ⟨b3,2,none⟩=some (.int .i64 w.port):=tH _ _ 2 _ _ _ j;have u3:i.cell? ⟨b3,3,none⟩=some (.string ⟨w.path.toArray⟩):=tH _ _ 3 _ _ _ j;have u4:i.cell? ⟨b3,4,none⟩=some (.string ⟨w.query.toArray⟩):=tH _ _ 4 _ _ _ j;have u5:i.cell? ⟨b3,5,none⟩=some (.bool w.hq):=tH _ _ 5 _ _ _ j;have X:=aj I 6;have i1:(h:Int)≤1000:=by omega
 have i0:(0:Int)≤(h:Int):=by omega
 clear hq J H L F G j I O N K R;go_enter Tryz.func138,Tryz.ntmps138;go_wp2_with fail;refine A.o.m ?_;rintro en D C;clear T Y Z x2 x3 x4 u0 u1 u2 u3 u4 u5 X;obtain⟨B,V⟩:=q;cases V with
 |yes t=>obtain⟨rfl,c⟩:=C;have x:=ad (show dk k s i p (B,.yes t) (.returned (.bool true)) D from⟨rfl,c⟩);clear c;go_wp2_with fail;go_ret;exact x.o
 |no=>obtain⟨rfl,c⟩:=C;have x:=ad (show dk k s i p (B,.no) (.returned (.bool false)) D from⟨rfl,c⟩);clear c;go_wp2_with fail;go_ret;exact x.o
 |wait=>obtain⟨rfl,c⟩:=C;have x:=ad (show dk k s i p (B,.wait) (.panicked [gA]) D from⟨rfl,c⟩);clear c;go_wp2_with fail;exact⟨rfl,x.o⟩
theorem NZ(H:MX k i s l p)(O:kl k z w h r){b1 b2 b4 V X:Nat}{kn kc:Nat}(aa:1≤kn){n:Nd}{av:aaL}{xd:Nat}
 (K:i.heap[b1]? =some (.cells #[.pointer (some ⟨k.mb,0,none⟩)] 81))(L:i.cell? ⟨b2,4,none⟩=some (.slice (some ⟨V,X,none⟩) kn kc))
 (Q:fu (fun b=>b∉s) i r (wZ r.kind r.place r.text (.slice e r.attrs.length y) (.slice a r.kids.length xd)))(u:∀(j:Nat) (v:aaL),(eH r.kind r.place r.text (.slice e r.attrs.length y) (.slice a r.kids.length xd))[j]? =some v→i.cell? ⟨V,X+j,none⟩=some v)(N:i.heap[b4]? =some (.cells (zv w h d).toArray 109))(T:bq k.inc l (wN r))(R:p.length≤262144):
 Calls Tryz.prog 50 #[.pointer (some ⟨b1,0,none⟩),.pointer (some ⟨b2,0,none⟩),.pointer (some ⟨b4,0,none⟩)] i (dk k s i p (bT k.env z w r d l p.length)):=by
 have B:=(ar i.heap.size i).drew;have F:=ad (bC.ai (M:=s) B);have A:=ad (O i.drew s l p d _ (H.next B) (Q.next B) T R);obtain⟨q,hq⟩:∃q,bT k.env z w r d l p.length=q:=⟨_,rfl⟩;rw[hq] at A⊢;have Y:=aj K 0;have G:=u 0 _ rfl;have x1:=u 1 _ rfl;have x2:=u 2 _ rfl;have x3:=u 3 _ rfl;have x4:=u 4 _ rfl;rw[qF] at G;obtain⟨Z,p1,p2,p3,p4,p5,p6,p7⟩:=qX8 (aj N) 0 1 2 3 4 5 6 7;have i1:(0:Int)<(kn:Int):=by omega
 have i2:0<kn:=aa;clear hq O H Q K N T R B u;obtain⟨I,oc⟩:=q;cases oc with
 |yes t=>
  go_enter Tryz.func50,Tryz.ntmps50;go_upto_region 1 with fail
  go_region_with (go_at_call 25;refine A.o.m ?_;rintro J C⟨rfl,c⟩;have D:=ad (dk.pre F.o (show dk k s i.drew p (I,.yes t) (.returned (.bool true)) C from⟨rfl,c⟩));clear c)
  all_goals
   clear Y G x1 x2 x3 x4 Z p1 p2 p3 p4 p5 p6 p7 L;go_wp2_with fail;go_ret;exact D.o
 |no=>
  go_enter Tryz.func50,Tryz.ntmps50;go_upto_region 1 with fail
  go_region_with (go_at_call 25;refine A.o.m ?_;rintro J C⟨rfl,c⟩;have D:=ad (dk.pre F.o (show dk k s i.drew p (I,.no) (.returned (.bool false)) C from⟨rfl,c⟩));clear c)
  all_goals
   clear Y G x1 x2 x3 x4 Z p1 p2 p3 p4 p5 p6 p7 L;go_wp2_with fail;go_ret;exact D.o
 |wait=>
  go_enter Tryz.func50,Tryz.ntmps50;go_upto_region 1 with fail
  go_region_dies
  all_goals
   refine A.o.m ?_;rintro J C⟨rfl,c⟩;exact⟨rfl,dk.pre F.o ⟨rfl,c⟩⟩
end Go.Proofs.YtlemddnecmmfgaaGreatDoor
namespace Go.Proofs.YtlemddnecmmfgaaGreatDoor
open Go.Lib
variable{a:Bs}{x I A j:Cm}{z G:Deep}{b:Nat}{i:Nd}{e:PS}{V u:PS×Oc}{k:U}{B d:U→Nd→PS→Nat→PS×Oc}{N:fx}
structure Up (S:PS) (r:PS×Oc):Prop where
 asked:S.asked<+:r.1.asked
 work:S.work≤r.1.work
 aU:S.aU≤r.1.aU
theorem Up.refl(S:PS)(o:Oc):Up S (S,o):=⟨List.prefix_rfl,ag _,ag _⟩
theorem Up.t{S:PS}{r q:PS×Oc}(h:Up S r)(a:Up r.1 q):Up S q:=⟨h.asked.t a.asked,bP h.work a.work,bP h.aU a.aU⟩
def Cut(k:Nat)(r a:PS×Oc):Prop:=
 (r.1.asked.length≤k∧a=r)∨(k<r.1.asked.length∧a.2=.wait∧a.1.asked=r.1.asked.take (k+1)∧a.1.work≤r.1.work∧a.1.aU≤r.1.aU)
def RA(k:Nat)(c b:Cm):Prop:=∀S a,Up S (c S a)∧(S.asked.length≤k→Cut k (c S a) (b S a))
theorem take_prefix{c:Type}{l m:List c}(h:l<+:m)(a:b≤l.length):m.take b=l.take b:=by obtain⟨t,rfl⟩:=h;rw[List.take_append_of_le_length a]
theorem Ye{g g':PS×Oc→PS×Oc}(l:Cut b V u)(a:Up V.1 (g V))(j:V.1.asked.length≤b→Cut b (g V) (g' V))(m:∀S,g' (S,.wait)=(S,.wait)):Cut b (g V) (g' u):=by
 rcases l with⟨h,rfl⟩|⟨h,c,d,e,i⟩
 ·exact j h
 ·obtain⟨o,n⟩:=u;have c:n=.wait:=c;subst c;rw[m];have p:=a.asked.length_le;refine .inr ⟨by omega,rfl, ?_,bP e a.work,bP i a.aU⟩;rw[take_prefix a.asked (by omega)];exact d
theorem Ya(h:∀S a,(x S a).1.asked=S.asked∧S.work≤(x S a).1.work∧S.aU≤(x S a).1.aU):RA b x x:=fun S a=>⟨⟨by rw[(h S a).1];exact List.prefix_rfl,(h S a).2.1,(h S a).2.2⟩,fun d=>.inl ⟨by rw[(h S a).1];exact d,rfl⟩⟩
def X8(t:Bs)(q:PS×Oc):PS×Oc:=match q with|(a,.yes b)=>(a,.yes (t++b))|q=>q
theorem Xx(t:Bs)(q:PS×Oc):(X8 t q).1=q.1:=by obtain⟨S,o⟩:=q;cases o<;>rfl
theorem Yb(c d:Cm)(S:PS)(a:Nat):K9 c d S a=(fun r:PS×Oc=>match r with|(b,.yes t)=>X8 t (d b (a+t.length))|q=>q) (c S a):=rfl
theorem ZL(h:Up e V)(t:Bs):Up e (X8 t V):=⟨by rw[Xx];exact h.asked,by rw[Xx];exact h.work,by rw[Xx];exact h.aU⟩
theorem ZM(h:Cut b V u)(t:Bs):Cut b (X8 t V) (X8 t u):=
 Ye (g:=X8 t) (g':=X8 t) h ⟨by rw[Xx];exact List.prefix_rfl,by rw[Xx];exact ag _,by rw[Xx];exact ag _⟩ (fun a=>.inl ⟨by rw[Xx];exact a,rfl⟩) (fun _=>rfl)
theorem Z1(i:RA b x I)(l:RA b A j):RA b (K9 x A) (K9 I j):=by
 intro S a;rw[Yb,Yb];have m:∀r:PS×Oc,Up r.1 ((fun r:PS×Oc=>match r with|(e,.yes t)=>X8 t (A e (a+t.length))|q=>q) r):=fun r=>by
  obtain⟨e,o⟩:=r;cases o with
  |yes t=>exact ZL (l e _).1 t
  |no=>exact Up.refl _ _
  |wait=>exact Up.refl _ _
 refine⟨(i S a).1.t (m _),fun n=> ?_⟩;refine Ye (g:=fun r:PS×Oc=>match r with|(e,.yes t)=>X8 t (A e (a+t.length))|q=>q) (g':=fun r:PS×Oc=>match r with|(e,.yes t)=>X8 t (j e (a+t.length))|q=>q) ((i S a).2 n) (m _) ?_ (fun _=>rfl);generalize x S a=r;intro h;obtain⟨e,o⟩:=r;cases o with
 |yes t=>exact ZM ((l e (a+t.length)).2 h) t
 |no=>exact .inl ⟨h,rfl⟩
 |wait=>exact .inl ⟨h,rfl⟩
theorem aaa(i:RA b x I)(l:RA b A j):RA b (RE x A) (RE I j):=fun S a=>by
 unfold RE;have m:∀r:PS×Oc,Up r.1 (Au r fun e=>A e a):=fun r=>by
  obtain⟨e,o⟩:=r;cases o with
  |yes t=>exact Up.refl _ _
  |no=>exact(l e _).1
  |wait=>exact Up.refl _ _
 refine⟨(i S a).1.t (m _),fun n=> ?_⟩;refine Ye (g:=fun r=>Au r fun e=>A e a) (g':=fun r=>Au r fun e=>j e a) ((i S a).2 n) (m _) ?_ (fun _=>rfl);generalize x S a=r;intro h;obtain⟨e,o⟩:=r;cases o with
 |yes t=>exact .inl ⟨h,rfl⟩
 |no=>exact(l e _).2 h
 |wait=>exact .inl ⟨h,rfl⟩
def Xt(E:fx)(k:Nat):fx:={E with fZ:=E.fZ.take k}
theorem YF{f:U→Nd→PS→Nat→PS×Oc}(h:∀u t S a,Up S (f u t S a))(u:U)(S:PS)(a:Nat)(g:j5):Up S (zx f u S a g):=by
 unfold zx;split
 ·exact Up.refl _ _
 split
 ·exact Up.refl _ _
 split
 ·exact Up.refl _ _
 exact h _ _ _ _
theorem YT(h:∀u t,RA b (fun S a=>B u t S a) (fun S a=>d u t S a))(u:U)(S:PS)(a:Nat)(g:j5)(c:S.asked.length≤b):Cut b (zx B u S a g) (zx d u S a g):=by
 unfold zx;split
 ·exact .inl ⟨c,rfl⟩
 split
 ·exact .inl ⟨c,rfl⟩
 split
 ·exact .inl ⟨c,rfl⟩
 exact(h _ _ _ _).2 c
theorem Z2(E:fx){f:U→Nd→PS→Nat→PS×Oc}(h:∀u t S a,Up S (f u t S a))(u:U)(S:PS)(a:Nat):Up S (zw E f u S a):=by
 have b:∀o,Up S ({S with asked:=S.asked++[u]},o):=fun o=>⟨List.prefix_append _ _,ag _,ag _⟩;unfold zw;cases Xr S.inl (nE u) with
 |some t=>exact YF h _ _ _ _
 |none=>
  cases E.fZ[S.asked.length]? with
  |none=>exact b _
  |some g=>exact(b .no).t (YF h _ _ _ _)
theorem ZN(E:fx)(h:∀u t,RA b (fun S a=>B u t S a) (fun S a=>d u t S a))(u:U)(S:PS)(a:Nat)(m:S.asked.length≤b):Cut b (zw E B u S a) (zw (Xt E b) d u S a):=by
 unfold zw;cases Xr S.inl (nE u) with
 |some t=>exact YT h _ _ _ _ m
 |none=>
  have p:(S.asked++[u]).length=S.asked.length+1:=by rw[bB];rfl
  rcases Nat.lt_or_ge S.asked.length b with n|o
  ·have e:(Xt E b).fZ[S.asked.length]? =E.fZ[S.asked.length]? :=XR n;rw[e];cases E.fZ[S.asked.length]? with
   |none=>exact .inl ⟨by show(S.asked++[u]).length≤b;omega,rfl⟩
   |some g=>exact YT h _ _ _ _ (by show(S.asked++[u]).length≤b;omega)
  ·have e:(Xt E b).fZ[S.asked.length]? =none:=by rw[List.getElem?_eq_none_iff];show(E.fZ.take b).length≤_;rw[gu];omega
   rw[e];have j:(S.asked++[u]).take (b+1)=S.asked++[u]:=oe (by omega);cases E.fZ[S.asked.length]? with
   |none=>exact .inr ⟨by show b<(S.asked++[u]).length;omega,rfl,j.symm,ag _,ag _⟩
   |some g=>
    have c:=YF (f:=B) (fun u t S a=>(h u t S a).1) u {S with asked:=S.asked++[u]} a g;have l:=c.asked.length_le;have i:b+1≤(S.asked++[u]).length:=by omega
    refine .inr ⟨ej i l,rfl, ?_,c.work,c.aU⟩;show S.asked++[u]=_;rw[take_prefix c.asked i];exact j.symm
theorem XT(S:PS)(a:List (Bs×Bs×Bool))(o:Oc):Up S (S.read a,o):=⟨List.prefix_rfl,ag _,ag _⟩
theorem Yc(S:PS)(o:Oc):Up S (S.step,o):=⟨List.prefix_rfl,fB _,ag _⟩
def Zl(k:Nat)(deep b:Deep):Prop:=(deep=none∧b=none)∨∃f c,deep=some f∧b=some c∧∀u t,RA k (fun S a=>f u t S a) (fun S a=>c u t S a)
theorem Zm(E:fx)(base:U)(l:Zl b z G)(s:Bs):RA b (fun S a=>gB E z base S a s) (fun S a=>gB (Xt E b) G base S a s):=fun S a=>by
 have e:BR (Xt E b) s=BR E s:=rfl;simp only[gB,e];cases BR E s with
 |none=>exact⟨XT _ _ _,fun c=>.inl ⟨c,rfl⟩⟩
 |some r=>
  show Up S (if _ then _ else _)∧(_→Cut b (if _ then _ else _) (if _ then _ else _));have j:(Xt E b).inc=E.inc:=rfl;rw[j];by_cases d:(eW base r).2≠0∨E.inc≤(S.read (dd s)).aU
  ·rw[ah d,ah d];exact⟨XT _ _ _,fun c=>.inl ⟨c,rfl⟩⟩
  ·rw[ae d,ae d];rcases l with⟨rfl,rfl⟩|⟨f,m,rfl,rfl,i⟩
   ·exact⟨XT _ _ _,fun c=>.inl ⟨c,rfl⟩⟩
   ·have h:=Z2 E (f:=f) (fun u t S a=>(i u t S a).1) (eW base r).1 {S.read (dd s) with aU:=(S.read (dd s)).aU+1} a;exact⟨⟨h.asked,h.work,bP (fB _) h.aU⟩,fun c=>ZN E i _ _ _ c⟩
theorem Yf(E:fx)(k:Nat)(base:U)(i:Zl k z G):JD E (Xt E k) z G base (RA k) where
 nil:=Ya fun S _=>⟨rfl,ag _,ag _⟩
 no:=Ya fun S _=>⟨rfl,ag _,ag _⟩
 step:=fun h S a=>⟨(Yc S .no).t (h S.step a).1,fun b=>(h S.step a).2 b⟩
 text:=fun vs t=>Ya fun S a=>by
  unfold lS;split
  ·exact⟨rfl,ag _,ag _⟩
  ·split<;>exact⟨rfl,ag _,ag _⟩
 inl:=fun l t=>Ya fun S a=>by show(lV base l t S).asked=_∧_≤(lV base l t S).work∧_≤(lV base l t S).aU;unfold lV;split<;>exact⟨rfl,ag _,ag _⟩
 Tv:=Zm E base i
 seq:=Z1
 Tu:=aaa
 test:=fun l c m d n j i S a=>by
  have e:∀u,gr (Xt E k).h (Xt E k).t (Xt E k).fs u=gr E.h E.t E.fs u:=fun _=>rfl;simp only[AA];split
  ·exact⟨(Yc S .no).t (i _ _).1,fun b=>(i _ _).2 b⟩
  ·show Up S (if _ then _ else _)∧(_→Cut k (if _ then _ else _) (if _ then _ else _));rw[show gr (Xt E k).h (Xt E k).t (Xt E k).fs=gr E.h E.t E.fs from rfl];by_cases h:oz (bt (gr E.h E.t E.fs) (gd l).1).1=true
   ·rw[ah h,ah h];exact⟨(Yc S .no).t ((XT _ _ .no).t (j _ _).1),fun b=>(j _ _).2 b⟩
   ·rw[ae h,ae h];exact⟨(Yc S .no).t ((XT _ _ .no).t (i _ _).1),fun b=>(i _ _).2 b⟩
theorem YG(E:fx)(k:Nat):∀d,Zl k (rl E d) (rl (Xt E k) d)
 |0=>.inl ⟨rfl,rfl⟩
 |d+1=>.inr ⟨_,_,rfl,rfl,fun u t=>(vg (Yf E k u (YG E k d)) t).1 false⟩
theorem Zn(h:V.2=.wait):N6 V=⟨[],false,false,V.1.asked,V.1.aU,V.1.work,V.1.reads⟩:=by unfold N6;rw[h]
theorem Y0(r:PS×Oc):(N6 r).asked=r.1.asked∧(N6 r).work=r.1.work∧(N6 r).aU=r.1.aU:=by unfold N6;split<;>exact⟨rfl,rfl,rfl⟩
theorem Zo(E:fx)(a:Nat)(base:U)(t:Nd)(k:Nat):
 ((qK E a base t).asked.length≤k→qK (Xt E k) a base t=qK E a base t)∧
 (k<(qK E a base t).asked.length→(qK (Xt E k) a base t).done=false∧(qK (Xt E k) a base t).ok=false∧(qK (Xt E k) a base t).out=[]∧
  (qK (Xt E k) a base t).asked=(qK E a base t).asked.take (k+1)∧(qK (Xt E k) a base t).work≤(qK E a base t).work∧(qK (Xt E k) a base t).aU≤(qK E a base t).aU):=by
 unfold qK;by_cases b:xe t=0
 ·rw[ah b,ah b];have h:Cut k (bT E (rl E a) base t false N8 0) (bT (Xt E k) (rl (Xt E k) a) base t false N8 0):=((vg (Yf E k base (YG E k a)) t).1 false N8 0).2 (aH _);have e:=Y0 (bT E (rl E a) base t false N8 0);rw[e.1,e.2.1,e.2.2];rcases h with⟨d,c⟩|⟨d,c,i,j,l⟩
  ·exact⟨fun _=>by rw[c],fun h=>by omega⟩
  ·exact⟨fun h=>by omega,fun _=>by rw[Zn c];exact⟨rfl,rfl,rfl,i,j,l⟩⟩
 ·rw[ae b,ae b];exact⟨fun _=>rfl,fun h=>by simp at h⟩
structure X9 (E:fx) (S:PS):Prop where
 asked:S.asked.length≤S.aU
 aU:S.aU≤E.inc
 ok:∀u∈S.asked,aQ u=0
def Yz(E:fx)(a:Nat)(r:PS×Oc):Prop:=X9 E r.1∧match r.2 with
 |.yes t=>r.1.asked.length≤E.fZ.length∧a+t.length≤oP
 |.no=>r.1.asked.length≤E.fZ.length
 |.wait=>r.1.asked.length=E.fZ.length+1
def Zp(E:fx)(c b:Cm):Prop:=∀S a,X9 E S→S.asked.length≤E.fZ.length→a≤oP→Yz E a (c S a)
theorem Yg(h:X9 N e)(c:e.asked.length≤N.fZ.length)(t:Bs)(a:Nat):Yz N a (e,jq t a):=by
 refine⟨h, ?_⟩;unfold jq;by_cases b:oP<a+t.length
 ·simp only[ah b];exact c
 ·simp only[ae b];exact⟨c,by omega⟩
theorem X9.read{E:fx}{S:PS}(h:X9 E S)(us):X9 E (S.read us):=⟨h.asked,h.aU,h.ok⟩
theorem X9.step{E:fx}{S:PS}(h:X9 E S):X9 E S.step:=⟨h.asked,h.aU,h.ok⟩
theorem zS(h:(ju a).2=0):aQ (ju a).1=0:=by
 unfold ju at h⊢;split at h
 ·rename_i b;rw[ah b];have c:=qT (s:=a) (v:=(cZ a).1) (by rw[←b]);exact(eC _).2 (Jc c.ok)
 ·rename_i b;exact(b h).elim
theorem CY(h:(hZ k).2=0):aQ (hZ k).1=0:=by
 unfold hZ at h⊢;split at h
 ·rename_i a;rw[ah a];exact(eC _).2 (Jc ((eC _).1 a))
 ·rename_i a;exact(a h).elim
theorem Jd(h:(eW k a).2=0):aQ (eW k a).1=0:=by
 unfold eW at h⊢;split at h
 ·exact absurd h (by decide)
 rename_i d;split at h
 ·rename_i e;rw[ae d,ah e];unfold wM at h⊢;split at h
  ·rename_i c;rw[ah c];split at h
   ·rename_i b;rw[ah b];exact zS h
   ·exact absurd h (by decide)
  ·rename_i c;rw[ae c];split at h
   ·rename_i b;rw[ah b];exact zS h
   ·rename_i b;rw[ae b];exact CY h
 ·exact absurd h (by decide)
theorem Z3(m:Zp N x I)(n:Zp N A j):Zp N (K9 x A) (K9 I j):=by
 intro S a i k l;rw[Yb];have e:=m S a i k l;revert e;obtain⟨h,o⟩:=x S a;intro e;cases o with
 |no=>exact e
 |wait=>exact e
 |yes t=>
  have b:=n h (a+t.length) e.1 e.2.1 e.2.2;show Yz N a (X8 t (A h (a+t.length)));revert b;obtain⟨p,o2⟩:=A h (a+t.length);intro b;cases o2 with
  |no=>exact b
  |wait=>exact b
  |yes q=>exact⟨b.1,b.2.1,by have:=b.2.2;rw[bB];omega⟩
theorem aab(l:Zp N x I)(m:Zp N A j):Zp N (RE x A) (RE I j):=by
 intro S a i k e;have b:=l S a i k e;unfold RE;revert b;obtain⟨h,o⟩:=x S a;intro b;cases o with
 |no=>exact m h a b.1 b.2 e
 |wait=>exact b
 |yes t=>exact b
theorem Zq(h:∀u t,Zp N (fun S a=>B u t S a) (fun S a=>B u t S a))(u:U)(S:PS)(a:Nat)(g:j5)(b:X9 N S)(c:S.asked.length≤N.fZ.length)(d:a≤oP):Yz N a (zx B u S a g):=by
 unfold zx;split
 ·exact⟨b,c⟩
 split
 ·exact Yg b c _ _
 split
 ·exact⟨b,c⟩
 exact h _ _ _ _ b c d
theorem aac(h:∀u t,Zp N (fun S a=>B u t S a) (fun S a=>B u t S a))(u:U)(k:aQ u=0)(S:PS)(a:Nat)(l:S.asked.length+1≤S.aU)(c:X9 N S)(j:S.asked.length≤N.fZ.length)(d:a≤oP):Yz N a (zw N B u S a):=by
 have m:(S.asked++[u]).length=S.asked.length+1:=by rw[bB];rfl
 have i:X9 N {S with asked:=S.asked++[u]}:=⟨by show(S.asked++[u]).length≤S.aU;omega,c.aU,fun v b=>by
  rcases gZ.1 b with b|b
  ·exact c.ok v b
  ·rw[fj.1 b];exact k⟩
 unfold zw;cases Xr S.inl (nE u) with
 |some t=>exact Zq h _ _ _ _ c j d
 |none=>
  cases e:N.fZ[S.asked.length]? with
  |none=>rw[List.getElem?_eq_none_iff] at e;exact⟨i,by show(S.asked++[u]).length=_;omega⟩
  |some g=>have:=(cH.1 e).1;exact Zq h _ _ _ _ i (by show(S.asked++[u]).length≤_;omega) d
def Zr(E:fx)(deep:Deep):Prop:=∀f,deep=some f→∀u t,Zp E (fun S a=>f u t S a) (fun S a=>f u t S a)
theorem Zs(E:fx)(base:U)(j:Zr E z)(s:Bs):Zp E (fun S a=>gB E z base S a s) (fun S a=>gB E z base S a s):=fun S a b c h=>by
 simp only[gB];cases BR E s with
 |none=>exact⟨b.read _,c⟩
 |some r=>
  show Yz E a (if _ then _ else _);by_cases d:(eW base r).2≠0∨E.inc≤(S.read (dd s)).aU
  ·rw[ah d];exact⟨b.read _,c⟩
  ·rw[ae d];cases z with
   |none=>exact⟨b.read _,c⟩
   |some f=>have i:(eW base r).2=0:=Decidable.not_not.1 fun e=>d (.inl e);have k:¬E.inc≤S.aU:=fun e=>d (.inr e);have l:=b.asked;exact aac (j f rfl) _ (Jd i) _ a (by show S.asked.length+1≤S.aU+1;omega) ⟨by show S.asked.length≤S.aU+1;omega,by show S.aU+1≤E.inc;omega,b.ok⟩ c h
theorem YC(E:fx)(base:U)(k:Zr E z):JD E E z z base (Zp E) where
 nil:=fun S a b i j=>⟨b,i,by simpa using j⟩
 no:=fun S a b i j=>⟨b,i⟩
 step:=fun h S a b i j=>h S.step a b.step i j
 text:=fun vs t S a b i j=>by
  show Yz E a (lS E vs t S a);unfold lS;split
  ·exact Yg b i _ _
  ·split
   ·exact⟨b.read _,i⟩
   ·exact Yg (b.read _) i _ _
 inl:=fun l t S a b i j=>by
  have e:(lV base l t S).asked=S.asked∧(lV base l t S).aU=S.aU:=by unfold lV;split<;>exact⟨rfl,rfl⟩
  refine⟨⟨?_, ?_, ?_⟩, ?_,by simpa using j⟩
  ·show(lV base l t S).asked.length≤(lV base l t S).aU;rw[e.1,e.2];exact b.asked
  ·show(lV base l t S).aU≤_;rw[e.2];exact b.aU
  ·show∀u∈(lV base l t S).asked,_;rw[e.1];exact b.ok
  ·show(lV base l t S).asked.length≤_;rw[e.1];exact i
 Tv:=Zs E base k
 seq:=Z3
 Tu:=aab
 test:=fun l c n d o m k S a b i j=>by
  show Yz E a (if _ then _ else _);split
  ·exact k _ _ b.step i j
  ·split
   ·exact m _ _ (b.step.read _) i j
   ·exact k _ _ (b.step.read _) i j
theorem Zt(E:fx):∀d,Zr E (rl E d)
 |0=>fun f h=>by cases h
 |d+1=>fun f h u t=>by cases h;exact(vg (YC E u (Zt E d)) t).1 false
theorem ZO(E:fx)(d:Nat)(base:U)(t:Nd):Yz E 0 (bT E (rl E d) base t false N8 0):=
 (vg (YC E base (Zt E d)) t).1 false N8 0 ⟨ag _,aH _,fun u h=>by cases h⟩ (aH _) (aH _)
theorem ZP(E:fx)(d:Nat)(base:U)(t:Nd)(vs:Bool)(S:PS)(a:Nat):Up S (oT E (rl E d) base t vs S a):=
 ((vg (Yf E 0 base (YG E 0 d)) t).2 vs S a).1
def RZ(c b:Cm):Prop:=∀S a,(c S a).1.aU=S.aU
theorem Zu(E:fx)(base:U):JD E E none none base RZ where
 nil:=fun S a=>rfl
 no:=fun S a=>rfl
 step:=fun h S a=>h S.step a
 text:=fun vs t S a=>by
  show(lS E vs t S a).1.aU=_;unfold lS;split
  ·rfl
  ·split<;>rfl
 inl:=fun l t S a=>by show(lV base l t S).aU=_;unfold lV;split<;>rfl
 Tv:=fun s S a=>by
  simp only[gB];cases BR E s with
  |none=>rfl
  |some r=>show(if _ then _ else _:PS×Oc).1.aU=_;split<;>rfl
 seq:=fun{c k d m} i e S a=>by
  rw[Yb];have b:=i S a;revert b;obtain⟨j,o⟩:=c S a;intro b;cases o with
  |no=>exact b
  |wait=>exact b
  |yes t=>show(X8 t (d j (a+t.length))).1.aU=_;rw[Xx,e];exact b
 Tu:=fun{c k d m} i e S a=>by
  unfold RE;have b:=i S a;revert b;obtain⟨j,o⟩:=c S a;intro b;cases o with
  |no=>show(d j a).1.aU=_;rw[e];exact b
  |wait=>exact b
  |yes t=>exact b
 test:=fun l c k d m i e S a=>by
  show(if _ then _ else _:PS×Oc).1.aU=_;split
  ·exact e _ _
  ·split
   ·exact i _ _
   ·exact e _ _
theorem Zv(E:fx)(d:Nat)(base:U)(h:i.kind=1):1≤(bT E (rl E d) base i false N8 0).1.work:=by obtain⟨k,p,b,l,a⟩:=i;obtain rfl:k=1:=h;rw[xy,ae (by decide),ae (by decide),ae (by decide),ae (by decide),ae (by decide),ae (by decide)];have:=(ZP E d base (.mk 1 p b l a) (false||decide ((1:Int)=13)) N8.step 0).work;rw[xx] at this;exact this
theorem YH(E:fx)(d:Nat)(base:U)(e:xe i=0):
 (qK E d base i).aU≤E.inc∧(d=0→(qK E d base i).aU=0)∧(qK E d base i).asked.length≤(qK E d base i).aU∧(qK E d base i).out.length≤oP∧
 ((qK E d base i).ok=true→(qK E d base i).done=true)∧((qK E d base i).ok=false→(qK E d base i).out=[])∧1≤(qK E d base i).work∧(∀u∈(qK E d base i).asked,aQ u=0)∧
 ((qK E d base i).done=true∨(qK E d base i).asked.length=E.fZ.length+1):=by
 have j:i.kind=1:=by
  unfold xe at e;by_cases j:i.kind=1
  ·exact j
  ·rw[ae j] at e;exact absurd e (by decide)
 have k:=ZO E d base i;have c:d=0→(bT E (rl E d) base i false N8 0).1.aU=0:=fun h=>by subst h;exact(vg (Zu E base) i).1 false N8 0
 have b:=Zv E d base j;unfold qK;rw[ah e];revert k c b;obtain⟨S,o⟩:=bT E (rl E d) base i false N8 0;intro k c b;obtain⟨a,l⟩:=k;cases o with
 |yes x=>exact⟨a.aU,c,a.asked,by have:=l.2;show x.length≤_;omega,fun _=>rfl,fun h=>(by cases h),b,a.ok,.inl rfl⟩
 |no=>exact⟨a.aU,c,a.asked,aH _,fun h=>(by cases h),fun _=>rfl,b,a.ok,.inl rfl⟩
 |wait=>exact⟨a.aU,c,a.asked,aH _,fun h=>(by cases h),fun _=>rfl,b,a.ok,.inr l⟩
