/- The walk of the maker's got. -/
import Derived.Test.YtogchgjfialleaaGreatDoorKbo
set_option linter.unusedVariables false
set_option maxRecDepth 100000
set_option maxHeartbeats 4000000
namespace Go.Proofs.YtogchgjfialleaaGreatDoor
open Go.RowKit
theorem Ar(u:U):∀l:List U,nB (l++[u])=nB l++qz u
 |[]=>by show qz u++nB []=[]++qz u;rw[nB,jm,kK]
 |x::r=>by rw[di,nB,nB,Ar u r,jl]
section
variable{E:ME}{W W':World}{S:PS}{out:Bs}{av rv ov:Value}
theorem MK.Rr(H:MK E W S out av rv ov){a:World}{O:Obj}{g cap n:Nat}{u:U}(m:S.asked.length=n)
 (o:a.ownsRow E.w0.heap.size 34 6 (.slice (some ⟨g,0,none⟩) (n+1) cap) (n+1) (nB S.asked++qz u))(k:(W.alloc O).grownBy a av.ownBlock)(c:some g=av.ownBlock∨W.heap.size+1≤g):
 (MK E (a.setCell ⟨E.mb,3,none⟩ (.slice (some ⟨g,0,none⟩) (n+1) cap)) {S with asked:=S.asked++[u]} out (.slice (some ⟨g,0,none⟩) (n+1) cap) rv ov∧
  bC (MB E av rv ov) W (MB E (.slice (some ⟨g,0,none⟩) (n+1) cap) rv ov) (a.setCell ⟨E.mb,3,none⟩ (.slice (some ⟨g,0,none⟩) (n+1) cap)))∧a.heap[E.mb]? =some (.cells (Gw E S av rv ov).toArray 65):=by
 obtain⟨d,h,i,b,p⟩:=H.grown (az W O) k (.inl rfl) 3 (.slice (some ⟨g,0,none⟩) (n+1) cap);have l:some E.mb≠some g:=by
  obtain⟨n1,n2,r,s⟩:=fF.1 H.vW;intro e;injection e with e;rcases c with q|q
  ·exact(n2 E.mb (.inl rfl)).1 (by rw[←q,e])
  ·have:=H.lt;omega
 refine⟨H.swap (v:=av) (v':=.slice (some ⟨g,0,none⟩) (n+1) cap) d h i (aw (j:=3) b) rfl (c.elim (fun q=>.inl q) (fun q=>.inr ⟨g,rfl,by omega⟩)) (.inl ⟨rfl,rfl,rfl,rfl,rfl,rfl, ?_⟩),b⟩;show World.ownsRow _ _ _ 6 _ (S.asked++[u]).length (nB (S.asked++[u]));rw[bB,m,Ar];exact o.kept p (.inr (fun e=>l e.symm))
end
theorem T7:(Tryz.prog.info? 34).map (fun i=>(i.zero,i.size,i.bytes))=some (some (.agg #[.string ⟨#[]⟩,.string ⟨#[]⟩,.int .i64 0,.string ⟨#[]⟩,.string ⟨#[]⟩,.bool false]),6,80):=by kernel_rfl
theorem Rs:Tryz.prog.underlying 27=some (.slice 34):=by kernel_rfl
theorem Vt:Tryz.prog.underlying 62=some (.map 9 96):=by kernel_rfl
theorem WC(W:World):(zeroValue 96).run Tryz.prog W=.ok (.agg #[.string ⟨#[]⟩]) W:=by
 have a:Tryz.t96.zero=some (.agg #[.string ⟨#[]⟩]):=by kernel_rfl
 simp[zeroValue,go_sem,a]
theorem MX.off{E:ME}{W W':World}{M:List Nat}{S:PS}{out:Bs}{p:Nat}(H:MX E W M S out)(n:p∉M)(m:E.w0.heap.size≤p)(k:ak p W W'):MX E W' M S out:=by obtain⟨av,rv,ov,h,rfl⟩:=H;have i:∀b∈MB E av rv ov,W'.heap[b]? =W.heap[b]? :=fun b j=>k.block b (h.mlt b j).2 (by intro e;injection e with e;exact n (e▸j));have d:∀v g,v.ownBlock=some g→v∈[av,rv,ov]→W'.heap[g]? =W.heap[g]? :=fun v g a c=>i g (bY _ (bY _ (cQ.2 ⟨v,c,a⟩)));refine⟨av,rv,ov,⟨h.up.trans (k.below m h.up.size),(i _ eF).trans h.box,bw h.asked fun g q=>d av g q (by simp),bw h.reads fun g q=>d rv g q (by simp),bw h.lE fun g q=>d ov g q (by simp), ?_,h.vW,h.far⟩,rfl⟩;obtain⟨l,a,c⟩:=h.inl;exact⟨l,ri a (i _ (bY _ eF)),c⟩
theorem bC.off{a M:List Nat}{W0 W W':World}{p:Nat}(h:bC a W0 M W)(l:W0.heap.size≤p)(d:ak p W W'):bC a W0 M W':=
 ⟨bP h.size d.size,fun b c i=>by obtain⟨j,k⟩:=h.cO b c i;exact⟨j,(d.block b (ej c h.size) (by intro e;injection e with e;omega)).trans k⟩⟩
abbrev WD(g:j5):Value:=.agg #[.string ⟨g.body.toArray⟩,.bool g.F3,.bool g.ok]
theorem lT{fn:Func}{W:World}{tmps:Array Value}{b c:Nat}{v0 v1 v2:Value}(h:fn.results=#[.cell c 24])(d:tmps.getD c undef=.pointer (some ⟨b,0,none⟩))(a:W.heap[b]? =some (.cells #[v0,v1,v2] 24)):
 (results fn tmps).run Tryz.prog W=.ok (.agg #[v0,v1,v2]) W:=by
 have i:=aj 0 a;have j:=aj 1 a;have k:=aj 2 a;have e:tmps[c]?.getD undef=.pointer (some ⟨b,0,none⟩):=by rw[←d];simp
 simp[results,h,go_sem,e,i,j,k]
theorem MX.Tq{E:ME}{W:World}{M:List Nat}{S:PS}{out:Bs}(H:MX E W M S out):W.cell? ⟨E.mb,14,none⟩=some (.map (some E.im)):=by obtain⟨av,rv,ov,a,_⟩:=H;exact aj 14 a.box
theorem MX.up{E:ME}{W:World}{M:List Nat}{S:PS}{out:Bs}(H:MX E W M S out):Below E.w0.heap.size E.w0 W:=by obtain⟨av,rv,ov,a,_⟩:=H;exact a.up
theorem MX.get{E:ME}{W:World}{M:List Nat}{S:PS}{out:Bs}(H:MX E W M S out)(k:Bs):
 (Instr.lookup 62 (.map (some E.im)) (.string ⟨k.toArray⟩) true).run Tryz.prog W=.ok (.tuple #[.agg #[.string ⟨((fb S.inl k).getD []).toArray⟩],.bool (fb S.inl k).isSome]) W:=by
 obtain⟨av,rv,ov,d,_⟩:=H;obtain⟨l,a,b⟩:=d.inl;rw[fz a _ _ Vt _ (WC W) _ _];have c:assoc l (⟨k.toArray⟩:ByteArray).data.toList=(fb S.inl k).map fun t=>.agg #[.string ⟨t.toArray⟩]:=b k;rw[c];cases fb S.inl k<;>rfl
theorem MX.WE{E:ME}{W:World}{M:List Nat}{S:PS}{out:Bs}(H:MX E W M S out){k t:Bs}{b:Bool}(a:(fb S.inl k).getD []=t∧(fb S.inl k).isSome=b):
 (Instr.lookup 62 (.map (some E.im)) (.string ⟨k.toArray⟩) true).run Tryz.prog W=.ok (.tuple #[.agg #[.string ⟨t.toArray⟩],.bool b]) W:=by
 have h:=H.get k;rw[a.1,a.2] at h;exact h
def sx(P:fx)(u:U)(S:PS):PS×Option j5:=
 match fb S.inl (nE u) with
 |some t=>(S,some ⟨t,true,true⟩)
 |none=>({S with asked:=S.asked++[u]},P.fZ[S.asked.length]?)
theorem N0(P:fx)(f:U→Nd→PS→Nat→PS×Oc)(u:U)(S:PS)(ahead:Nat):zw P f u S ahead=match sx P u S with|(a,some g)=>zx f u a ahead g|(a,none)=>(a,.wait):=by
 unfold zw sx;cases fb S.inl (nE u) with
 |some t=>rfl
 |none=>dsimp only;cases P.fZ[S.asked.length]? <;>rfl
def WG(E:ME)(M:List Nat)(W:World)(out:Bs)(r:PS×Option j5):Ending→World→Prop:=fun b w'=>match r.2 with
 |some g=>b=.returned (WD g)∧∃a,MX E w' a r.1 out∧bC M W a w'
 |none=>b=.panicked [gA]∧∃a,MX E w' a r.1 out∧bC M W a w'
theorem MX.mlt{E:ME}{W:World}{M:List Nat}{S:PS}{out:Bs}(H:MX E W M S out):∀b∈M,E.w0.heap.size≤b∧b<W.heap.size:=by obtain⟨av,rv,ov,a,rfl⟩:=H;exact a.mlt
structure Rt (E:ME) (W:World) (M:List Nat) (S:PS) (out t:Bs) (u:U) (ib:Nat) (wx:World):Prop where
 c:wx.cell? ⟨ib,0,none⟩=some (.string ⟨t.toArray⟩)
 mx:MX E wx M S out
 st:bC M W M wx
 g:wx.heap[W.heap.size+1]? =some (.cells #[.string ⟨#[]⟩,.bool false,.bool false] 24)
 ur:wx.heap[W.heap.size]? =some (.cells #[.string ⟨u.scheme.toArray⟩,.string ⟨u.host.toArray⟩,.int .i64 u.port,.string ⟨u.path.toArray⟩,.string ⟨u.query.toArray⟩,.bool u.hq] 34)
theorem Ru{E:ME}{W b:World}{M:List Nat}{S:PS}{out t:Bs}{u:U}(H:MX E b M S out)(n:bC M W M b)(d:b.heap[W.heap.size+1]? =some (.cells #[.string ⟨#[]⟩,.bool false,.bool false] 24))(h:b.heap[W.heap.size]? =some (.cells #[.string ⟨u.scheme.toArray⟩,.string ⟨u.host.toArray⟩,.int .i64 u.port,.string ⟨u.path.toArray⟩,.string ⟨u.query.toArray⟩,.bool u.hq] 34)){a:Nat}(m:b.heap[a]? =some (.cells #[.string ⟨#[]⟩] 96))(k:a∉M)(o:W.heap.size+1<a)(i:E.w0.heap.size≤a):
 Rt E W M S out t u a (b.setCell ⟨a,0,none⟩ (.string ⟨t.toArray⟩)):=by
 have c:ak a b (b.setCell ⟨a,0,none⟩ (.string ⟨t.toArray⟩)):=(ak.refl _ _).set;have l:(b.setCell ⟨a,0,none⟩ (.string ⟨t.toArray⟩)).heap[a]? =some (.cells #[.string ⟨t.toArray⟩] 96):=aw (j:=0) m;refine⟨aj 0 l,H.off k i c,n.off (by omega) c, ?_,(c.block _ (aB.1 h).1 (by intro e;injection e with e;omega)).trans h⟩;exact(c.block _ (aB.1 d).1 (by intro e;injection e with e;omega)).trans d
theorem Vu{E:ME}{W b a:World}{M:List Nat}{S:PS}{out:Bs}(H:MX E b M S out)(o:bC M W M b){u:U}(i:b.heap[W.heap.size+1]? =some (.cells #[.string ⟨#[]⟩,.bool false,.bool false] 24))(p:b.heap[W.heap.size]? =some (.cells #[.string ⟨u.scheme.toArray⟩,.string ⟨u.host.toArray⟩,.int .i64 u.port,.string ⟨u.path.toArray⟩,.string ⟨u.query.toArray⟩,.bool u.hq] 34))(d:Below b.heap.size b a){k t:Bs}{e:Bool}(l:(fb S.inl k).getD []=t∧(fb S.inl k).isSome=e):
 a.cell? ⟨E.mb,14,none⟩=some (.map (some E.im))∧(Instr.lookup 62 (.map (some E.im)) (.string ⟨k.toArray⟩) true).run Tryz.prog a=.ok (.tuple #[.agg #[.string ⟨t.toArray⟩],.bool e]) a∧(a.alloc (.cells #[.string ⟨#[]⟩] 96)).cell? ⟨E.mb,14,none⟩=some (.map (some E.im))∧(Instr.lookup 62 (.map (some E.im)) (.string ⟨k.toArray⟩) true).run Tryz.prog (a.alloc (.cells #[.string ⟨#[]⟩] 96))=.ok (.tuple #[.agg #[.string ⟨t.toArray⟩],.bool e]) (a.alloc (.cells #[.string ⟨#[]⟩] 96))∧
  (a.alloc (.cells #[.string ⟨#[]⟩] 96)).cell? ⟨a.heap.size,0,none⟩=some (.string ⟨#[]⟩)∧(a.alloc (.cells #[.string ⟨#[]⟩] 96)).frozen? ⟨a.heap.size,0,none⟩=false∧Rt E W M S out t u a.heap.size (a.alloc (.cells #[.string ⟨t.toArray⟩] 96)):=by
 have c:=H.next d;have h:=c.next (az a (.cells #[.string ⟨#[]⟩] 96));have m:=au a (.cells #[.string ⟨#[]⟩] 96);have j:=(aB.1 i).1;have r:=d.size;have s:=c.up.size;have n:=(d.block _ j).trans i;have q:=(d.block _ (Nat.lt_of_succ_lt j)).trans p;exact⟨c.Tq,c.WE l,h.Tq,h.WE l,aj 0 m,aA m,⟨aj 0 (au a (.cells #[.string ⟨t.toArray⟩] 96)),c.next (az a (.cells #[.string ⟨t.toArray⟩] 96)),(o.trans (bC.ai d)).trans (bC.ai (az a _)),((az a _).block _ (by omega)).trans n,((az a _).block _ (by omega)).trans q⟩⟩
theorem Vv{E:ME}{W a b:World}{M:List Nat}{S:PS}{out:Bs}(H:MX E a M S out)(o:bC M W M a){u:U}(h:a.heap[W.heap.size+1]? =some (.cells #[.string ⟨#[]⟩,.bool false,.bool false] 24))(p:a.heap[W.heap.size]? =some (.cells #[.string ⟨u.scheme.toArray⟩,.string ⟨u.host.toArray⟩,.int .i64 u.port,.string ⟨u.path.toArray⟩,.string ⟨u.query.toArray⟩,.bool u.hq] 34))(c:Below (a.heap.size+1) (a.alloc (.cells #[.string ⟨#[]⟩] 96)) b){k t:Bs}{j:Bool}(m:(fb S.inl k).getD []=t∧(fb S.inl k).isSome=j):
 b.cell? ⟨E.mb,14,none⟩=some (.map (some E.im))∧(Instr.lookup 62 (.map (some E.im)) (.string ⟨k.toArray⟩) true).run Tryz.prog b=.ok (.tuple #[.agg #[.string ⟨t.toArray⟩],.bool j]) b∧b.cell? ⟨a.heap.size,0,none⟩=some (.string ⟨#[]⟩)∧b.frozen? ⟨a.heap.size,0,none⟩=false∧Rt E W M S out t u a.heap.size (b.setCell ⟨a.heap.size,0,none⟩ (.string ⟨t.toArray⟩)):=by
 have d:=(H.next (az a (.cells #[.string ⟨#[]⟩] 96))).next (by rw[aO];exact c)
 have e:=(c.block _ (Nat.lt_succ_self _)).trans (au a (.cells #[.string ⟨#[]⟩] 96));have i:=(aB.1 h).1;have r:=H.up.size;have l:=(c.block _ (by omega)).trans (((az a _).block _ i).trans h);have q:=(c.block _ (by omega)).trans (((az a _).block _ (Nat.lt_of_succ_lt i)).trans p);exact⟨d.Tq,d.WE m,aj 0 e,aA e,Ru d ((o.trans (bC.ai (az a (.cells #[.string ⟨#[]⟩] 96)))).trans (bC.ai (by rw[aO];exact c))) l q e (fun n=>by have:=(H.mlt _ n).2;omega) (by omega) r⟩
theorem Jt{E:ME}{W:World}{M a:List Nat}{S:PS}{out:Bs}{wc:World}(H:MX E wc a S out)(l:bC M W a wc)(i:wc.heap[W.heap.size+1]? =some (.cells #[.string ⟨#[]⟩,.bool false,.bool false] 24))(b:W.heap.size+1∉a∧E.w0.heap.size≤W.heap.size+1)(t:Bs)(e k:Bool):
 (((wc.setCell ⟨W.heap.size+1,0,none⟩ (.string ⟨t.toArray⟩)).setCell ⟨W.heap.size+1,1,none⟩ (.bool e)).setCell ⟨W.heap.size+1,2,none⟩ (.bool k)).heap[W.heap.size+1]? =some (.cells #[.string ⟨t.toArray⟩,.bool e,.bool k] 24)∧
  MX E (((wc.setCell ⟨W.heap.size+1,0,none⟩ (.string ⟨t.toArray⟩)).setCell ⟨W.heap.size+1,1,none⟩ (.bool e)).setCell ⟨W.heap.size+1,2,none⟩ (.bool k)) a S out∧
  bC M W a (((wc.setCell ⟨W.heap.size+1,0,none⟩ (.string ⟨t.toArray⟩)).setCell ⟨W.heap.size+1,1,none⟩ (.bool e)).setCell ⟨W.heap.size+1,2,none⟩ (.bool k)):=by
 have c:ak (W.heap.size+1) wc (((wc.setCell ⟨W.heap.size+1,0,none⟩ (.string ⟨t.toArray⟩)).setCell ⟨W.heap.size+1,1,none⟩ (.bool e)).setCell ⟨W.heap.size+1,2,none⟩ (.bool k)):=(((ak.refl _ _).set).set).set;refine⟨?_,H.off b.1 b.2 c,l.off (by omega) c⟩;have d:(wc.setCell ⟨W.heap.size+1,0,none⟩ (.string ⟨t.toArray⟩)).heap[W.heap.size+1]? =some (.cells #[.string ⟨t.toArray⟩,.bool false,.bool false] 24):=aw (j:=0) i;have h:((wc.setCell ⟨W.heap.size+1,0,none⟩ (.string ⟨t.toArray⟩)).setCell ⟨W.heap.size+1,1,none⟩ (.bool e)).heap[W.heap.size+1]? =some (.cells #[.string ⟨t.toArray⟩,.bool e,.bool false] 24):=aw (j:=1) d;exact aw (j:=2) h
theorem T8{E:ME}(HE:QQ E){W:World}{M:List Nat}{S:PS}{out:Bs}(an:MX E W M S out)(u:U)(hu:xv u)(r:S.asked.length≤100000000):
 Calls Tryz.prog 109 #[.pointer (some ⟨E.mb,0,none⟩),uV u] W (WG E M W out (sx E.env u S)):=by
 have hA:Below W.heap.size W ((W.alloc (.cells #[.string ⟨u.scheme.toArray⟩,.string ⟨u.host.toArray⟩,.int .i64 u.port,.string ⟨u.path.toArray⟩,.string ⟨u.query.toArray⟩,.bool u.hq] 34)).alloc (.cells #[.string ⟨#[]⟩,.bool false,.bool false] 24)):=(az W _).alloc (by rw[aO];omega) _;have hd:=(ar ((W.alloc (.cells #[.string ⟨u.scheme.toArray⟩,.string ⟨u.host.toArray⟩,.int .i64 u.port,.string ⟨u.path.toArray⟩,.string ⟨u.query.toArray⟩,.bool u.hq] 34)).alloc (.cells #[.string ⟨#[]⟩,.bool false,.bool false] 24)).heap.size ((W.alloc (.cells #[.string ⟨u.scheme.toArray⟩,.string ⟨u.host.toArray⟩,.int .i64 u.port,.string ⟨u.path.toArray⟩,.string ⟨u.query.toArray⟩,.bool u.hq] 34)).alloc (.cells #[.string ⟨#[]⟩,.bool false,.bool false] 24))).drew;have aN:=ad ((bC.ai (M:=M) hA).trans (bC.ai (M:=M) hd));have o:=ad ((an.next hA).next hd);have i:=ad (jX W (.cells #[.string ⟨u.scheme.toArray⟩,.string ⟨u.host.toArray⟩,.int .i64 u.port,.string ⟨u.path.toArray⟩,.string ⟨u.query.toArray⟩,.bool u.hq] 34) (.cells #[.string ⟨#[]⟩,.bool false,.bool false] 24));have D:=ad (iT W (.cells #[.string ⟨u.scheme.toArray⟩,.string ⟨u.host.toArray⟩,.int .i64 u.port,.string ⟨u.path.toArray⟩,.string ⟨u.query.toArray⟩,.bool u.hq] 34) (.cells #[.string ⟨#[]⟩,.bool false,.bool false] 24));have bp:W.heap.size+1∉M∧E.w0.heap.size≤W.heap.size+1:=by obtain⟨av,rv,ov,p,rfl⟩:=an;exact⟨fun hm=>by have:=(p.mlt _ hm).2;omega,by have:=p.up.size;omega⟩
 have J:=ad bp;have ao:=ad HE;have bd:=ad hu;obtain⟨t,ht⟩:∃t,(fb S.inl (nE u)).getD []=t:=⟨_,rfl⟩;obtain⟨V,hi⟩:∃V,(fb S.inl (nE u)).isSome=V:=⟨_,rfl⟩;have G:=ad (And.intro ht hi);have I:=ad (And.intro r HE.Vc);clear hA hd an HE hu ht hi bp r;go_enter Tryz.func109,Tryz.ntmps109;go_upto_region 1 with fail;generalize(W.alloc (.cells #[.string ⟨u.scheme.toArray⟩,.string ⟨u.host.toArray⟩,.int .i64 u.port,.string ⟨u.path.toArray⟩,.string ⟨u.query.toArray⟩,.bool u.hq] 34)).alloc (.cells #[.string ⟨#[]⟩,.bool false,.bool false] 24)=a at*;have b4:=ad (aB.1 D.out).1;have u0:a.cell? ⟨W.heap.size,0,none⟩=some (.string ⟨u.scheme.toArray⟩):=aj 0 i.out;have u1:a.cell? ⟨W.heap.size,1,none⟩=some (.string ⟨u.host.toArray⟩):=aj 1 i.out;have u2:a.cell? ⟨W.heap.size,2,none⟩=some (.int .i64 u.port):=aj 2 i.out;have u3:a.cell? ⟨W.heap.size,3,none⟩=some (.string ⟨u.path.toArray⟩):=aj 3 i.out;have u4:a.cell? ⟨W.heap.size,4,none⟩=some (.string ⟨u.query.toArray⟩):=aj 4 i.out;have u5:a.cell? ⟨W.heap.size,5,none⟩=some (.bool u.hq):=aj 5 i.out;have a4:a.cell? ⟨E.mb,14,none⟩=some (.map (some E.im)):=by obtain⟨av,rv,ov,hm,_⟩:=o.out;exact aj 14 (by have:=hm.box;exact this)
 have a7:=az a.drew (.cells #[.string ⟨#[]⟩] 96);have br:=ad a7;have bg:=ad (o.out.next a7);have Tq:=aI (W:=a) a4 (.cells #[.string ⟨#[]⟩] 96);have C:=ad (show a.drew.heap[W.heap.size+1]? =_ from((ar a.heap.size a).drew.block _ (aB.1 D.out).1).trans D.out);have a0:=ad (show a.drew.heap[W.heap.size]? =_ from((ar a.heap.size a).drew.block _ (aB.1 i.out).1).trans i.out);have bv:=ad (show W.heap.size+1<a.drew.heap.size from(aB.1 C.out).1);have v0:=aI (W:=a) u0 (.cells #[.string ⟨#[]⟩] 96);have v1:=aI (W:=a) u1 (.cells #[.string ⟨#[]⟩] 96);have v2:=aI (W:=a) u2 (.cells #[.string ⟨#[]⟩] 96);have v3:=aI (W:=a) u3 (.cells #[.string ⟨#[]⟩] 96);have v4:=aI (W:=a) u4 (.cells #[.string ⟨#[]⟩] 96);have v5:=aI (W:=a) u5 (.cells #[.string ⟨#[]⟩] 96);clear a7
 go_cut [5,6] (fun s5 s6 B=>s6=.bool V∧∃ib,s5=.pointer (some ⟨ib,0,none⟩)∧Hid (Rt E W M S out t u ib B))
 case first=>
  go_region_with (go_at_call 16;go_must (first|(refine(wa u a.drew (ao.out.gl.gx.next o.out.up) bd.out).mono ?_;rintro e A⟨rfl,q⟩;obtain⟨bk,g5,cn,g6,z5,am,z⟩:=Vu o.out aN.out C.out a0.out q G.out;have bi:=ad z;clear q z)|(refine(wa u (a.drew.alloc (.cells #[.string ⟨#[]⟩] 96)) (ao.out.gl.gx.next bg.out.up) bd.out).mono ?_;rintro e A⟨rfl,q⟩;obtain⟨bk,g5,z5,am,z⟩:=Vv o.out aN.out C.out a0.out (by rw[aO] at q;exact q) G.out;have z5:A.cell? ⟨a.heap.size,0,none⟩=some (.string ⟨#[]⟩):=z5;have am:A.frozen? ⟨a.heap.size,0,none⟩=false:=am;have bi:=ad z;clear q z)))
  all_goals
   clear a4 Tq bk g5 z5 am u0 u1 u2 u3 u4 u5 v0 v1 v2 v3 v4 v5;go_wp2_with fail
   go_meet
   exact⟨rfl,_,rfl,bi⟩
 case rest=>
  obtain⟨rfl,ib,rfl,b⟩:=hcut;clear i D o aN bg br C a0 bv b4 a4 Tq u0 u1 u2 u3 u4 u5 v0 v1 v2 v3 v4 v5;have X:=aj 0 b.out.g;have Y:=aj 1 b.out.g;have Z:=aj 2 b.out.g;have ab:wc.frozen? ⟨W.heap.size+1,0,none⟩=false:=aA b.out.g;have af:wc.frozen? ⟨W.heap.size+1,1,none⟩=false:=aA b.out.g;have al:wc.frozen? ⟨W.heap.size+1,2,none⟩=false:=aA b.out.g;cases V
  ·have K:=ad (show sx E.env u S=({S with asked:=S.asked++[u]},E.fZ[S.asked.length]?) by
    obtain⟨p,w⟩:=G.out;unfold sx;cases R:fb S.inl (nE u) with
    |none=>rfl
    |some t'=>rw[R] at w;cases w)
   obtain⟨av,rv,ov,d,x⟩:=b.out.mx;obtain⟨aa,ac,rfl⟩:=aX d.asked;have aq:=ad d.asked;obtain⟨n,r⟩:∃n,S.asked.length=n:=⟨_,rfl⟩;have k:=ad r;rw[r] at aq d x;have be:=ad d;have H:=ad x;have b3:wc.cell? ⟨E.mb,3,none⟩=some (.slice aa n ac):=aj 3 d.box;have x0:wc.cell? ⟨W.heap.size,0,none⟩=some (.string ⟨u.scheme.toArray⟩):=aj 0 b.out.ur;have x1:wc.cell? ⟨W.heap.size,1,none⟩=some (.string ⟨u.host.toArray⟩):=aj 1 b.out.ur;have x2:wc.cell? ⟨W.heap.size,2,none⟩=some (.int .i64 u.port):=aj 2 b.out.ur;have x3:wc.cell? ⟨W.heap.size,3,none⟩=some (.string ⟨u.path.toArray⟩):=aj 3 b.out.ur;have x4:wc.cell? ⟨W.heap.size,4,none⟩=some (.string ⟨u.query.toArray⟩):=aj 4 b.out.ur;have x5:wc.cell? ⟨W.heap.size,5,none⟩=some (.bool u.hq):=aj 5 b.out.ur;have a5:∀a2,(wc.alloc a2).cell? ⟨E.mb,3,none⟩=some (.slice aa n ac):=fun a2=>aI b3 a2;have y:=ar wc.heap.size wc;have ap:=ad (be.out.next y.drew);have bf:=ad (b.out.st.trans (bC.ai (M:=M) y.drew));have a9:=(aB.1 b.out.g).1;have F:=ad (show W.heap.size+1<wc.drew.heap.size∧wc.drew.heap[W.heap.size+1]? =some (.cells #[.string ⟨#[]⟩,.bool false,.bool false] 24) from⟨ej a9 y.drew.size,(y.drew.block _ a9).trans b.out.g⟩);clear d x y r a9;go_upto_region 4 with fail
   go_cut [] (fun B=>∃M',Hid (MX E B M' {S with asked:=S.asked++[u]} out)∧Hid (bC M W M' B)∧Hid (B.heap[W.heap.size+1]? =some (.cells #[.string ⟨#[]⟩,.bool false,.bool false] 24))∧Hid (W.heap.size+1∉M'))
   case first=>
    go_region_law
     (go_loud (refine gM (by rfl) _ _ 27 (by rfl) 34 (.agg #[.string ⟨#[]⟩,.string ⟨#[]⟩,.int .i64 0,.string ⟨#[]⟩,.string ⟨#[]⟩,.bool false]) 6 80 Rs T7 (by rfl) (by decide) E.w0.heap.size wc.drew (.slice aa n ac) n (nB S.asked) (by rfl) (cp aq.out (ax wc 1)) (qz u) (by rfl) (by rfl) (by rfl) (by simp[qz,Value.oneCell']) (by have:=I.out;have:=k.out;omega) (by have:=I.out;have:=k.out;omega) (by exact ap.out.up.size) ?_);intro g cap A bo bl bn;have m:=ad (ap.out.Rr k.out bo bl bn);have cl:=aj 3 m.out.2;have co:A.frozen? ⟨E.mb,3,none⟩=false:=aA m.out.2;clear bo bl bn)
    all_goals
     go_wp2_with fail
     go_meet
     refine⟨_,ad ⟨_,_,_,m.out.1.1,rfl⟩,ad (bf.out.trans (by rw[H.out];exact m.out.1.2)), ?_, ?_⟩
     ·exact ad ((m.out.1.2.cO _ F.out.1 (by rw[←H.out];exact J.out.1)).2.trans F.out.2)
     ·exact ad (m.out.1.2.cO _ F.out.1 (by rw[←H.out];exact J.out.1)).1
   case rest=>
    obtain⟨N,L,aU,j,bx⟩:=hcut;clear ap bf F H be aq b3 a5 x0 x1 x2 x3 x4 x5 X Y Z ab af al b;obtain⟨ck,ct,cs,d,x⟩:=L.out;obtain⟨b5,b6,rfl⟩:=aX d.asked;obtain⟨h,a6⟩:∃h,E.fZ.length=h:=⟨_,rfl⟩;have hl:({S with asked:=S.asked++[u]}:PS).asked.length=n+1:=by show(S.asked++[u]).length=n+1;rw[bB,k.out];rfl
    have b3:=aj 3 d.box;rw[hl] at b3;have a3:wc.cell? ⟨E.mb,13,none⟩=some (.slice E.ga h E.gc):=by rw[←a6];exact aj 13 d.box
    have X:=aj 0 j.out;have Y:=aj 1 j.out;have Z:=aj 2 j.out;have ab:wc.frozen? ⟨W.heap.size+1,0,none⟩=false:=aA j.out;have af:wc.frozen? ⟨W.heap.size+1,1,none⟩=false:=aA j.out;have al:wc.frozen? ⟨W.heap.size+1,2,none⟩=false:=aA j.out;have i1:(n:Int)≤100000000:=by have:=I.out;have:=k.out;omega
    have i2:(h:Int)≤100000000:=by have:=I.out;omega
    have i3:(0:Int)≤(n:Int):=by omega
    have i4:(0:Int)≤(h:Int):=by omega
    have bb:=ad a6;have a1:=ad d.up;clear d x hl a6;cases l:E.fZ[n]? with
    |none=>
     have ay:=ad (show sx E.env u S=({S with asked:=S.asked++[u]},none) by rw[K.out,k.out,l]);have i5:(h:Int)<(n:Int)+1:=by have:=List.getElem?_eq_none_iff.1 l;have:=bb.out;omega
     clear l;go_upto_region 5 with fail
     go_quiet (fail)
     go_wp2_with fail;rw[ay.out];exact⟨rfl,rfl,N,L.out.next (ax _ _),aU.out.trans (bC.ai (ax _ _))⟩
    |some g=>
     have ay:=ad (show sx E.env u S=({S with asked:=S.asked++[u]},some g) by rw[K.out,k.out,l]);have i6:n<h:=by have:=(cH.1 l).1;have:=bb.out;omega
     have i5:¬(h:Int)<(n:Int)+1:=by omega
     have i7:(n:Int)<(h:Int):=by omega
     have i8:IntKind.i64.wrap (n:Int)=(n:Int):=IntWalk.i64_in _ (by omega);obtain⟨O,Q,bm,T,y0,y1,y2⟩:=ao.out.fZ n g l;have z0:=(a1.out.cell T).trans y0;have z1:=(a1.out.cell T).trans y1;have z2:=(a1.out.cell T).trans y2;rw[bm] at a3;clear l y0 y1 y2 bm T;go_upto_region 5 with fail
     go_quiet (fail)
     go_upto_region 7 with fail;have b1:=ad (L.out.next (ax wc nq));have bJ:=ad (aU.out.trans (bC.ai (M:=N) (ax wc nq)));have bs:=ad (show(wc.drewN nq).heap[W.heap.size+1]? =some (.cells #[.string ⟨#[]⟩,.bool false,.bool false] 24) from j.out);have a5:(wc.drewN nq).cell? ⟨E.mb,3,none⟩=some (.slice b5 (n+1) b6):=b3;have b7:(wc.drewN nq).cell? ⟨E.mb,13,none⟩=some (.slice (some ⟨O,Q,none⟩) h E.gc):=a3;have ce:(wc.drewN nq).cell? ⟨O,Q+n*3,none⟩=some (.string ⟨g.body.toArray⟩):=z0;have ch:(wc.drewN nq).cell? ⟨O,Q+n*3+1,none⟩=some (.bool g.F3):=z1;have ci:(wc.drewN nq).cell? ⟨O,Q+n*3+2,none⟩=some (.bool g.ok):=z2;have cb:(wc.drewN nq).frozen? ⟨W.heap.size+1,0,none⟩=false:=ab;have cc:(wc.drewN nq).frozen? ⟨W.heap.size+1,1,none⟩=false:=af;have cd:(wc.drewN nq).frozen? ⟨W.heap.size+1,2,none⟩=false:=al;have b8:(wc.drewN nq).cell? ⟨W.heap.size+1,0,none⟩=some (.string ⟨#[]⟩):=X;have b9:(wc.drewN nq).cell? ⟨W.heap.size+1,1,none⟩=some (.bool false):=Y;have ca:(wc.drewN nq).cell? ⟨W.heap.size+1,2,none⟩=some (.bool false):=Z;clear b3 a3 z0 z1 z2 ab af al X Y Z L aU j;generalize wc.drewN nq=w8 at*;have a8:=ax w8 1;have b2:=ad (b1.out.next a8);have b0:=ad (bJ.out.trans (bC.ai (M:=N) a8));have s:=ad (Jt b2.out b0.out (show w8.drew.heap[W.heap.size+1]? =_ from bs.out) ⟨bx.out,J.out.2⟩ g.body g.F3 g.ok);clear a8;go_region_law (fail);all_goals
      clear a5 b7 ce ch ci cb cc cd b8 b9 ca;go_wp2_with fail;refine aD (lT rfl rfl s.out.1) rfl ?_;rw[ay.out];exact⟨rfl,N,s.out.2⟩
  ·have i0:=b.out.c;have s:=ad (Jt b.out.mx b.out.st b.out.g J.out t true true);have K:=ad (show sx E.env u S=(S,some ⟨t,true,true⟩) by
    obtain⟨p,w⟩:=G.out;unfold sx;cases R:fb S.inl (nE u) with
    |none=>rw[R] at w;cases w
    |some t'=>rw[R] at p;cases p;rfl)
   go_wp2_with fail;refine aD (lT rfl rfl s.out.1) rfl ?_;rw[K.out];exact⟨rfl,M,s.out.2⟩
