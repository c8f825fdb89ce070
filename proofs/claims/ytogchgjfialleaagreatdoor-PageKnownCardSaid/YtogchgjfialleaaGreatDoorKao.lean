/- What references mean: plain. -/
import Derived.Test.YtogchgjfialleaaGreatDoorKan
set_option linter.unusedVariables false
set_option maxRecDepth 100000
set_option maxHeartbeats 4000000
namespace Go.Proofs.YtogchgjfialleaaGreatDoor
open Go.RowKit
theorem kN(w:World)(ls:List Bs)(c:Nat)(a:ls.length≤c):cg (w.alloc (.cells (ls.map fun x=>Value.string ⟨x.toArray⟩).toArray 9)) (.slice (some ⟨w.heap.size,0,none⟩) ls.length c) ls:=by refine .inr ⟨w.heap.size,0,c,rfl,a,by rw[aO];omega,fun j l b=> ?_⟩;rw[dH];exact bH w _ _ j _ (by simp[b])
theorem dV{fn:Func}{W:World}{tmps:Array Value}{b c:Nat}{v0 v1 v2:Value}(h:fn.results=#[.cell c 149])(d:tmps.getD c undef=.pointer (some ⟨b,0,none⟩))(a:W.heap[b]? =some (.cells #[v0,v1,v2] 149)):
 (results fn tmps).run Tryz.prog W=.ok (.agg #[v0,v1,v2]) W:=by
 have i:=aj 0 a;have j:=aj 1 a;have k:=aj 2 a;have e:tmps[c]?.getD undef=.pointer (some ⟨b,0,none⟩):=by rw[←d];simp
 simp[results,h,go_sem,e,i,j,k]
def oq(w:World)(k:Int):Ending→World→Prop:=fun e w'=>Below w.heap.size w w'∧∃v,e=.returned (.agg #[.int .i64 k,v,.int .i64 ((aE k).2:Int)])∧cg w' v (aE k).1
theorem Wl(w:World)(nm:Bs)(i:(nm==[105,110,99,108,117,100,101])=true):Calls Tryz.prog 78 #[.string ⟨nm.toArray⟩] w (oq w 3):=by
 go_enter Tryz.func78,Tryz.ntmps78;go_wp2_with fail;have b:aE 3=([lC,lD,dj],1):=by rfl
 have d:Below w.heap.size w (w.alloc (.cells #[.int .i64 3,.slice (some ⟨w.heap.size+1,0,none⟩) 3 3,.int .i64 1] 149)):=(ar _ _).alloc (ag _) _;have e:=au w (.cells #[.int .i64 3,.slice (some ⟨w.heap.size+1,0,none⟩) 3 3,.int .i64 1] 149);have h:(w.alloc (.cells #[.int .i64 3,.slice (some ⟨w.heap.size+1,0,none⟩) 3 3,.int .i64 1] 149)).heap.size=w.heap.size+1:=aO _ _;have c:=kN (w.alloc (.cells #[.int .i64 3,.slice (some ⟨w.heap.size+1,0,none⟩) 3 3,.int .i64 1] 149)) [lC,lD,dj] 3 (by simp);have a:Below (w.alloc (.cells #[.int .i64 3,.slice (some ⟨w.heap.size+1,0,none⟩) 3 3,.int .i64 1] 149)).heap.size (w.alloc (.cells #[.int .i64 3,.slice (some ⟨w.heap.size+1,0,none⟩) 3 3,.int .i64 1] 149)) ((w.alloc (.cells #[.int .i64 3,.slice (some ⟨w.heap.size+1,0,none⟩) 3 3,.int .i64 1] 149)).alloc (.cells (([lC,lD,dj]:List Bs).map fun x=>Value.string ⟨x.toArray⟩).toArray 9)):=(ar _ _).alloc (ag _) _;rw[h] at c a;refine aD (v:=.agg #[.int .i64 3,.slice (some ⟨w.heap.size+1,0,none⟩) 3 3,.int .i64 1]) ?_ rfl ⟨d.trans (a.mono (by omega)),.slice (some ⟨w.heap.size+1,0,none⟩) 3 3,by rw[b];rfl,by rw[b];exact c⟩;exact dV rfl rfl ((a.block _ (by omega)).trans e)
theorem Wm(w:World)(nm:Bs)(i:(nm==[105,110,99,108,117,100,101])=false)(j:(nm==[105,110,108,105,110,101])=true):Calls Tryz.prog 78 #[.string ⟨nm.toArray⟩] w (oq w 4):=by
 go_enter Tryz.func78,Tryz.ntmps78;go_wp2_with fail;have b:aE 4=([kO,eN],1):=by rfl
 have d:Below w.heap.size w (w.alloc (.cells #[.int .i64 4,.slice (some ⟨w.heap.size+1,0,none⟩) 2 2,.int .i64 1] 149)):=(ar _ _).alloc (ag _) _;have e:=au w (.cells #[.int .i64 4,.slice (some ⟨w.heap.size+1,0,none⟩) 2 2,.int .i64 1] 149);have h:(w.alloc (.cells #[.int .i64 4,.slice (some ⟨w.heap.size+1,0,none⟩) 2 2,.int .i64 1] 149)).heap.size=w.heap.size+1:=aO _ _;have c:=kN (w.alloc (.cells #[.int .i64 4,.slice (some ⟨w.heap.size+1,0,none⟩) 2 2,.int .i64 1] 149)) [kO,eN] 2 (by simp);have a:Below (w.alloc (.cells #[.int .i64 4,.slice (some ⟨w.heap.size+1,0,none⟩) 2 2,.int .i64 1] 149)).heap.size (w.alloc (.cells #[.int .i64 4,.slice (some ⟨w.heap.size+1,0,none⟩) 2 2,.int .i64 1] 149)) ((w.alloc (.cells #[.int .i64 4,.slice (some ⟨w.heap.size+1,0,none⟩) 2 2,.int .i64 1] 149)).alloc (.cells (([kO,eN]:List Bs).map fun x=>Value.string ⟨x.toArray⟩).toArray 9)):=(ar _ _).alloc (ag _) _;rw[h] at c a;refine aD (v:=.agg #[.int .i64 4,.slice (some ⟨w.heap.size+1,0,none⟩) 2 2,.int .i64 1]) ?_ rfl ⟨d.trans (a.mono (by omega)),.slice (some ⟨w.heap.size+1,0,none⟩) 2 2,by rw[b];rfl,by rw[b];exact c⟩;exact dV rfl rfl ((a.block _ (by omega)).trans e)
theorem Wn(w:World)(nm:Bs)(d:(nm==[105,110,99,108,117,100,101])=false)(e:(nm==[105,110,108,105,110,101])=false)(h:(nm==[114,101,109,111,118,101])=true):Calls Tryz.prog 78 #[.string ⟨nm.toArray⟩] w (oq w 5):=by
 go_enter Tryz.func78,Tryz.ntmps78;go_wp2_with fail;have a:aE 5=([],0):=by rfl
 have b:Below w.heap.size w (w.alloc (.cells #[.int .i64 5,.slice none 0 0,.int .i64 0] 149)):=(ar _ _).alloc (ag _) _;have c:=au w (.cells #[.int .i64 5,.slice none 0 0,.int .i64 0] 149);refine aD (v:=.agg #[.int .i64 5,.slice none 0 0,.int .i64 0]) ?_ rfl ⟨b,.slice none 0 0,by rw[a];rfl,.inl ⟨none,0,rfl,by rw[a]⟩⟩;exact dV rfl rfl c
theorem Wo(w:World)(nm:Bs)(i:(nm==[105,110,99,108,117,100,101])=false)(j:(nm==[105,110,108,105,110,101])=false)(k:(nm==[114,101,109,111,118,101])=false)(l:(nm==[99,111,109,109,101,110,116])=true):Calls Tryz.prog 78 #[.string ⟨nm.toArray⟩] w (oq w 6):=by
 go_enter Tryz.func78,Tryz.ntmps78;go_wp2_with fail;have b:aE 6=([qH],1):=by rfl
 have d:Below w.heap.size w (w.alloc (.cells #[.int .i64 6,.slice (some ⟨w.heap.size+1,0,none⟩) 1 1,.int .i64 1] 149)):=(ar _ _).alloc (ag _) _;have e:=au w (.cells #[.int .i64 6,.slice (some ⟨w.heap.size+1,0,none⟩) 1 1,.int .i64 1] 149);have h:(w.alloc (.cells #[.int .i64 6,.slice (some ⟨w.heap.size+1,0,none⟩) 1 1,.int .i64 1] 149)).heap.size=w.heap.size+1:=aO _ _;have c:=kN (w.alloc (.cells #[.int .i64 6,.slice (some ⟨w.heap.size+1,0,none⟩) 1 1,.int .i64 1] 149)) [qH] 1 (by simp);have a:Below (w.alloc (.cells #[.int .i64 6,.slice (some ⟨w.heap.size+1,0,none⟩) 1 1,.int .i64 1] 149)).heap.size (w.alloc (.cells #[.int .i64 6,.slice (some ⟨w.heap.size+1,0,none⟩) 1 1,.int .i64 1] 149)) ((w.alloc (.cells #[.int .i64 6,.slice (some ⟨w.heap.size+1,0,none⟩) 1 1,.int .i64 1] 149)).alloc (.cells (([qH]:List Bs).map fun x=>Value.string ⟨x.toArray⟩).toArray 9)):=(ar _ _).alloc (ag _) _;rw[h] at c a;refine aD (v:=.agg #[.int .i64 6,.slice (some ⟨w.heap.size+1,0,none⟩) 1 1,.int .i64 1]) ?_ rfl ⟨d.trans (a.mono (by omega)),.slice (some ⟨w.heap.size+1,0,none⟩) 1 1,by rw[b];rfl,by rw[b];exact c⟩;exact dV rfl rfl ((a.block _ (by omega)).trans e)
theorem Wp(w:World)(nm:Bs)(d:(nm==[105,110,99,108,117,100,101])=false)(e:(nm==[105,110,108,105,110,101])=false)(h:(nm==[114,101,109,111,118,101])=false)(i:(nm==[99,111,109,109,101,110,116])=false)(j:(nm==[116,114,121])=true):Calls Tryz.prog 78 #[.string ⟨nm.toArray⟩] w (oq w 7):=by
 go_enter Tryz.func78,Tryz.ntmps78;go_wp2_with fail;have a:aE 7=([],0):=by rfl
 have b:Below w.heap.size w (w.alloc (.cells #[.int .i64 7,.slice none 0 0,.int .i64 0] 149)):=(ar _ _).alloc (ag _) _;have c:=au w (.cells #[.int .i64 7,.slice none 0 0,.int .i64 0] 149);refine aD (v:=.agg #[.int .i64 7,.slice none 0 0,.int .i64 0]) ?_ rfl ⟨b,.slice none 0 0,by rw[a];rfl,.inl ⟨none,0,rfl,by rw[a]⟩⟩;exact dV rfl rfl c
theorem Wq(w:World)(nm:Bs)(d:(nm==[105,110,99,108,117,100,101])=false)(e:(nm==[105,110,108,105,110,101])=false)(h:(nm==[114,101,109,111,118,101])=false)(i:(nm==[99,111,109,109,101,110,116])=false)(j:(nm==[116,114,121])=false)(k:(nm==[97,116,116,101,109,112,116])=true):Calls Tryz.prog 78 #[.string ⟨nm.toArray⟩] w (oq w 8):=by
 go_enter Tryz.func78,Tryz.ntmps78;go_wp2_with fail;have a:aE 8=([],0):=by rfl
 have b:Below w.heap.size w (w.alloc (.cells #[.int .i64 8,.slice none 0 0,.int .i64 0] 149)):=(ar _ _).alloc (ag _) _;have c:=au w (.cells #[.int .i64 8,.slice none 0 0,.int .i64 0] 149);refine aD (v:=.agg #[.int .i64 8,.slice none 0 0,.int .i64 0]) ?_ rfl ⟨b,.slice none 0 0,by rw[a];rfl,.inl ⟨none,0,rfl,by rw[a]⟩⟩;exact dV rfl rfl c
theorem Wr(w:World)(nm:Bs)(d:(nm==[105,110,99,108,117,100,101])=false)(e:(nm==[105,110,108,105,110,101])=false)(h:(nm==[114,101,109,111,118,101])=false)(i:(nm==[99,111,109,109,101,110,116])=false)(j:(nm==[116,114,121])=false)(k:(nm==[97,116,116,101,109,112,116])=false)(l:(nm==[101,120,99,101,112,116])=true):Calls Tryz.prog 78 #[.string ⟨nm.toArray⟩] w (oq w 9):=by
 go_enter Tryz.func78,Tryz.ntmps78;go_wp2_with fail;have a:aE 9=([],0):=by rfl
 have b:Below w.heap.size w (w.alloc (.cells #[.int .i64 9,.slice none 0 0,.int .i64 0] 149)):=(ar _ _).alloc (ag _) _;have c:=au w (.cells #[.int .i64 9,.slice none 0 0,.int .i64 0] 149);refine aD (v:=.agg #[.int .i64 9,.slice none 0 0,.int .i64 0]) ?_ rfl ⟨b,.slice none 0 0,by rw[a];rfl,.inl ⟨none,0,rfl,by rw[a]⟩⟩;exact dV rfl rfl c
theorem Ws(w:World)(nm:Bs)(d:(nm==[105,110,99,108,117,100,101])=false)(e:(nm==[105,110,108,105,110,101])=false)(h:(nm==[114,101,109,111,118,101])=false)(i:(nm==[99,111,109,109,101,110,116])=false)(j:(nm==[116,114,121])=false)(k:(nm==[97,116,116,101,109,112,116])=false)(l:(nm==[101,120,99,101,112,116])=false)(m:(nm==[99,104,111,111,115,101])=true):Calls Tryz.prog 78 #[.string ⟨nm.toArray⟩] w (oq w 10):=by
 go_enter Tryz.func78,Tryz.ntmps78;go_wp2_with fail;have a:aE 10=([],0):=by rfl
 have b:Below w.heap.size w (w.alloc (.cells #[.int .i64 10,.slice none 0 0,.int .i64 0] 149)):=(ar _ _).alloc (ag _) _;have c:=au w (.cells #[.int .i64 10,.slice none 0 0,.int .i64 0] 149);refine aD (v:=.agg #[.int .i64 10,.slice none 0 0,.int .i64 0]) ?_ rfl ⟨b,.slice none 0 0,by rw[a];rfl,.inl ⟨none,0,rfl,by rw[a]⟩⟩;exact dV rfl rfl c
theorem Wt(w:World)(nm:Bs)(i:(nm==[105,110,99,108,117,100,101])=false)(j:(nm==[105,110,108,105,110,101])=false)(k:(nm==[114,101,109,111,118,101])=false)(l:(nm==[99,111,109,109,101,110,116])=false)(m:(nm==[116,114,121])=false)(n:(nm==[97,116,116,101,109,112,116])=false)(o:(nm==[101,120,99,101,112,116])=false)(p:(nm==[99,104,111,111,115,101])=false)(q:(nm==[119,104,101,110])=true):Calls Tryz.prog 78 #[.string ⟨nm.toArray⟩] w (oq w 11):=by
 go_enter Tryz.func78,Tryz.ntmps78;go_wp2_with fail;have b:aE 11=([gT],1):=by rfl
 have d:Below w.heap.size w (w.alloc (.cells #[.int .i64 11,.slice (some ⟨w.heap.size+1,0,none⟩) 1 1,.int .i64 1] 149)):=(ar _ _).alloc (ag _) _;have e:=au w (.cells #[.int .i64 11,.slice (some ⟨w.heap.size+1,0,none⟩) 1 1,.int .i64 1] 149);have h:(w.alloc (.cells #[.int .i64 11,.slice (some ⟨w.heap.size+1,0,none⟩) 1 1,.int .i64 1] 149)).heap.size=w.heap.size+1:=aO _ _;have c:=kN (w.alloc (.cells #[.int .i64 11,.slice (some ⟨w.heap.size+1,0,none⟩) 1 1,.int .i64 1] 149)) [gT] 1 (by simp);have a:Below (w.alloc (.cells #[.int .i64 11,.slice (some ⟨w.heap.size+1,0,none⟩) 1 1,.int .i64 1] 149)).heap.size (w.alloc (.cells #[.int .i64 11,.slice (some ⟨w.heap.size+1,0,none⟩) 1 1,.int .i64 1] 149)) ((w.alloc (.cells #[.int .i64 11,.slice (some ⟨w.heap.size+1,0,none⟩) 1 1,.int .i64 1] 149)).alloc (.cells (([gT]:List Bs).map fun x=>Value.string ⟨x.toArray⟩).toArray 9)):=(ar _ _).alloc (ag _) _;rw[h] at c a;refine aD (v:=.agg #[.int .i64 11,.slice (some ⟨w.heap.size+1,0,none⟩) 1 1,.int .i64 1]) ?_ rfl ⟨d.trans (a.mono (by omega)),.slice (some ⟨w.heap.size+1,0,none⟩) 1 1,by rw[b];rfl,by rw[b];exact c⟩;exact dV rfl rfl ((a.block _ (by omega)).trans e)
theorem Wu(w:World)(nm:Bs)(d:(nm==[105,110,99,108,117,100,101])=false)(e:(nm==[105,110,108,105,110,101])=false)(h:(nm==[114,101,109,111,118,101])=false)(i:(nm==[99,111,109,109,101,110,116])=false)(j:(nm==[116,114,121])=false)(k:(nm==[97,116,116,101,109,112,116])=false)(l:(nm==[101,120,99,101,112,116])=false)(m:(nm==[99,104,111,111,115,101])=false)(n:(nm==[119,104,101,110])=false)(o:(nm==[111,116,104,101,114,119,105,115,101])=true):Calls Tryz.prog 78 #[.string ⟨nm.toArray⟩] w (oq w 12):=by
 go_enter Tryz.func78,Tryz.ntmps78;go_wp2_with fail;have a:aE 12=([],0):=by rfl
 have b:Below w.heap.size w (w.alloc (.cells #[.int .i64 12,.slice none 0 0,.int .i64 0] 149)):=(ar _ _).alloc (ag _) _;have c:=au w (.cells #[.int .i64 12,.slice none 0 0,.int .i64 0] 149);refine aD (v:=.agg #[.int .i64 12,.slice none 0 0,.int .i64 0]) ?_ rfl ⟨b,.slice none 0 0,by rw[a];rfl,.inl ⟨none,0,rfl,by rw[a]⟩⟩;exact dV rfl rfl c
theorem Vh(w:World)(nm:Bs)(d:(nm==[105,110,99,108,117,100,101])=false)(e:(nm==[105,110,108,105,110,101])=false)(h:(nm==[114,101,109,111,118,101])=false)(i:(nm==[99,111,109,109,101,110,116])=false)(j:(nm==[116,114,121])=false)(k:(nm==[97,116,116,101,109,112,116])=false)(l:(nm==[101,120,99,101,112,116])=false)(m:(nm==[99,104,111,111,115,101])=false)(n:(nm==[119,104,101,110])=false)(o:(nm==[111,116,104,101,114,119,105,115,101])=false):Calls Tryz.prog 78 #[.string ⟨nm.toArray⟩] w (oq w 13):=by
 go_enter Tryz.func78,Tryz.ntmps78;go_wp2_with fail;have a:aE 13=([],0):=by rfl
 have b:Below w.heap.size w (w.alloc (.cells #[.int .i64 13,.slice none 0 0,.int .i64 0] 149)):=(ar _ _).alloc (ag _) _;have c:=au w (.cells #[.int .i64 13,.slice none 0 0,.int .i64 0] 149);refine aD (v:=.agg #[.int .i64 13,.slice none 0 0,.int .i64 0]) ?_ rfl ⟨b,.slice none 0 0,by rw[a];rfl,.inl ⟨none,0,rfl,by rw[a]⟩⟩;exact dV rfl rfl c
theorem Nh(w:World)(nm:Bs):Calls Tryz.prog 78 #[.string ⟨nm.toArray⟩] w (oq w (kindOf nm)):=by
 obtain⟨o,b⟩:∃a,(nm==[105,110,99,108,117,100,101])=a:=⟨_,rfl⟩;obtain⟨a1,c⟩:∃a,(nm==[105,110,108,105,110,101])=a:=⟨_,rfl⟩;obtain⟨a2,d⟩:∃a,(nm==[114,101,109,111,118,101])=a:=⟨_,rfl⟩;obtain⟨a3,e⟩:∃a,(nm==[99,111,109,109,101,110,116])=a:=⟨_,rfl⟩;obtain⟨a4,h⟩:∃a,(nm==[116,114,121])=a:=⟨_,rfl⟩;obtain⟨p,i⟩:∃a,(nm==[97,116,116,101,109,112,116])=a:=⟨_,rfl⟩;obtain⟨q,k⟩:∃a,(nm==[101,120,99,101,112,116])=a:=⟨_,rfl⟩;obtain⟨r,l⟩:∃a,(nm==[99,104,111,111,115,101])=a:=⟨_,rfl⟩;obtain⟨s,m⟩:∃a,(nm==[119,104,101,110])=a:=⟨_,rfl⟩;obtain⟨t,n⟩:∃a,(nm==[111,116,104,101,114,119,105,115,101])=a:=⟨_,rfl⟩;have j:kindOf nm=if nm=eJ then 3 else if nm=cF then 4 else if nm=bS then 5 else if nm=gz then 6 else if nm=zt then 7 else if nm=iW then 8 else if nm=lK then 9 else if nm=nu then 10 else if nm=Aa then 11 else if nm=kQ then 12 else 13:=rfl;rcases o with _|_
 rotate_left
 ·rw[j,ah (eq_of_beq b:nm=eJ)];exact Wl w nm b
 rcases a1 with _|_
 rotate_left
 ·rw[j,ae (aT b:¬nm=eJ),ah (eq_of_beq c:nm=cF)];exact Wm w nm b c
 rcases a2 with _|_
 rotate_left
 ·rw[j,ae (aT b:¬nm=eJ),ae (aT c:¬nm=cF),ah (eq_of_beq d:nm=bS)];exact Wn w nm b c d
 rcases a3 with _|_
 rotate_left
 ·rw[j,ae (aT b:¬nm=eJ),ae (aT c:¬nm=cF),ae (aT d:¬nm=bS),ah (eq_of_beq e:nm=gz)];exact Wo w nm b c d e
 rcases a4 with _|_
 rotate_left
 ·rw[j,ae (aT b:¬nm=eJ),ae (aT c:¬nm=cF),ae (aT d:¬nm=bS),ae (aT e:¬nm=gz),ah (eq_of_beq h:nm=zt)];exact Wp w nm b c d e h
 rcases p with _|_
 rotate_left
 ·rw[j,ae (aT b:¬nm=eJ),ae (aT c:¬nm=cF),ae (aT d:¬nm=bS),ae (aT e:¬nm=gz),ae (aT h:¬nm=zt),ah (eq_of_beq i:nm=iW)];exact Wq w nm b c d e h i
 rcases q with _|_
 rotate_left
 ·rw[j,ae (aT b:¬nm=eJ),ae (aT c:¬nm=cF),ae (aT d:¬nm=bS),ae (aT e:¬nm=gz),ae (aT h:¬nm=zt),ae (aT i:¬nm=iW),ah (eq_of_beq k:nm=lK)];exact Wr w nm b c d e h i k
 rcases r with _|_
 rotate_left
 ·rw[j,ae (aT b:¬nm=eJ),ae (aT c:¬nm=cF),ae (aT d:¬nm=bS),ae (aT e:¬nm=gz),ae (aT h:¬nm=zt),ae (aT i:¬nm=iW),ae (aT k:¬nm=lK),ah (eq_of_beq l:nm=nu)];exact Ws w nm b c d e h i k l
 rcases s with _|_
 rotate_left
 ·rw[j,ae (aT b:¬nm=eJ),ae (aT c:¬nm=cF),ae (aT d:¬nm=bS),ae (aT e:¬nm=gz),ae (aT h:¬nm=zt),ae (aT i:¬nm=iW),ae (aT k:¬nm=lK),ae (aT l:¬nm=nu),ah (eq_of_beq m:nm=Aa)];exact Wt w nm b c d e h i k l m
 rcases t with _|_
 rotate_left
 ·rw[j,ae (aT b:¬nm=eJ),ae (aT c:¬nm=cF),ae (aT d:¬nm=bS),ae (aT e:¬nm=gz),ae (aT h:¬nm=zt),ae (aT i:¬nm=iW),ae (aT k:¬nm=lK),ae (aT l:¬nm=nu),ae (aT m:¬nm=Aa),ah (eq_of_beq n:nm=kQ)];exact Wu w nm b c d e h i k l m n
 rw[j,ae (aT b:¬nm=eJ),ae (aT c:¬nm=cF),ae (aT d:¬nm=bS),ae (aT e:¬nm=gz),ae (aT h:¬nm=zt),ae (aT i:¬nm=iW),ae (aT k:¬nm=lK),ae (aT l:¬nm=nu),ae (aT m:¬nm=Aa),ae (aT n:¬nm=kQ)];exact Vh w nm b c d e h i k l m n
theorem Gf(nm v:Bs):lJ nm v=if nm=dj then v==iJ else if nm=eN then v==Da||v==Tm else if nm=qH then true else !v.isEmpty:=rfl
theorem Kz(w:World)(nm v:Bs):Calls Tryz.prog 127 #[.string ⟨nm.toArray⟩,.string ⟨v.toArray⟩] w (fun e w'=>e=.returned (.bool (lJ nm v))∧w'=w):=by
 obtain⟨o,l⟩:∃a,(nm==[111,110,101,114,114,111,114])=a:=⟨_,rfl⟩;obtain⟨a1,m⟩:∃a,(nm==[102,101,116,99,104,97,98,108,101])=a:=⟨_,rfl⟩;obtain⟨a2,n⟩:∃a,(nm==[116,101,120,116])=a:=⟨_,rfl⟩;obtain⟨p,h⟩:∃a,(v==[99,111,110,116,105,110,117,101])=a:=⟨_,rfl⟩;obtain⟨b1,i⟩:∃a,(v==[121,101,115])=a:=⟨_,rfl⟩;obtain⟨b2,j⟩:∃a,(v==[110,111])=a:=⟨_,rfl⟩;obtain⟨b3,k⟩:∃a,v.isEmpty=a:=⟨_,rfl⟩;obtain⟨R,d⟩:∃R,lJ nm v=R:=⟨_,rfl⟩;have b:=Gf nm v;rw[d] at b⊢;rcases o with _|_
 ·rw[ae (aT l:¬nm=dj)] at b;rcases a1 with _|_
  ·rw[ae (aT m:¬nm=eN)] at b;rcases a2 with _|_
   ·rw[ae (aT n:¬nm=qH),k] at b;have c:=ad b;clear b d h i j;go_enter Tryz.func127,Tryz.ntmps127;go_wp2_with fail;go_ret;exact⟨by rw[c.out];rfl,rfl⟩
   ·rw[ah (eq_of_beq n:nm=qH)] at b;have c:=ad b;clear b d h i j k;go_enter Tryz.func127,Tryz.ntmps127;go_wp2_with fail;go_ret;exact⟨by rw[c.out];rfl,rfl⟩
  ·rw[ah (eq_of_beq m:nm=eN),show(v==Da)=b1 from i,show(v==Tm)=b2 from j] at b;have c:=ad b;clear b d h k;rcases b1 with _|_
   ·go_enter Tryz.func127,Tryz.ntmps127;go_wp2_with fail;go_ret;exact⟨by rw[c.out];rfl,rfl⟩
   ·go_enter Tryz.func127,Tryz.ntmps127;go_wp2_with fail;go_ret;exact⟨by rw[c.out];rfl,rfl⟩
 ·rw[ah (eq_of_beq l:nm=dj),show(v==iJ)=p from h] at b;have c:=ad b;clear b d i j k;go_enter Tryz.func127,Tryz.ntmps127;go_wp2_with fail;go_ret;exact⟨by rw[c.out];rfl,rfl⟩
def BI(v:Int)(l:List Int):Int:=match l.findIdx? (v==·) with|some k=>(k:Int)|none=>-1
theorem KA{v:Int}{l:List Int}(h:∀k:Nat,∀a,l[k]? =some a→(v==a)=false):BI v l=-1:=by unfold BI;rw[zL.2];intro a b;obtain⟨k,c⟩:=zP.1 b;exact h k a c
theorem KC{v:Int}{l:List Int}{k:Nat}{a:Int}(h:∀j:Nat,j<k→∀a,l[j]? =some a→(v==a)=false)(b:l[k]? =some a)(hq:(v==a)=true):BI v l=(k:Int):=by unfold BI;have d:=(cH.1 b).1;rw[zM.2 ⟨d,by rw[(cH.1 b).2];exact hq,fun j c=> ?_⟩];have:=h j c _ (cA (by omega));simpa using this
theorem Ni(l:List Int)(v:Int)(I:l.length≤1000)(b c:Nat)(w:World)(B:∀(j:Nat) (a:Int),l[j]? =some a→w.cell? ⟨b,j,none⟩=some (.int .i64 a))(J:l.length≤c):
 Calls Tryz.prog 166 #[.slice (some ⟨b,0,none⟩) l.length c,.int .i64 v] w (fun e w'=>e=.returned (.int .i64 (BI v l))∧w'=w):=by
 have C:=ad B;obtain⟨V,d⟩:∃V,BI v l=V:=⟨_,rfl⟩;rw[d];have D:=ad (fun h=>d.symm.trans (KA (v:=v) (l:=l) h));have F:=ad (fun k a h m hq=>d.symm.trans (KC (v:=v) (l:=l) (k:=k) (a:=a) h m hq));obtain⟨n,u⟩:∃n,l.length=n:=⟨_,rfl⟩;have z:=ad u;rw[u] at I J⊢;clear B d u;go_enter Tryz.func166,Tryz.ntmps166;go_upto_region 2 with fail
 go_loopw [8] (fun x wr=>∃i:Nat,i≤n∧x=.int .i64 i∧Hid (∀j:Nat,j<i→∀a,l[j]? =some a→(v==a)=false)∧wr=w) (fun x _=>n-(intOf x).toNat)
 case atStart=>exact⟨0,aH _,rfl,ad (fun j G=>by omega),rfl⟩
 case round=>
  obtain⟨i,N,rfl,p,rfl⟩:=hrel;by_cases K:i<n
  ·have Q:(i:Int)<(n:Int):=by omega
   have O:(0:Int)≤(i:Int):=by omega
   obtain⟨a,s⟩:∃a,l[i]? =some a:=⟨_,cA (by rw[z.out];exact K)⟩;have y:=ad s;have M:=C.out i a s;obtain⟨r,L⟩:∃r,(v==a)=r:=⟨_,rfl⟩;have A:=ad L;clear s;rcases r with _|_
   ·have E:=ad (fun(j:Nat) (G:j<i+1) (q:Int) (t:l[j]? =some q)=>show(v==q)=false by
     by_cases H:j<i
     ·exact p.out j H q t
     ·obtain rfl:j=i:=by omega
      rw[y.out] at t;cases t;exact A.out)
    go_wp2_with fail
    go_roundw
    case rel=>exact⟨i+1,by omega,by go_num,E,by trivial⟩
    case measure=>(simp[intOf]<;>omega)
   ·have o:=ad (F.out i a p.out y.out A.out);go_wp2_with fail;go_ret;exact⟨by rw[o.out];rfl,rfl⟩
  ·obtain rfl:i=n:=by omega
   have o:=ad (D.out fun k a m=>p.out k (by rw[←z.out];exact(cH.1 m).1) a m);go_wp2_with fail;go_ret;exact⟨by rw[o.out];rfl,rfl⟩
theorem Nj(v:Int)(l:List Int):decide (0≤BI v l)=l.any (v==·):=by
 unfold BI;cases h:l.findIdx? (v==·) with
 |none=>rw[zL] at h;rw[List.any_eq_false.2 fun a b=>by rw[h a b];decide];rfl
 |some k=>obtain⟨c,hq,_⟩:=zM.1 h;rw[lF.2 ⟨_,wI c,hq⟩];exact bN (Int.natCast_nonneg k)
theorem C6(l:List Int)(v:Int)(k:l.length≤1000)(b c:Nat)(w:World)(d:∀(j:Nat) (a:Int),l[j]? =some a→w.cell? ⟨b,j,none⟩=some (.int .i64 a))(m:l.length≤c):
 Calls Tryz.prog 124 #[.slice (some ⟨b,0,none⟩) l.length c,.int .i64 v] w (fun e w'=>e=.returned (.bool (l.any (v==·)))∧w'=w):=by
 have i:=ad (Ni l v k b c w d m);have h:=ad (Nj v l);generalize BI v l=V at*;generalize l.any (v==·)=R at*;generalize l.length=n at*;clear d;go_enter Tryz.func124,Tryz.ntmps124;go_wp2_with fail;refine i.out.mono ?_;rintro e o⟨rfl,rfl⟩;go_wp2_with fail;go_ret;exact⟨cq h.out,rfl⟩
theorem TW(y:Nd)(k:Int):oy y k=if y.kind=7 then decide (k=8∧fo y=0∨k=9∧fo y=8) else if y.kind=10 then decide (k=11∧fo y≠12∨k=12∧fo y=11) else !decide (k=8∨k=9∨k=11∨k=12):=rfl
theorem Q1(k:Int):decide (k=8∨k=9∨k=11∨k=12)=([8,9,11,12]:List Int).any (k==·):=by rw[gf];simp
section
variable{lo:KB}{w0 W W':World}{pb:Nat}{ov:Value}{st:List Nd}{kvs ys:List Value}{place e:Int}
theorem jY{a b:Int}(h:a=b):(a==b)=true:=by rw[h];exact qS _
theorem eS{a b:Int}(h:¬a=b):(a==b)=false:=aL.2 h
theorem Jj{l:List Nd}{y:Nd}(H:PK lo w0 W pb ov (l++[y]) kvs ys place e)(X:l.length≤1000)(hk:y.kids.length≤10000000)(k:Int):
 Calls Tryz.prog 79 #[.pointer (some ⟨pb,0,none⟩),.int .i64 k] W (cN W (.bool (oy y k))):=by
 obtain⟨g,cap,a,c,kv,xs,ks,zs,Y,e1,e2,hz,F,ab,V⟩:=H.oM;have Q:=ad (pX H Y X);have O:=ad (And.intro F V);have K:=ad (fun v (hb:Below W.heap.size W v)=>Dm (H.next hb) X hk);have J:=TW y k;obtain⟨R,T⟩:∃R,oy y k=R:=⟨_,rfl⟩;rw[T] at J⊢;obtain⟨Z,M⟩:∃n,y.kind=n:=⟨_,rfl⟩;obtain⟨G,L⟩:∃n,fo y=n:=⟨_,rfl⟩;rw[M,L] at J;have aa:=ad M;rw[L] at K;have h:=ad J;clear H Y e1 e2 F ab V J T M L;go_enter Tryz.func79,Tryz.ntmps79;go_upto_region 1 with fail;go_wp2_with fail;refine Q.out.mono ?_;rintro z E⟨rfl,I⟩;have k0:=(I.cell (p:=⟨g,l.length*5,none⟩) O.out.2).trans O.out.1.c0;rw[aa.out] at k0;have i:=ad I;have C:=ad (K.out E I);clear I Q K;by_cases o:Z=7
 ·by_cases b:k=8
  ·by_cases s:G=0
   ·have d:=ad (show R=true by rw[h.out];simp[o,b,s]);have x:=jY b;have w:=jY s;have B:(k==9)=false:=eS (by omega);subst o;clear b s h;go_wp2_with fail;refine C.out.mono ?_;rintro z D⟨rfl,r⟩;go_wp2_with fail;go_ret;exact⟨by rw[d.out];rfl,i.out.trans (r.mono i.out.size)⟩
   ·have d:=ad (show R=false by rw[h.out];simp[o,b,s]);have x:=jY b;have w:=eS s;have B:(k==9)=false:=eS (by omega);subst o;clear b s h;go_wp2_with fail;refine C.out.mono ?_;rintro z D⟨rfl,r⟩;go_wp2_with fail;go_ret;exact⟨by rw[d.out];rfl,i.out.trans (r.mono i.out.size)⟩
  ·by_cases m:k=9
   ·by_cases t:G=8
    ·have d:=ad (show R=true by rw[h.out];simp[o,b,m,t]);have x:=eS b;have B:=jY m;have w:=jY t;subst o;clear b m t h;go_wp2_with fail;refine C.out.mono ?_;rintro z D⟨rfl,r⟩;go_wp2_with fail;go_ret;exact⟨by rw[d.out];rfl,i.out.trans (r.mono i.out.size)⟩
    ·have d:=ad (show R=false by rw[h.out];simp[o,b,m,t]);have x:=eS b;have B:=jY m;have w:=eS t;subst o;clear b m t h;go_wp2_with fail;refine C.out.mono ?_;rintro z D⟨rfl,r⟩;go_wp2_with fail;go_ret;exact⟨by rw[d.out];rfl,i.out.trans (r.mono i.out.size)⟩
   ·have d:=ad (show R=false by rw[h.out];simp[o,b,m]);have x:=eS b;have B:=eS m;subst o;clear b m h;go_wp2_with fail;go_ret;exact⟨by rw[d.out];rfl,i.out⟩
 ·by_cases u:Z=10
  ·by_cases b:k=11
   ·by_cases s:G=12
    ·have d:=ad (show R=false by rw[h.out];simp[u,b,s]);have x:=jY b;have w:=jY s;have B:(k==12)=false:=eS (by omega);have t4:(G !=12)=false:=by rw[bne,w];rfl
     clear w;clear o;subst u;clear b s h;go_wp2_with fail;refine C.out.mono ?_;rintro z D⟨rfl,r⟩;go_wp2_with fail;go_ret;exact⟨by rw[d.out];rfl,i.out.trans (r.mono i.out.size)⟩
    ·have d:=ad (show R=true by rw[h.out];simp[u,b,s]);have x:=jY b;have w:=eS s;have B:(k==12)=false:=eS (by omega);have t4:(G !=12)=true:=by rw[bne,w];rfl
     clear w;clear o;subst u;clear b s h;go_wp2_with fail;refine C.out.mono ?_;rintro z D⟨rfl,r⟩;go_wp2_with fail;go_ret;exact⟨by rw[d.out];rfl,i.out.trans (r.mono i.out.size)⟩
   ·by_cases m:k=12
    ·by_cases t:G=11
     ·have d:=ad (show R=true by rw[h.out];simp[u,b,m,t]);have x:=eS b;have B:=jY m;have w:=jY t;clear o;subst u;clear b m t h;go_wp2_with fail;refine C.out.mono ?_;rintro z D⟨rfl,r⟩;go_wp2_with fail;go_ret;exact⟨by rw[d.out];rfl,i.out.trans (r.mono i.out.size)⟩
     ·have d:=ad (show R=false by rw[h.out];simp[u,b,m,t]);have x:=eS b;have B:=jY m;have w:=eS t;clear o;subst u;clear b m t h;go_wp2_with fail;refine C.out.mono ?_;rintro z D⟨rfl,r⟩;go_wp2_with fail;go_ret;exact⟨by rw[d.out];rfl,i.out.trans (r.mono i.out.size)⟩
    ·have d:=ad (show R=false by rw[h.out];simp[u,b,m]);have x:=eS b;have B:=eS m;clear o;subst u;clear b m h;go_wp2_with fail;go_ret;exact⟨by rw[d.out];rfl,i.out⟩
  ·have d:=ad (show R= !(([8,9,11,12]:List Int).any (k==·)) by rw[h.out,ae o,ae u,Q1]);have x:=eS o;have w:=eS u;obtain⟨q,hq⟩:∃q,([8,9,11,12]:List Int).any (k==·)=q:=⟨_,rfl⟩;have S:Below E.heap.size E (E.alloc (.cells #[.int .i64 8,.int .i64 9,.int .i64 11,.int .i64 12] 3)):=(ar _ _).alloc (ag _) _;have N:=ad (C6 [8,9,11,12] k (by decide) E.heap.size 4 (E.alloc (.cells #[.int .i64 8,.int .i64 9,.int .i64 11,.int .i64 12] 3)) (fun j a A=>bH E _ _ j _ (by match j,A with|0,A=>(cases A;rfl)|1,A=>(cases A;rfl)|2,A=>(cases A;rfl)|3,A=>(cases A;rfl))) (by decide));rw[hq] at N d;have HA:=ad S;clear hq o u h S;go_wp2_with fail;refine N.out.mono ?_;rintro z D⟨rfl,rfl⟩;go_wp2_with fail;go_ret;exact⟨by rw[d.out];rfl,i.out.trans (HA.out.mono i.out.size)⟩
end
theorem Gg(nm:Bs)(b:bQ)(a:Nat)(W:World)(d:W.cell? ⟨a,0,none⟩=some (.string ⟨nm.toArray⟩)):
 Calls Tryz.prog 126 #[Tk b,.pointer (some ⟨a,0,none⟩)] W (cN W (.bool (b.name==nm))):=by
 have c:Below W.heap.size W (W.alloc (.cells (BF b).toArray 124)):=(ar _ _).alloc (ag _) _;have e:=ad c;have h:(W.alloc (.cells (BF b).toArray 124)).cell? ⟨a,0,none⟩=some (.string ⟨nm.toArray⟩):=(c.cell (p:=⟨a,0,none⟩) (aV d)).trans d;have i:=bH W (BF b).toArray 124 0 _ rfl;clear c d;go_enter Tryz.func126,Tryz.ntmps126;go_wp2_with fail;go_ret;exact⟨rfl,e.out⟩
theorem KD(a:Option Addr)(c:Nat)(x:Bs)(w:World):Calls Tryz.prog 159 #[.slice a 0 c,.string ⟨x.toArray⟩] w fun e w'=>e=.returned (.int .i64 (-1))∧w'=w:=by
 go_enter Tryz.func159,Tryz.ntmps159;go_upto_region 2 with fail
 go_loopw [8] (fun b wr=>b=.int .i64 0∧wr=w) (fun _ _=>0)
 case atStart=>exact⟨rfl,rfl⟩
 case round=>obtain⟨rfl,rfl⟩:=hrel;go_wp2_with fail;go_ret;exact⟨rfl,rfl⟩
theorem Gh(a:Option Addr)(c:Nat)(x:Bs)(w:World):Calls Tryz.prog 115 #[.slice a 0 c,.string ⟨x.toArray⟩] w fun e w'=>e=.returned (.bool false)∧w'=w:=by have b:=ad (KD a c x w);go_enter Tryz.func115,Tryz.ntmps115;go_wp2_with fail;refine b.out.mono ?_;rintro e d⟨rfl,rfl⟩;go_wp2_with fail;go_ret;exact⟨rfl,rfl⟩
theorem tP(w:World)(v:Value)(ls:List Bs)(x:Bs)(h:cg w v ls)(m:ls.length≤1000):
 Calls Tryz.prog 115 #[v,.string ⟨x.toArray⟩] w fun e w'=>e=.returned (.bool (ls.contains x))∧w'=w:=by
 rcases h with⟨a,c,rfl,rfl⟩|⟨b,o,c,rfl,k,l,i⟩
 ·have h:=Gh a c x w;exact h
 ·have h:=Tryz.slices_Contains_string b o ls.length c (ls.map fun b=>(⟨b.toArray⟩:ByteArray)) ⟨x.toArray⟩ w (by simp) (by omega) (fun j d=>by rw[jo] at d;have:=i j ls[j] (cA d);rw[this];simp[d])
  rw[oe (by simp),mr] at h;exact h
def BP(w0:World)(p:Nat)(s:Bs)(h:Int)(done:List Tok):Lx (List Tok)→Ending→World→Prop
 |.aq b j=>fun e w'=>e=.returned (.tuple #[])∧∃a d,LK w0 w' p s j h a (done++b) d
 |.bad q c=>mL w0.heap.size w0 q c
section
variable{w0 W:World}{p:Nat}{s:Bs}{i:Nat}{h:Int}{lv:Value}{done:List Tok}{xs:List Value}
theorem NJ(s:Bs)(tag:Nat):(elems.contains ((s.drop (tag+6)).take (db s (tag+6)))=false→de s tag=.bad tag 11)∧
 (elems.contains ((s.drop (tag+6)).take (db s (tag+6)))=true→(s.drop (pa s (tag+6+db s (tag+6)))=[]→de s tag=.bad tag 14)∧
  (∀c r,s.drop (pa s (tag+6+db s (tag+6)))=c::r→(c==62)=false→de s tag=.bad tag 11)∧
  (∀c r,s.drop (pa s (tag+6+db s (tag+6)))=c::r→(c==62)=true→de s tag=.aq [cS s 4 ((s.drop (tag+6)).take (db s (tag+6))) [] tag (pa s (tag+6+db s (tag+6))+1)] (pa s (tag+6+db s (tag+6))+1))):=by
 have b:de s tag=if elems.contains ((s.drop (tag+6)).take (db s (tag+6))) then
  match s.drop (pa s (tag+6+db s (tag+6))) with
  |[]=>.bad tag 14
  |c::_=>if c==62 then .aq [cS s 4 ((s.drop (tag+6)).take (db s (tag+6))) [] tag (pa s (tag+6+db s (tag+6))+1)] (pa s (tag+6+db s (tag+6))+1) else .bad tag 11
  else .bad tag 11:=rfl
 refine⟨fun h=>by rw[b,h];rfl,fun h=>⟨fun a=>by rw[b,h,a];rfl,fun c r a d=>by rw[b,h,a];simp only[if_true,d];rfl,fun c r a d=>by rw[b,h,a];simp only[if_true,d]⟩⟩
theorem KO(hG:GL w0)(H:LK w0 W p s i h lv done xs)(hi:i+6≤s.length)(w:s.length≤1000000)(hd:done.length≤9000000):
 Calls Tryz.prog 69 #[.pointer (some ⟨p,0,none⟩)] W (BP w0 p s h done (de s i)):=by
 have a:=ad (NJ s i);obtain⟨R,hR⟩:∃R,de s i=R:=⟨_,rfl⟩;rw[hR] at a⊢;clear hR;have T:=ad H;have B:=ad (H.box.iD (i+6));rw[show((i+6:Nat):Int)=(i:Int)+6 by omega] at B;have HT:=ad ((ak.refl p W).set (j:=1) (v:=.int .i64 ((i:Int)+6)));have A:=ad (T.out.aN HT.out B.out);obtain⟨c0,L,-,-,M,-,-⟩:=H.box.lc;have i1:(i:Int)+6≤1000000:=by omega
 have k:=ad (DC w0 hG A.out.up T.out.far (i:Int) hi B.out w);have E:=iI s hi;have Q:=vZ s E;have aU:=cY s (i+6+db s (i+6));have a0:=jP s E;clear H;go_enter Tryz.func69,Tryz.ntmps69;go_upto_region 2 with fail;clear c0 L M B HT;generalize W.setCell ⟨p,1,none⟩ (.int .i64 ((i:Int)+6))=C at*;obtain⟨n,hn⟩:∃n,db s (i+6)=n:=⟨_,rfl⟩;obtain⟨nm,af⟩:∃nm,(s.drop (i+6)).take n=nm:=⟨_,rfl⟩;rw[hn] at E Q aU a0 a k;rw[af] at a k;clear hn af;obtain⟨q,hq⟩:∃q,elems.contains nm=q:=⟨_,rfl⟩;rw[hq] at a k;clear hq;rcases q with _|_
 ·obtain rfl:=a.out.1 rfl;have J:=ad (show Calls Tryz.prog 118 #[.pointer (some ⟨p,0,none⟩),.int .i64 (i:Int)] C (mL p C i 11) from k.out.mono fun e w' O=>O.2 rfl);clear k a;go_wp2_with fail;refine J.out.mono ?_;rintro e w1⟨rfl,hb⟩;go_wp2_with fail;exact⟨rfl,rfl,A.out.up.trans (hb.mono A.out.far)⟩
 ·obtain⟨aa,ab,ac⟩:=a.out.2 rfl;have ao:=ad aa;have ap:=ad ab;have aq:=ad ac;have J:=ad (show Calls Tryz.prog 118 #[.pointer (some ⟨p,0,none⟩),.int .i64 (i:Int)] C (fun e w'=>e=.returned (.string ⟨nm.toArray⟩)∧LB w' p s (i+6+n) lv h∧ak p C w') from k.out.mono fun e w' O=>O.1 rfl);clear k a aa ab ac;go_wp2_with fail;refine J.out.mono ?_;rintro e x⟨rfl,N,ai⟩;have am:=ad (A.out.aN ai N);have al:=ad N;clear N ai;have hA:Below x.heap.size x (x.alloc (.cells (ei 4 nm (.slice none 0 0) [] 0 0).toArray 78)):=(ar _ _).alloc (ag _) _;have V:=ad (am.out.next hA);have X:=ad (au x (.cells (ei 4 nm (.slice none 0 0) [] 0 0).toArray 78));have a3:=al.out.lt;clear hA;go_upto_region 3 with fail;generalize x.heap.size=b at*;generalize x.alloc (.cells (ei 4 nm (.slice none 0 0) [] 0 0).toArray 78)=w5 at*;go_wp2_with fail;refine(DA E V.out.box w).mono ?_;rintro e w6⟨rfl,D,S⟩;rw[←Q] at D;have o:=ad (V.out.aN S D);have Y:=ad ((S.block _ (aB.1 X.out).1 (by intro e;cases e;omega)).trans X.out);have F:=ad D;clear D S Q;generalize pa s (i+6+n)=m at*;cases u:s.drop m with
  |nil=>
   obtain rfl:=ao.out u;have ay:m=s.length:=by have:=List.drop_eq_nil_iff.1 u;omega
   clear u;go_wp2_with fail;refine(iY i ay F.out w).mono ?_;rintro e y⟨rfl,d⟩;go_wp2_with fail;exact⟨rfl,rfl,o.out.up.trans (d.mono o.out.up.size)⟩
  |cons c r=>
   have z:=ad u;have a2:=ku u;clear u;obtain⟨q2,l⟩:∃q,(c==62)=q:=⟨_,rfl⟩;have a1:=ad l;rcases q2 with _|_
   ·obtain rfl:=ap.out _ _ z.out l;have q1:((c.toNat:Int)!=62)=true:=by rw[bne,show((c.toNat:Int)==62)=false from nz l];rfl
    clear l;go_wp2_with fail;refine(cX i z.out F.out w).mono ?_;rintro e y⟨rfl,d⟩;go_wp2_with fail;refine(fE i 11 y).mono ?_;rintro e w8⟨rfl,av⟩;go_wp2_with fail;exact⟨rfl,rfl,(o.out.up.trans (d.mono o.out.up.size)).trans (av.mono (bP o.out.up.size d.size))⟩
   ·obtain rfl:=aq.out _ _ z.out l;obtain rfl:c=62:=by simpa using l
    clear l;go_wp2_with fail;refine(cX i z.out F.out w).mono ?_;rintro e y⟨rfl,d⟩;have I:=ad (o.out.next d);have Z:=ad ((d.block _ (aB.1 Y.out).1).trans Y.out);clear d;obtain⟨-,L,-,-,M,-,-⟩:=I.out.box.lc;have G:=ad (I.out.box.iD (m+1));rw[show((m+1:Nat):Int)=(m:Int)+1 by omega] at G;have i9:(m:Int)+1≤1000001:=by omega
    have K:=ad ((ak.refl p y).set (j:=1) (v:=.int .i64 ((m:Int)+1)));have an:=ad (I.out.aN K.out G.out);have t:=ad ((K.out.block _ (aB.1 Z.out).1 (by intro e;cases e;omega)).trans Z.out);go_upto_region 7 with fail;clear L M G K;generalize y.setCell ⟨p,1,none⟩ (.int .i64 ((m:Int)+1))=w8 at*;have x0:=aj 0 t.out;have x1:=aj 1 t.out;have x2:=aj 2 t.out;have x3:=aj 3 t.out;have x4:=aj 4 t.out;have x5:=aj 5 t.out;have HC:=ad (nA an.out 4 nm [] none 0 (.inl ⟨rfl,none,0,rfl⟩) [] 0 0 i (by omega) (by omega) w (by omega));go_wp2_with fail;refine HC.out.mono ?_;rintro e w9⟨rfl,a4,a5,hr,-⟩;go_wp2_with fail
    go_end0
    exact⟨rfl,_,_,hr⟩
end
def Vm:Lx Tok→Lx (List Tok)
 |.bad p e=>.bad p e
 |.aq t j=>.aq [t] j
section
variable{w0 W:World}{p:Nat}{s:Bs}{i:Nat}{h:Int}{lv:Value}{done:List Tok}{xs:List Value}
theorem T5(s nm:Bs)(tag i:Nat)(V K:Int)(e:Lib.index (s.drop i) (bD++nm)=V)(d:Lib.index ((s.drop i).take V.toNat) eY=K):
 (V<0→iU s nm tag i=.bad tag 14)∧(0≤V→(0≤K→nm=bS→iU s nm tag i=.bad (i+K.toNat) 13)∧(¬(0≤K∧nm=bS)→iU s nm tag i=.aq (cS s 7 [] [] i (i+V.toNat)) (i+V.toNat))):=by
 subst e;subst d;have b:iU s nm tag i=if Lib.index (s.drop i) (bD++nm)<0 then .bad tag 14
  else if 0≤Lib.index ((s.drop i).take (Lib.index (s.drop i) (bD++nm)).toNat) eY∧nm=bS then .bad (i+(Lib.index ((s.drop i).take (Lib.index (s.drop i) (bD++nm)).toNat) eY).toNat) 13
   else .aq (cS s 7 [] [] i (i+(Lib.index (s.drop i) (bD++nm)).toNat)) (i+(Lib.index (s.drop i) (bD++nm)).toNat):=rfl
 exact⟨fun h=>by rw[b,ah h],fun h=>⟨fun a c=>by rw[b,ae (by omega),ah ⟨a,c⟩],fun a=>by rw[b,ae (by omega),ae a]⟩⟩
theorem Je(a b:Bs):(⟨a.toArray⟩:ByteArray)++⟨b.toArray⟩=⟨(a++b).toArray⟩:=by apply uG;apply Array.ext';simp
theorem Rh(T:GL w0)(H:LK w0 W p s i h lv done xs)(nm:Bs)(am:nm.length≤1000000)(tag:Nat)(hi:i≤s.length)(Y:s.length≤1000000)(hd:done.length≤9000000):
 Calls Tryz.prog 123 #[.pointer (some ⟨p,0,none⟩),.string ⟨nm.toArray⟩,.int .i64 (tag:Int)] W (BP w0 p s h done (Vm (iU s nm tag i))):=by
 obtain⟨V,t⟩:∃V,Lib.index (s.drop i) (bD++nm)=V:=⟨_,rfl⟩;obtain⟨K,q⟩:∃K,Lib.index ((s.drop i).take V.toNat) eY=K:=⟨_,rfl⟩;have x:=ad (T5 s nm tag i V K t q);obtain⟨R,N⟩:∃R,iU s nm tag i=R:=⟨_,rfl⟩;rw[N] at x⊢;have O:0≤V→i+V.toNat≤s.length:=fun b=>by have:=Lib.index_room (s.drop i) (bD++nm) (by rw[t];exact b);rw[t,bK] at this;omega
 have Q:0≤K→0≤V→i+K.toNat≤s.length:=fun b h1=>by have:=Lib.index_room ((s.drop i).take V.toNat) eY (by rw[q];exact b);rw[q,gu,bK] at this;omega
 have w:=ad H;have I:=ad T;have F:=ad (show∀a,Below w0.heap.size w0 a→Calls Tryz.prog 132 #[.string ⟨(s.drop i).toArray⟩,.string ⟨(bD++nm).toArray⟩] a fun e w'=>e=.returned (.int .i64 V)∧w'=a from fun a d=>by refine(mN ⟨(s.drop i).toArray⟩ ⟨(bD++nm).toArray⟩ a (I.out.gx.aq.next d) (by show(s.drop i).toArray.size<_;simp;omega)).mono ?_;rintro e w'⟨rfl,rfl⟩;exact⟨by rw[←t],rfl⟩)
 have G:=ad (show∀a,Below w0.heap.size w0 a→Calls Tryz.prog 132 #[.string ⟨((s.drop i).take V.toNat).toArray⟩,.string ⟨#[60,101,115,105,58]⟩] a fun e w'=>e=.returned (.int .i64 K)∧w'=a from fun a d=>by refine(mN ⟨((s.drop i).take V.toNat).toArray⟩ ⟨#[60,101,115,105,58]⟩ a (I.out.gx.aq.next d) (by show((s.drop i).take V.toNat).toArray.size<_;simp;omega)).mono ?_;rintro e w'⟨rfl,rfl⟩;exact⟨by rw[←q];rfl,rfl⟩)
 clear t q N;obtain⟨C,y,-,-,-,-,-⟩:=H.box.lc;have Z:((⟨s.toArray⟩:ByteArray).extract i s.length)=⟨(s.drop i).toArray⟩:=ic s i _ (ag _);have X:(⟨#[60,47,101,115,105,58]⟩:ByteArray)++⟨nm.toArray⟩=⟨(bD++nm).toArray⟩:=Je bD nm;have i0:(0:Int)≤(i:Int):=by omega
 have i2:(i:Int)≤(s.length:Int):=by omega
 generalize bD++nm=cn at*;generalize m:s.drop i=r at*;have S:=ad m;clear H m;go_enter Tryz.func123,Tryz.ntmps123;go_wp2_with fail;have ab:¬9223372036854775807<6+nm.length:=by omega
 go_quiet ((go_at_call 132;with_reducible exact mG (F.out _ (w.out.up.trans ((ax W _).mono w.out.up.size)))))
 have c:=ad (w.out.next (ax W nq));clear C y Z X ab F w;generalize W.drewN nq=a at*;by_cases b:V<0
 ·obtain rfl:=x.out.1 b;go_wp2_with fail;refine(fE tag 14 a).mono ?_;rintro e w1⟨rfl,d⟩;go_wp2_with fail;exact⟨rfl,rfl,c.out.up.trans (d.mono c.out.up.size)⟩
 ·obtain⟨n,rfl⟩:∃n:Nat,V=(n:Int):=⟨V.toNat,by omega⟩;have hn:=O (by omega);have z:=fun b=>Q b (by omega);have l:=ad (x.out.2 (by omega));rw[show((n:Nat):Int).toNat=n from rfl] at*;clear O Q x b;have i3:(i:Int)+(n:Int)≤(s.length:Int):=by omega
  have i4:(i:Int)≤(i:Int)+(n:Int):=by omega
  have i5:(0:Int)≤(i:Int)+(n:Int):=by omega
  have i6:IntKind.i64.wrap ((i:Int)+(n:Int))=(i:Int)+(n:Int):=IntWalk.i64_in _ (by omega);have i7:((i:Int)+(n:Int)).toNat=i+n:=by omega
  have aa:((⟨s.toArray⟩:ByteArray).extract i (i+n))=⟨(r.take n).toArray⟩:=vY s i _ _ (by rw[S.out,zQ]);obtain⟨C,y,-,-,-,-,-⟩:=c.out.box.lc;go_upto_region 3 with fail
  go_quiet ((go_at_call 132;with_reducible exact mG (G.out _ (c.out.up.trans ((ax a _).mono c.out.up.size)))))
  have o:=ad (c.out.next (ax a nq));clear C y aa G c;generalize a.drewN nq=M at*;obtain⟨-,y,-,-,f1,-,-⟩:=o.out.box.lc;have B:=ad (o.out.box.iD (i+n));rw[show((i+n:Nat):Int)=(i:Int)+(n:Int) by omega] at B;have L:=ad ((ak.refl p M).set (j:=1) (v:=.int .i64 ((i:Int)+(n:Int))));have J:=ad (o.out.aN L.out B.out);have A:=ad (nA J.out 7 [] [] none 0 (.inl ⟨rfl,none,0,rfl⟩) [] 0 0 i (by omega) (by omega) Y (by omega));clear B L J;by_cases E:0≤K
  ·by_cases u:nm=bS
   ·obtain⟨k,rfl⟩:∃k:Nat,K=(k:Int):=⟨K.toNat,by omega⟩;have al:=z E;rw[show((k:Nat):Int).toNat=k from rfl] at*;obtain rfl:=l.out.1 E u;subst u;clear z l A;go_wp2_with fail;refine(fE (i+k:Nat) 13 M).mono ?_;rintro e w1⟨rfl,d⟩;go_wp2_with fail;exact⟨rfl,rfl,o.out.up.trans (d.mono o.out.up.size)⟩
   ·have hq:(nm==[114,101,109,111,118,101])=false:=by rw[aL];exact u
    obtain rfl:=l.out.2 (fun D=>u D.2);have ai:¬K<0:=by omega
    clear z l u;go_wp2_with fail;refine A.out.mono ?_;rintro e w9⟨rfl,ac,af,m,-⟩;go_wp2_with fail
    go_end0
    exact⟨rfl,_,_,m⟩
  ·obtain rfl:=l.out.2 (fun D=>E D.1);clear z l;go_wp2_with fail;refine A.out.mono ?_;rintro e w9⟨rfl,ac,af,m,-⟩;go_wp2_with fail
   go_end0
   exact⟨rfl,_,_,m⟩
end
end Go.Proofs.YtogchgjfialleaaGreatDoor
namespace Go.Proofs.YtogchgjfialleaaGreatDoor
open Go.Lib
def rG(c:UInt8):Bool:=decide (65≤c.toNat∧c.toNat≤90∨97≤c.toNat∧c.toNat≤122)
def Hb(c:UInt8):Bool:=decide ((65≤c.toNat∧c.toNat≤90∨97≤c.toNat∧c.toNat≤122∨48≤c.toNat∧c.toNat≤57)∨c.toNat=43∨c.toNat=45∨c.toNat=46)
def mW:Bs:=[97,98,99,100,101,102,103,104,105,106,107,108,109,110,111,112,113,114,115,116,117,118,119,120,121,122,65,66,67,68,69,70,71,72,73,74,75,76,77,78,79,80,81,82,83,84,85,86,87,88,89,90]
def nN:Bs:=Ch++[43,45,46]
theorem Ey:(fun c=>mW.contains c)=rG:=jg _ _ (by decide+kernel)
theorem A0:(fun c=>nN.contains c)=Hb:=jg _ _ (by decide+kernel)
def OT:Bs→Bool
 |[]=>false
 |c::q=>rG c&&(c::q).all Hb
def xY(r:Bs):Bool:=r.contains 58&&OT (upto 58 r)
def qP:Bs:=[47,47]
def ju(t:Bs):U×Int:=if(cZ t).2=0 then(ji (cZ t).1,0) else(cm,(cZ t).2)
def pn(l:Bs):Nat:=(lastIndexByte ⟨l.toArray⟩ 47).toNat
def withPath(u base:U):Bs→U
 |[]=>u
 |c::q=>if c=47 then{u with path:=c::q} else{u with path:=base.path.take (pn base.path+1)++(c::q)}
def withQuery(base:U)(r:Bs):U:=if upto 63 r=[]∧r.contains 63=false then base else{base with query:=past 63 r,hq:=r.contains 63}
def dN(base:U)(r:Bs):U:=withPath (withQuery base r) base (upto 63 r)
def hZ(u:U):U×Int:=if aQ u=0 then(ji u,0) else(cm,aQ u)
def wM(base:U)(r:Bs):U×Int:=
 if xY r=true then
  (if(lower (upto 58 r)=my∨lower (upto 58 r)=ir)∧hasPrefix (past 58 r) qP=true then ju (lower (upto 58 r)++58::past 58 r) else(cm,4))
 else if hasPrefix r qP=true then ju (base.scheme++58::r)
 else hZ (dN base r)
def eW(base:U)(s:Bs):U×Int:=
 if 1024<s.length then(cm,3) else if aQ base=0 then wM base (upto 35 s) else(cm,2)
theorem A1{l:Bs}(h:l.contains 47=true):lastIndexByte ⟨l.toArray⟩ 47=(pn l:Int)∧pn l<l.length:=by
 rcases lastIndexByte_spec ⟨l.toArray⟩ 47 with⟨_,k⟩|⟨i,d,e,_,_⟩
 ·exfalso;obtain⟨j,a,c⟩:=List.getElem_of_mem (r8.1 h);refine k j a ?_;show((l.toArray[j]!).toNat:Int)=47;rw[getElem!_pos l.toArray j (by simpa using a)];simp[c]
 ·refine⟨?_, ?_⟩
  ·unfold pn;rw[e];simp
  ·unfold pn;rw[e];have b:i<l.toArray.size:=d;simpa using b
theorem OZ{q:Bs}:(47::q:Bs).contains 47=true:=by simp
theorem ph(c:UInt8)(l:Bs):(upto c l).length≤l.length:=by unfold upto;exact(List.takeWhile_sublist _).length_le
theorem xZ(c:UInt8)(l:Bs):(past c l).length≤l.length:=by rw[←jA];simp
theorem Hw{u:U}{r:Bs}(a:u.scheme.length≤10000)(b:u.host.length≤10000)(i:u.path.length≤4000)(h:u.query.length≤10000)(j:r.length≤4000):
 (dN u r).scheme.length≤10000∧(dN u r).host.length≤10000∧(dN u r).path.length≤10000∧(dN u r).query.length≤10000:=by
 have hq:(withQuery u r).scheme=u.scheme∧(withQuery u r).host=u.host∧(withQuery u r).path=u.path∧(withQuery u r).query.length≤10000:=by
  unfold withQuery;split
  ·exact⟨rfl,rfl,rfl,h⟩
  ·exact⟨rfl,rfl,rfl,by have:=xZ 63 r;show(past 63 r).length≤_;omega⟩
 obtain⟨a1,a2,a3,a4⟩:=hq;have e:=ph 63 r;unfold dN;generalize upto 63 r=p at*;cases p with
 |nil=>exact⟨by show(withQuery u r).scheme.length≤_;rw[a1];exact a,by show(withQuery u r).host.length≤_;rw[a2];exact b,by show(withQuery u r).path.length≤_;rw[a3];omega,a4⟩
 |cons c q=>
  unfold withPath;by_cases d:c=47
  ·simp only[d,if_true];exact⟨by rw[a1];exact a,by rw[a2];exact b,by simp at e⊢;omega,a4⟩
  ·simp only[d,if_false];refine⟨by rw[a1];exact a,by rw[a2];exact b, ?_,a4⟩;simp at e⊢;omega
