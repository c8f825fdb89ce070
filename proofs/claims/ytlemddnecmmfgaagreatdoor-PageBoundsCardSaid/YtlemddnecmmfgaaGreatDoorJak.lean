/- What references mean. -/
import Derived.Test.YtlemddnecmmfgaaGreatDoorJaj
set_option linter.unusedVariables false
set_option maxRecDepth 100000
set_option maxHeartbeats 4000000
namespace Go.Proofs.YtlemddnecmmfgaaGreatDoor
open Go.RowKit
theorem kN(w:aaK)(ls:List Bs)(c:Nat)(a:ls.length≤c):cg (w.alloc (.cells (ls.map fun x=>Value.string ⟨x.toArray⟩).toArray 9)) (.slice (some ⟨w.heap.size,0,none⟩) ls.length c) ls:=by refine .inr ⟨w.heap.size,0,c,rfl,a,by rw[aO];omega,fun j l b=> ?_⟩;rw[dH];exact bH w _ _ j _ (by simp[b])
theorem dV{fn:Func}{W:aaK}{tmps:Array aaL}{b a:Nat}{v0 v1 v2:aaL}(h:fn.results=#[.cell a 143])(d:tmps.getD a undef=.pointer (some ⟨b,0,none⟩))(c:W.heap[b]? =some (.cells #[v0,v1,v2] 143)):
 (results fn tmps).run Tryz.prog W=.ok (.agg #[v0,v1,v2]) W:=by
 obtain⟨i,j,k⟩:=qX3 (aj c) 0 1 2;have e:tmps[a]?.getD undef=.pointer (some ⟨b,0,none⟩):=by rw[←d];simp
 simp[results,h,go_sem,e,i,j,k]
def oq(w:aaK)(k:Int):Ending→aaK→Prop:=fun e w'=>Below w.heap.size w w'∧∃v,e=.returned (.agg #[.int .i64 k,v,.int .i64 ((aE k).2:Int)])∧cg w' v (aE k).1
theorem Wl(w:aaK)(nm:Bs)(i:(nm==[105,110,99,108,117,100,101])=true):Calls Tryz.prog 81 #[.string ⟨nm.toArray⟩] w (oq w 3):=by
 go_enter Tryz.func81,Tryz.ntmps81;go_wp2_with fail;have b:aE 3=([lC,lD,dj],1):=by rfl
 have d:Below w.heap.size w (w.alloc (.cells #[.int .i64 3,.slice (some ⟨w.heap.size+1,0,none⟩) 3 3,.int .i64 1] 143)):=(ar _ _).alloc (ag _) _;have e:=au w (.cells #[.int .i64 3,.slice (some ⟨w.heap.size+1,0,none⟩) 3 3,.int .i64 1] 143);have h:(w.alloc (.cells #[.int .i64 3,.slice (some ⟨w.heap.size+1,0,none⟩) 3 3,.int .i64 1] 143)).heap.size=w.heap.size+1:=aO _ _;have c:=kN (w.alloc (.cells #[.int .i64 3,.slice (some ⟨w.heap.size+1,0,none⟩) 3 3,.int .i64 1] 143)) [lC,lD,dj] 3 (by simp);have a:Below (w.alloc (.cells #[.int .i64 3,.slice (some ⟨w.heap.size+1,0,none⟩) 3 3,.int .i64 1] 143)).heap.size (w.alloc (.cells #[.int .i64 3,.slice (some ⟨w.heap.size+1,0,none⟩) 3 3,.int .i64 1] 143)) ((w.alloc (.cells #[.int .i64 3,.slice (some ⟨w.heap.size+1,0,none⟩) 3 3,.int .i64 1] 143)).alloc (.cells (([lC,lD,dj]:List Bs).map fun x=>Value.string ⟨x.toArray⟩).toArray 9)):=(ar _ _).alloc (ag _) _;rw[h] at c a;refine aD (v:=.agg #[.int .i64 3,.slice (some ⟨w.heap.size+1,0,none⟩) 3 3,.int .i64 1]) ?_ rfl ⟨d.t (a.m (by omega)),.slice (some ⟨w.heap.size+1,0,none⟩) 3 3,by rw[b];rfl,by rw[b];exact c⟩;exact dV rfl rfl ((a.block _ (by omega)).t e)
theorem Wm(w:aaK)(nm:Bs)(i:(nm==[105,110,99,108,117,100,101])=false)(j:(nm==[105,110,108,105,110,101])=true):Calls Tryz.prog 81 #[.string ⟨nm.toArray⟩] w (oq w 4):=by
 go_enter Tryz.func81,Tryz.ntmps81;go_wp2_with fail;have b:aE 4=([kO,eN],1):=by rfl
 have d:Below w.heap.size w (w.alloc (.cells #[.int .i64 4,.slice (some ⟨w.heap.size+1,0,none⟩) 2 2,.int .i64 1] 143)):=(ar _ _).alloc (ag _) _;have e:=au w (.cells #[.int .i64 4,.slice (some ⟨w.heap.size+1,0,none⟩) 2 2,.int .i64 1] 143);have h:(w.alloc (.cells #[.int .i64 4,.slice (some ⟨w.heap.size+1,0,none⟩) 2 2,.int .i64 1] 143)).heap.size=w.heap.size+1:=aO _ _;have c:=kN (w.alloc (.cells #[.int .i64 4,.slice (some ⟨w.heap.size+1,0,none⟩) 2 2,.int .i64 1] 143)) [kO,eN] 2 (by simp);have a:Below (w.alloc (.cells #[.int .i64 4,.slice (some ⟨w.heap.size+1,0,none⟩) 2 2,.int .i64 1] 143)).heap.size (w.alloc (.cells #[.int .i64 4,.slice (some ⟨w.heap.size+1,0,none⟩) 2 2,.int .i64 1] 143)) ((w.alloc (.cells #[.int .i64 4,.slice (some ⟨w.heap.size+1,0,none⟩) 2 2,.int .i64 1] 143)).alloc (.cells (([kO,eN]:List Bs).map fun x=>Value.string ⟨x.toArray⟩).toArray 9)):=(ar _ _).alloc (ag _) _;rw[h] at c a;refine aD (v:=.agg #[.int .i64 4,.slice (some ⟨w.heap.size+1,0,none⟩) 2 2,.int .i64 1]) ?_ rfl ⟨d.t (a.m (by omega)),.slice (some ⟨w.heap.size+1,0,none⟩) 2 2,by rw[b];rfl,by rw[b];exact c⟩;exact dV rfl rfl ((a.block _ (by omega)).t e)
theorem Wn(w:aaK)(nm:Bs)(d:(nm==[105,110,99,108,117,100,101])=false)(e:(nm==[105,110,108,105,110,101])=false)(h:(nm==[114,101,109,111,118,101])=true):Calls Tryz.prog 81 #[.string ⟨nm.toArray⟩] w (oq w 5):=by
 go_enter Tryz.func81,Tryz.ntmps81;go_wp2_with fail;have a:aE 5=([],0):=by rfl
 have b:Below w.heap.size w (w.alloc (.cells #[.int .i64 5,.slice none 0 0,.int .i64 0] 143)):=(ar _ _).alloc (ag _) _;have c:=au w (.cells #[.int .i64 5,.slice none 0 0,.int .i64 0] 143);refine aD (v:=.agg #[.int .i64 5,.slice none 0 0,.int .i64 0]) ?_ rfl ⟨b,.slice none 0 0,by rw[a];rfl,.inl ⟨none,0,rfl,by rw[a]⟩⟩;exact dV rfl rfl c
theorem Wo(w:aaK)(nm:Bs)(i:(nm==[105,110,99,108,117,100,101])=false)(j:(nm==[105,110,108,105,110,101])=false)(k:(nm==[114,101,109,111,118,101])=false)(l:(nm==[99,111,109,109,101,110,116])=true):Calls Tryz.prog 81 #[.string ⟨nm.toArray⟩] w (oq w 6):=by
 go_enter Tryz.func81,Tryz.ntmps81;go_wp2_with fail;have b:aE 6=([qH],1):=by rfl
 have d:Below w.heap.size w (w.alloc (.cells #[.int .i64 6,.slice (some ⟨w.heap.size+1,0,none⟩) 1 1,.int .i64 1] 143)):=(ar _ _).alloc (ag _) _;have e:=au w (.cells #[.int .i64 6,.slice (some ⟨w.heap.size+1,0,none⟩) 1 1,.int .i64 1] 143);have h:(w.alloc (.cells #[.int .i64 6,.slice (some ⟨w.heap.size+1,0,none⟩) 1 1,.int .i64 1] 143)).heap.size=w.heap.size+1:=aO _ _;have c:=kN (w.alloc (.cells #[.int .i64 6,.slice (some ⟨w.heap.size+1,0,none⟩) 1 1,.int .i64 1] 143)) [qH] 1 (by simp);have a:Below (w.alloc (.cells #[.int .i64 6,.slice (some ⟨w.heap.size+1,0,none⟩) 1 1,.int .i64 1] 143)).heap.size (w.alloc (.cells #[.int .i64 6,.slice (some ⟨w.heap.size+1,0,none⟩) 1 1,.int .i64 1] 143)) ((w.alloc (.cells #[.int .i64 6,.slice (some ⟨w.heap.size+1,0,none⟩) 1 1,.int .i64 1] 143)).alloc (.cells (([qH]:List Bs).map fun x=>Value.string ⟨x.toArray⟩).toArray 9)):=(ar _ _).alloc (ag _) _;rw[h] at c a;refine aD (v:=.agg #[.int .i64 6,.slice (some ⟨w.heap.size+1,0,none⟩) 1 1,.int .i64 1]) ?_ rfl ⟨d.t (a.m (by omega)),.slice (some ⟨w.heap.size+1,0,none⟩) 1 1,by rw[b];rfl,by rw[b];exact c⟩;exact dV rfl rfl ((a.block _ (by omega)).t e)
theorem Wp(w:aaK)(nm:Bs)(d:(nm==[105,110,99,108,117,100,101])=false)(e:(nm==[105,110,108,105,110,101])=false)(h:(nm==[114,101,109,111,118,101])=false)(i:(nm==[99,111,109,109,101,110,116])=false)(j:(nm==[116,114,121])=true):Calls Tryz.prog 81 #[.string ⟨nm.toArray⟩] w (oq w 7):=by
 go_enter Tryz.func81,Tryz.ntmps81;go_wp2_with fail;have a:aE 7=([],0):=by rfl
 have b:Below w.heap.size w (w.alloc (.cells #[.int .i64 7,.slice none 0 0,.int .i64 0] 143)):=(ar _ _).alloc (ag _) _;have c:=au w (.cells #[.int .i64 7,.slice none 0 0,.int .i64 0] 143);refine aD (v:=.agg #[.int .i64 7,.slice none 0 0,.int .i64 0]) ?_ rfl ⟨b,.slice none 0 0,by rw[a];rfl,.inl ⟨none,0,rfl,by rw[a]⟩⟩;exact dV rfl rfl c
theorem Wq(w:aaK)(nm:Bs)(d:(nm==[105,110,99,108,117,100,101])=false)(e:(nm==[105,110,108,105,110,101])=false)(h:(nm==[114,101,109,111,118,101])=false)(i:(nm==[99,111,109,109,101,110,116])=false)(j:(nm==[116,114,121])=false)(k:(nm==[97,116,116,101,109,112,116])=true):Calls Tryz.prog 81 #[.string ⟨nm.toArray⟩] w (oq w 8):=by
 go_enter Tryz.func81,Tryz.ntmps81;go_wp2_with fail;have a:aE 8=([],0):=by rfl
 have b:Below w.heap.size w (w.alloc (.cells #[.int .i64 8,.slice none 0 0,.int .i64 0] 143)):=(ar _ _).alloc (ag _) _;have c:=au w (.cells #[.int .i64 8,.slice none 0 0,.int .i64 0] 143);refine aD (v:=.agg #[.int .i64 8,.slice none 0 0,.int .i64 0]) ?_ rfl ⟨b,.slice none 0 0,by rw[a];rfl,.inl ⟨none,0,rfl,by rw[a]⟩⟩;exact dV rfl rfl c
theorem Wr(w:aaK)(nm:Bs)(d:(nm==[105,110,99,108,117,100,101])=false)(e:(nm==[105,110,108,105,110,101])=false)(h:(nm==[114,101,109,111,118,101])=false)(i:(nm==[99,111,109,109,101,110,116])=false)(j:(nm==[116,114,121])=false)(k:(nm==[97,116,116,101,109,112,116])=false)(l:(nm==[101,120,99,101,112,116])=true):Calls Tryz.prog 81 #[.string ⟨nm.toArray⟩] w (oq w 9):=by
 go_enter Tryz.func81,Tryz.ntmps81;go_wp2_with fail;have a:aE 9=([],0):=by rfl
 have b:Below w.heap.size w (w.alloc (.cells #[.int .i64 9,.slice none 0 0,.int .i64 0] 143)):=(ar _ _).alloc (ag _) _;have c:=au w (.cells #[.int .i64 9,.slice none 0 0,.int .i64 0] 143);refine aD (v:=.agg #[.int .i64 9,.slice none 0 0,.int .i64 0]) ?_ rfl ⟨b,.slice none 0 0,by rw[a];rfl,.inl ⟨none,0,rfl,by rw[a]⟩⟩;exact dV rfl rfl c
theorem Ws(w:aaK)(nm:Bs)(d:(nm==[105,110,99,108,117,100,101])=false)(e:(nm==[105,110,108,105,110,101])=false)(h:(nm==[114,101,109,111,118,101])=false)(i:(nm==[99,111,109,109,101,110,116])=false)(j:(nm==[116,114,121])=false)(k:(nm==[97,116,116,101,109,112,116])=false)(l:(nm==[101,120,99,101,112,116])=false)(m:(nm==[99,104,111,111,115,101])=true):Calls Tryz.prog 81 #[.string ⟨nm.toArray⟩] w (oq w 10):=by
 go_enter Tryz.func81,Tryz.ntmps81;go_wp2_with fail;have a:aE 10=([],0):=by rfl
 have b:Below w.heap.size w (w.alloc (.cells #[.int .i64 10,.slice none 0 0,.int .i64 0] 143)):=(ar _ _).alloc (ag _) _;have c:=au w (.cells #[.int .i64 10,.slice none 0 0,.int .i64 0] 143);refine aD (v:=.agg #[.int .i64 10,.slice none 0 0,.int .i64 0]) ?_ rfl ⟨b,.slice none 0 0,by rw[a];rfl,.inl ⟨none,0,rfl,by rw[a]⟩⟩;exact dV rfl rfl c
theorem Wt(w:aaK)(nm:Bs)(i:(nm==[105,110,99,108,117,100,101])=false)(j:(nm==[105,110,108,105,110,101])=false)(k:(nm==[114,101,109,111,118,101])=false)(l:(nm==[99,111,109,109,101,110,116])=false)(n:(nm==[116,114,121])=false)(o:(nm==[97,116,116,101,109,112,116])=false)(p:(nm==[101,120,99,101,112,116])=false)(q:(nm==[99,104,111,111,115,101])=false)(r:(nm==[119,104,101,110])=true):Calls Tryz.prog 81 #[.string ⟨nm.toArray⟩] w (oq w 11):=by
 go_enter Tryz.func81,Tryz.ntmps81;go_wp2_with fail;have b:aE 11=([gT],1):=by rfl
 have d:Below w.heap.size w (w.alloc (.cells #[.int .i64 11,.slice (some ⟨w.heap.size+1,0,none⟩) 1 1,.int .i64 1] 143)):=(ar _ _).alloc (ag _) _;have e:=au w (.cells #[.int .i64 11,.slice (some ⟨w.heap.size+1,0,none⟩) 1 1,.int .i64 1] 143);have h:(w.alloc (.cells #[.int .i64 11,.slice (some ⟨w.heap.size+1,0,none⟩) 1 1,.int .i64 1] 143)).heap.size=w.heap.size+1:=aO _ _;have c:=kN (w.alloc (.cells #[.int .i64 11,.slice (some ⟨w.heap.size+1,0,none⟩) 1 1,.int .i64 1] 143)) [gT] 1 (by simp);have a:Below (w.alloc (.cells #[.int .i64 11,.slice (some ⟨w.heap.size+1,0,none⟩) 1 1,.int .i64 1] 143)).heap.size (w.alloc (.cells #[.int .i64 11,.slice (some ⟨w.heap.size+1,0,none⟩) 1 1,.int .i64 1] 143)) ((w.alloc (.cells #[.int .i64 11,.slice (some ⟨w.heap.size+1,0,none⟩) 1 1,.int .i64 1] 143)).alloc (.cells (([gT]:List Bs).map fun x=>Value.string ⟨x.toArray⟩).toArray 9)):=(ar _ _).alloc (ag _) _;rw[h] at c a;refine aD (v:=.agg #[.int .i64 11,.slice (some ⟨w.heap.size+1,0,none⟩) 1 1,.int .i64 1]) ?_ rfl ⟨d.t (a.m (by omega)),.slice (some ⟨w.heap.size+1,0,none⟩) 1 1,by rw[b];rfl,by rw[b];exact c⟩;exact dV rfl rfl ((a.block _ (by omega)).t e)
theorem Wu(w:aaK)(nm:Bs)(d:(nm==[105,110,99,108,117,100,101])=false)(e:(nm==[105,110,108,105,110,101])=false)(h:(nm==[114,101,109,111,118,101])=false)(i:(nm==[99,111,109,109,101,110,116])=false)(j:(nm==[116,114,121])=false)(k:(nm==[97,116,116,101,109,112,116])=false)(l:(nm==[101,120,99,101,112,116])=false)(m:(nm==[99,104,111,111,115,101])=false)(n:(nm==[119,104,101,110])=false)(o:(nm==[111,116,104,101,114,119,105,115,101])=true):Calls Tryz.prog 81 #[.string ⟨nm.toArray⟩] w (oq w 12):=by
 go_enter Tryz.func81,Tryz.ntmps81;go_wp2_with fail;have a:aE 12=([],0):=by rfl
 have b:Below w.heap.size w (w.alloc (.cells #[.int .i64 12,.slice none 0 0,.int .i64 0] 143)):=(ar _ _).alloc (ag _) _;have c:=au w (.cells #[.int .i64 12,.slice none 0 0,.int .i64 0] 143);refine aD (v:=.agg #[.int .i64 12,.slice none 0 0,.int .i64 0]) ?_ rfl ⟨b,.slice none 0 0,by rw[a];rfl,.inl ⟨none,0,rfl,by rw[a]⟩⟩;exact dV rfl rfl c
theorem Vh(w:aaK)(nm:Bs)(d:(nm==[105,110,99,108,117,100,101])=false)(e:(nm==[105,110,108,105,110,101])=false)(h:(nm==[114,101,109,111,118,101])=false)(i:(nm==[99,111,109,109,101,110,116])=false)(j:(nm==[116,114,121])=false)(k:(nm==[97,116,116,101,109,112,116])=false)(l:(nm==[101,120,99,101,112,116])=false)(m:(nm==[99,104,111,111,115,101])=false)(n:(nm==[119,104,101,110])=false)(o:(nm==[111,116,104,101,114,119,105,115,101])=false):Calls Tryz.prog 81 #[.string ⟨nm.toArray⟩] w (oq w 13):=by
 go_enter Tryz.func81,Tryz.ntmps81;go_wp2_with fail;have a:aE 13=([],0):=by rfl
 have b:Below w.heap.size w (w.alloc (.cells #[.int .i64 13,.slice none 0 0,.int .i64 0] 143)):=(ar _ _).alloc (ag _) _;have c:=au w (.cells #[.int .i64 13,.slice none 0 0,.int .i64 0] 143);refine aD (v:=.agg #[.int .i64 13,.slice none 0 0,.int .i64 0]) ?_ rfl ⟨b,.slice none 0 0,by rw[a];rfl,.inl ⟨none,0,rfl,by rw[a]⟩⟩;exact dV rfl rfl c
theorem Nh(w:aaK)(nm:Bs):Calls Tryz.prog 81 #[.string ⟨nm.toArray⟩] w (oq w (kindOf nm)):=by
 obtain⟨o,b⟩:∃a,(nm==[105,110,99,108,117,100,101])=a:=⟨_,rfl⟩;obtain⟨a1,c⟩:∃a,(nm==[105,110,108,105,110,101])=a:=⟨_,rfl⟩;obtain⟨a2,d⟩:∃a,(nm==[114,101,109,111,118,101])=a:=⟨_,rfl⟩;obtain⟨a3,e⟩:∃a,(nm==[99,111,109,109,101,110,116])=a:=⟨_,rfl⟩;obtain⟨a4,h⟩:∃a,(nm==[116,114,121])=a:=⟨_,rfl⟩;obtain⟨p,i⟩:∃a,(nm==[97,116,116,101,109,112,116])=a:=⟨_,rfl⟩;obtain⟨q,k⟩:∃a,(nm==[101,120,99,101,112,116])=a:=⟨_,rfl⟩;obtain⟨r,l⟩:∃a,(nm==[99,104,111,111,115,101])=a:=⟨_,rfl⟩;obtain⟨s,m⟩:∃a,(nm==[119,104,101,110])=a:=⟨_,rfl⟩;obtain⟨t,n⟩:∃a,(nm==[111,116,104,101,114,119,105,115,101])=a:=⟨_,rfl⟩;have j:kindOf nm=if nm=eJ then 3 else if nm=cF then 4 else if nm=bS then 5 else if nm=gz then 6 else if nm=zt then 7 else if nm=iW then 8 else if nm=lK then 9 else if nm=XI then 10 else if nm=Aa then 11 else if nm=kQ then 12 else 13:=rfl;rcases o with _|_
 rotate_left
 ·rw[j,ah (eq_of_beq b:nm=eJ)];exact Wl w nm b
 rcases a1 with _|_
 rotate_left
 ·rw[j,ae (aT b:¬nm=eJ),ah (eq_of_beq c:nm=cF)];exact Wm w nm b c
 rcases a2 with _|_
 rotate_left
 ·rw[j,ae (aT b:¬nm=eJ),ae (aT c:¬nm=cF),ah (eq_of_beq d:nm=bS)];exact Wn w nm b c d
 rcases a3 with _|_
 rotate_left
 ·rw[j,ae (aT b:¬nm=eJ),ae (aT c:¬nm=cF),ae (aT d:¬nm=bS),ah (eq_of_beq e:nm=gz)];exact Wo w nm b c d e
 rcases a4 with _|_
 rotate_left
 ·rw[j,ae (aT b:¬nm=eJ),ae (aT c:¬nm=cF),ae (aT d:¬nm=bS),ae (aT e:¬nm=gz),ah (eq_of_beq h:nm=zt)];exact Wp w nm b c d e h
 rcases p with _|_
 rotate_left
 ·rw[j,ae (aT b:¬nm=eJ),ae (aT c:¬nm=cF),ae (aT d:¬nm=bS),ae (aT e:¬nm=gz),ae (aT h:¬nm=zt),ah (eq_of_beq i:nm=iW)];exact Wq w nm b c d e h i
 rcases q with _|_
 rotate_left
 ·rw[j,ae (aT b:¬nm=eJ),ae (aT c:¬nm=cF),ae (aT d:¬nm=bS),ae (aT e:¬nm=gz),ae (aT h:¬nm=zt),ae (aT i:¬nm=iW),ah (eq_of_beq k:nm=lK)];exact Wr w nm b c d e h i k
 rcases r with _|_
 rotate_left
 ·rw[j,ae (aT b:¬nm=eJ),ae (aT c:¬nm=cF),ae (aT d:¬nm=bS),ae (aT e:¬nm=gz),ae (aT h:¬nm=zt),ae (aT i:¬nm=iW),ae (aT k:¬nm=lK),ah (eq_of_beq l:nm=XI)];exact Ws w nm b c d e h i k l
 rcases s with _|_
 rotate_left
 ·rw[j,ae (aT b:¬nm=eJ),ae (aT c:¬nm=cF),ae (aT d:¬nm=bS),ae (aT e:¬nm=gz),ae (aT h:¬nm=zt),ae (aT i:¬nm=iW),ae (aT k:¬nm=lK),ae (aT l:¬nm=XI),ah (eq_of_beq m:nm=Aa)];exact Wt w nm b c d e h i k l m
 rcases t with _|_
 rotate_left
 ·rw[j,ae (aT b:¬nm=eJ),ae (aT c:¬nm=cF),ae (aT d:¬nm=bS),ae (aT e:¬nm=gz),ae (aT h:¬nm=zt),ae (aT i:¬nm=iW),ae (aT k:¬nm=lK),ae (aT l:¬nm=XI),ae (aT m:¬nm=Aa),ah (eq_of_beq n:nm=kQ)];exact Wu w nm b c d e h i k l m n
 rw[j,ae (aT b:¬nm=eJ),ae (aT c:¬nm=cF),ae (aT d:¬nm=bS),ae (aT e:¬nm=gz),ae (aT h:¬nm=zt),ae (aT i:¬nm=iW),ae (aT k:¬nm=lK),ae (aT l:¬nm=XI),ae (aT m:¬nm=Aa),ae (aT n:¬nm=kQ)];exact Vh w nm b c d e h i k l m n
theorem Gf(nm v:Bs):lJ nm v=if nm=dj then v==iJ else if nm=eN then v==Da||v==Tm else if nm=qH then true else !v.isEmpty:=rfl
theorem Kz(w:aaK)(nm v:Bs):Calls Tryz.prog 123 #[.string ⟨nm.toArray⟩,.string ⟨v.toArray⟩] w (fun e w'=>e=.returned (.bool (lJ nm v))∧w'=w):=by
 obtain⟨p,l⟩:∃a,(nm==[111,110,101,114,114,111,114])=a:=⟨_,rfl⟩;obtain⟨a1,m⟩:∃a,(nm==[102,101,116,99,104,97,98,108,101])=a:=⟨_,rfl⟩;obtain⟨a2,n⟩:∃a,(nm==[116,101,120,116])=a:=⟨_,rfl⟩;obtain⟨q,h⟩:∃a,(v==[99,111,110,116,105,110,117,101])=a:=⟨_,rfl⟩;obtain⟨b1,i⟩:∃a,(v==[121,101,115])=a:=⟨_,rfl⟩;obtain⟨b2,j⟩:∃a,(v==[110,111])=a:=⟨_,rfl⟩;obtain⟨b3,k⟩:∃a,v.isEmpty=a:=⟨_,rfl⟩;obtain⟨R,d⟩:∃R,lJ nm v=R:=⟨_,rfl⟩;have b:=Gf nm v;rw[d] at b⊢;rcases p with _|_
 ·rw[ae (aT l:¬nm=dj)] at b;rcases a1 with _|_
  ·rw[ae (aT m:¬nm=eN)] at b;rcases a2 with _|_
   ·rw[ae (aT n:¬nm=qH),k] at b;have c:=ad b;clear b d h i j;go_enter Tryz.func123,Tryz.ntmps123;go_wp2_with fail;go_ret;exact⟨by rw[c.o];rfl,rfl⟩
   ·rw[ah (eq_of_beq n:nm=qH)] at b;have c:=ad b;clear b d h i j k;go_enter Tryz.func123,Tryz.ntmps123;go_wp2_with fail;go_ret;exact⟨by rw[c.o];rfl,rfl⟩
  ·rw[ah (eq_of_beq m:nm=eN),show(v==Da)=b1 from i,show(v==Tm)=b2 from j] at b;have c:=ad b;clear b d h k;rcases b1 with _|_
   ·go_enter Tryz.func123,Tryz.ntmps123;go_wp2_with fail;go_ret;exact⟨by rw[c.o];rfl,rfl⟩
   ·go_enter Tryz.func123,Tryz.ntmps123;go_wp2_with fail;go_ret;exact⟨by rw[c.o];rfl,rfl⟩
 ·rw[ah (eq_of_beq l:nm=dj),show(v==iJ)=q from h] at b;have c:=ad b;clear b d i j k;go_enter Tryz.func123,Tryz.ntmps123;go_wp2_with fail;go_ret;exact⟨by rw[c.o];rfl,rfl⟩
variable{d M:Int}
def BI(v:Int)(l:List Int):Int:=match l.findIdx? (v==·) with|some k=>(k:Int)|none=>-1
theorem KA{v:Int}{l:List Int}(h:∀k:Nat,∀a,l[k]? =some a→(v==a)=false):BI v l=-1:=by unfold BI;rw[zL.2];intro a b;obtain⟨k,c⟩:=zP.1 b;exact h k a c
theorem KC{v:Int}{l:List Int}{k:Nat}{a:Int}(h:∀j:Nat,j<k→∀a,l[j]? =some a→(v==a)=false)(b:l[k]? =some a)(hq:(v==a)=true):BI v l=(k:Int):=by unfold BI;have d:=(cH.1 b).1;rw[zM.2 ⟨d,by rw[(cH.1 b).2];exact hq,fun j c=> ?_⟩];have:=h j c _ (cA (by omega));simpa using this
theorem Ni(l:List Int)(v:Int)(K:l.length≤1000)(b c:Nat)(w:aaK)(D:∀(j:Nat) (a:Int),l[j]? =some a→w.cell? ⟨b,j,none⟩=some (.int .i64 a))(L:l.length≤c):
 Calls Tryz.prog 156 #[.slice (some ⟨b,0,none⟩) l.length c,.int .i64 v] w (fun e w'=>e=.returned (.int .i64 (BI v l))∧w'=w):=by
 have E:=ad D;obtain⟨V,d⟩:∃V,BI v l=V:=⟨_,rfl⟩;rw[d];have F:=ad (fun h=>d.symm.t (KA (v:=v) (l:=l) h));have H:=ad (fun k a h m hq=>d.symm.t (KC (v:=v) (l:=l) (k:=k) (a:=a) h m hq));obtain⟨n,y⟩:∃n,l.length=n:=⟨_,rfl⟩;have B:=ad y;rw[y] at K L⊢;clear D d y;go_enter Tryz.func156,Tryz.ntmps156;go_upto_region 2 with fail
 go_loopw [8] (fun z wr=>∃i:Nat,i≤n∧z=.int .i64 i∧Hid (∀j:Nat,j<i→∀a,l[j]? =some a→(v==a)=false)∧wr=w) (fun z _=>n-(intOf z).toNat)
 case atStart=>exact⟨0,aH _,rfl,ad (fun j I=>by omega),rfl⟩
 case round=>
  obtain⟨i,Q,rfl,q,rfl⟩:=hrel;by_cases M:i<n
  ·have S:(i:Int)<(n:Int):=by omega
   have R:(0:Int)≤(i:Int):=by omega
   obtain⟨a,u⟩:∃a,l[i]? =some a:=⟨_,cA (by rw[B.o];exact M)⟩;have A:=ad u;have O:=E.o i a u;obtain⟨r,N⟩:∃r,(v==a)=r:=⟨_,rfl⟩;have C:=ad N;clear u;rcases r with _|_
   ·have G:=ad (fun(j:Nat) (I:j<i+1) (s:Int) (x:l[j]? =some s)=>show(v==s)=false by
     by_cases J:j<i
     ·exact q.o j J s x
     ·obtain rfl:j=i:=by omega
      rw[A.o] at x;cases x;exact C.o)
    go_wp2_with fail
    go_roundw
    case rel=>exact⟨i+1,by omega,by go_num,G,by trivial⟩
    case measure=>(simp[intOf]<;>omega)
   ·have p:=ad (H.o i a q.o A.o C.o);go_wp2_with fail;go_ret;exact⟨by rw[p.o];rfl,rfl⟩
  ·obtain rfl:i=n:=by omega
   have p:=ad (F.o fun k a m=>q.o k (by rw[←B.o];exact(cH.1 m).1) a m);go_wp2_with fail;go_ret;exact⟨by rw[p.o];rfl,rfl⟩
theorem Nj(v:Int)(l:List Int):decide (0≤BI v l)=l.any (v==·):=by
 unfold BI;cases h:l.findIdx? (v==·) with
 |none=>rw[zL] at h;rw[aaV.2 fun a b=>by rw[h a b];decide];rfl
 |some k=>obtain⟨c,hq,_⟩:=zM.1 h;rw[lF.2 ⟨_,wI c,hq⟩];exact bN (Int.natCast_nonneg k)
theorem C6(l:List Int)(v:Int)(k:l.length≤1000)(b c:Nat)(w:aaK)(d:∀(j:Nat) (a:Int),l[j]? =some a→w.cell? ⟨b,j,none⟩=some (.int .i64 a))(p:l.length≤c):
 Calls Tryz.prog 119 #[.slice (some ⟨b,0,none⟩) l.length c,.int .i64 v] w (fun e w'=>e=.returned (.bool (l.any (v==·)))∧w'=w):=by
 have i:=ad (Ni l v k b c w d p);have h:=ad (Nj v l);generalize BI v l=V at*;generalize l.any (v==·)=R at*;generalize l.length=n at*;clear d;go_enter Tryz.func119,Tryz.ntmps119;go_wp2_with fail;refine i.o.m ?_;rintro e q⟨rfl,rfl⟩;go_wp2_with fail;go_ret;exact⟨cq h.o,rfl⟩
theorem TW(y:Nd)(k:Int):oy y k=if y.kind=7 then decide (k=8∧Xs y=0∨k=9∧Xs y=8) else if y.kind=10 then decide (k=11∧Xs y≠12∨k=12∧Xs y=11) else !decide (k=8∨k=9∨k=11∨k=12):=rfl
theorem Q1(k:Int):decide (k=8∨k=9∨k=11∨k=12)=([8,9,11,12]:List Int).any (k==·):=by rw[gf];simp
section
variable{lo:KB}{w0 W W':aaK}{pb:Nat}{ov:aaL}{st:List Nd}{kvs ys:List aaL}{place e:Int}
theorem jY(h:d=M):(d==M)=true:=by rw[h];exact qS _
theorem eS(h:¬d=M):(d==M)=false:=aL.2 h
theorem Jj{l:List Nd}{y:Nd}(H:PK lo w0 W pb ov (l++[y]) kvs ys place e)(hl:l.length≤1000)(hk:y.kids.length≤10000000)(k:Int):
 Calls Tryz.prog 82 #[.pointer (some ⟨pb,0,none⟩),.int .i64 k] W (cN W (.bool (oy y k))):=by
 obtain⟨g,cap,a,c,kv,xs,ks,zs,ho,e1,e2,hz,F,ab,Z⟩:=H.oM;have V:=ad (pX H ho hl);have T:=ad (And.intro F Z);have N:=ad (fun v (hb:Below W.heap.size W v)=>Dm (H.next hb) hl hk);have M:=TW y k;obtain⟨R,Y⟩:∃R,oy y k=R:=⟨_,rfl⟩;rw[Y] at M⊢;obtain⟨yk,Q⟩:∃n,y.kind=n:=⟨_,rfl⟩;obtain⟨K,O⟩:∃n,Xs y=n:=⟨_,rfl⟩;rw[Q,O] at M;have aa:=ad Q;rw[O] at N;have h:=ad M;clear H ho e1 e2 F ab Z M Y Q O;go_enter Tryz.func82,Tryz.ntmps82;go_upto_region 1 with fail;go_wp2_with fail;refine V.o.m ?_;rintro C J⟨rfl,L⟩;have k0:=(L.cell (p:=⟨g,l.length*5,none⟩) T.o.2).t T.o.1.c0;rw[aa.o] at k0;have i:=ad L;have G:=ad (N.o J L);clear L V N;by_cases s:yk=7
 ·by_cases b:k=8
  ·by_cases w:K=0
   ·have d:=ad (show R=true by rw[h.o];simp[s,b,w]);have B:=jY b;have A:=jY w;have E:(k==9)=false:=eS (by omega);subst s;clear b w h;go_wp2_with fail;refine G.o.m ?_;rintro C I⟨rfl,u⟩;go_wp2_with fail;go_ret;exact⟨by rw[d.o];rfl,i.o.t (u.m i.o.size)⟩
   ·have d:=ad (show R=false by rw[h.o];simp[s,b,w]);have B:=jY b;have A:=eS w;have E:(k==9)=false:=eS (by omega);subst s;clear b w h;go_wp2_with fail;refine G.o.m ?_;rintro C I⟨rfl,u⟩;go_wp2_with fail;go_ret;exact⟨by rw[d.o];rfl,i.o.t (u.m i.o.size)⟩
  ·by_cases r:k=9
   ·by_cases x:K=8
    ·have d:=ad (show R=true by rw[h.o];simp[s,r,x]);have B:=eS b;have E:=jY r;have A:=jY x;subst s;clear b r x h;go_wp2_with fail;refine G.o.m ?_;rintro C I⟨rfl,u⟩;go_wp2_with fail;go_ret;exact⟨by rw[d.o];rfl,i.o.t (u.m i.o.size)⟩
    ·have d:=ad (show R=false by rw[h.o];simp[s,r,x]);have B:=eS b;have E:=jY r;have A:=eS x;subst s;clear b r x h;go_wp2_with fail;refine G.o.m ?_;rintro C I⟨rfl,u⟩;go_wp2_with fail;go_ret;exact⟨by rw[d.o];rfl,i.o.t (u.m i.o.size)⟩
   ·have d:=ad (show R=false by rw[h.o];simp[s,b,r]);have B:=eS b;have E:=eS r;subst s;clear b r h;go_wp2_with fail;go_ret;exact⟨by rw[d.o];rfl,i.o⟩
 ·by_cases z:yk=10
  ·by_cases b:k=11
   ·by_cases w:K=12
    ·have d:=ad (show R=false by rw[h.o];simp[z,b,w]);have B:=jY b;have A:=jY w;have E:(k==12)=false:=eS (by omega);have t4:(K !=12)=false:=by rw[bne,A];rfl
     clear A;clear s;subst z;clear b w h;go_wp2_with fail;refine G.o.m ?_;rintro C I⟨rfl,u⟩;go_wp2_with fail;go_ret;exact⟨by rw[d.o];rfl,i.o.t (u.m i.o.size)⟩
    ·have d:=ad (show R=true by rw[h.o];simp[z,b,w]);have B:=jY b;have A:=eS w;have E:(k==12)=false:=eS (by omega);have t4:(K !=12)=true:=by rw[bne,A];rfl
     clear A;clear s;subst z;clear b w h;go_wp2_with fail;refine G.o.m ?_;rintro C I⟨rfl,u⟩;go_wp2_with fail;go_ret;exact⟨by rw[d.o];rfl,i.o.t (u.m i.o.size)⟩
   ·by_cases r:k=12
    ·by_cases x:K=11
     ·have d:=ad (show R=true by rw[h.o];simp[z,r,x]);have B:=eS b;have E:=jY r;have A:=jY x;clear s;subst z;clear b r x h;go_wp2_with fail;refine G.o.m ?_;rintro C I⟨rfl,u⟩;go_wp2_with fail;go_ret;exact⟨by rw[d.o];rfl,i.o.t (u.m i.o.size)⟩
     ·have d:=ad (show R=false by rw[h.o];simp[z,r,x]);have B:=eS b;have E:=jY r;have A:=eS x;clear s;subst z;clear b r x h;go_wp2_with fail;refine G.o.m ?_;rintro C I⟨rfl,u⟩;go_wp2_with fail;go_ret;exact⟨by rw[d.o];rfl,i.o.t (u.m i.o.size)⟩
    ·have d:=ad (show R=false by rw[h.o];simp[z,b,r]);have B:=eS b;have E:=eS r;clear s;subst z;clear b r h;go_wp2_with fail;go_ret;exact⟨by rw[d.o];rfl,i.o⟩
  ·have d:=ad (show R= !(([8,9,11,12]:List Int).any (k==·)) by rw[h.o,ae s,ae z,Q1]);have B:=eS s;have A:=eS z;obtain⟨q,hq⟩:∃q,([8,9,11,12]:List Int).any (k==·)=q:=⟨_,rfl⟩;have X:Below J.heap.size J (J.alloc (.cells #[.int .i64 8,.int .i64 9,.int .i64 11,.int .i64 12] 3)):=(ar _ _).alloc (ag _) _;have S:=ad (C6 [8,9,11,12] k (by decide) J.heap.size 4 (J.alloc (.cells #[.int .i64 8,.int .i64 9,.int .i64 11,.int .i64 12] 3)) (fun j a D=>bH J _ _ j _ (by match j,D with|0,D=>(cases D;rfl)|1,D=>(cases D;rfl)|2,D=>(cases D;rfl)|3,D=>(cases D;rfl))) (by decide));rw[hq] at S d;have HA:=ad X;clear hq s z h X;go_wp2_with fail;refine S.o.m ?_;rintro C I⟨rfl,rfl⟩;go_wp2_with fail;go_ret;exact⟨by rw[d.o];rfl,i.o.t (HA.o.m i.o.size)⟩
end
theorem Gg(nm:Bs)(b:bQ)(a:Nat)(W:aaK)(d:W.cell? ⟨a,0,none⟩=some (.string ⟨nm.toArray⟩)):
 Calls Tryz.prog 121 #[Tk b,.pointer (some ⟨a,0,none⟩)] W (cN W (.bool (b.name==nm))):=by
 have c:Below W.heap.size W (W.alloc (.cells (BF b).toArray 159)):=(ar _ _).alloc (ag _) _;have e:=ad c;have h:(W.alloc (.cells (BF b).toArray 159)).cell? ⟨a,0,none⟩=some (.string ⟨nm.toArray⟩):=(c.cell (p:=⟨a,0,none⟩) (aV d)).t d;have i:=bH W (BF b).toArray 159 0 _ rfl;clear c d;go_enter Tryz.func121,Tryz.ntmps121;go_wp2_with fail;go_ret;exact⟨rfl,e.o⟩
theorem KD(a:Option Addr)(c:Nat)(x:Bs)(w:aaK):Calls Tryz.prog 157 #[.slice a 0 c,.string ⟨x.toArray⟩] w fun e w'=>e=.returned (.int .i64 (-1))∧w'=w:=by
 go_enter Tryz.func157,Tryz.ntmps157;go_upto_region 2 with fail
 go_loopw [8] (fun b wr=>b=.int .i64 0∧wr=w) (fun _ _=>0)
 case atStart=>exact⟨rfl,rfl⟩
 case round=>obtain⟨rfl,rfl⟩:=hrel;go_wp2_with fail;go_ret;exact⟨rfl,rfl⟩
theorem Gh(a:Option Addr)(c:Nat)(x:Bs)(w:aaK):Calls Tryz.prog 122 #[.slice a 0 c,.string ⟨x.toArray⟩] w fun e w'=>e=.returned (.bool false)∧w'=w:=by have b:=ad (KD a c x w);go_enter Tryz.func122,Tryz.ntmps122;go_wp2_with fail;refine b.o.m ?_;rintro e d⟨rfl,rfl⟩;go_wp2_with fail;go_ret;exact⟨rfl,rfl⟩
theorem tP(w:aaK)(v:aaL)(ls:List Bs)(x:Bs)(h:cg w v ls)(m:ls.length≤1000):
 Calls Tryz.prog 122 #[v,.string ⟨x.toArray⟩] w fun e w'=>e=.returned (.bool (ls.contains x))∧w'=w:=by
 rcases h with⟨a,c,rfl,rfl⟩|⟨b,o,c,rfl,k,l,i⟩
 ·have h:=Gh a c x w;exact h
 ·have h:=Tryz.slices_Contains_string b o ls.length c (ls.map fun b=>(⟨b.toArray⟩:aaM)) ⟨x.toArray⟩ w (by simp) (by omega) (fun j d=>by rw[jo] at d;have:=i j ls[j] (cA d);rw[this];simp[d])
  rw[oe (by simp),mr] at h;exact h
def BP(w0:aaK)(p:Nat)(s:Bs)(h:Int)(done:List Tok):Lx (List Tok)→Ending→aaK→Prop
 |.aq b j=>fun e w'=>e=.returned (.tuple #[])∧∃a d,LK w0 w' p s j h a (done++b) d
 |.bad q c=>mL w0.heap.size w0 q c
section
variable{w0 W:aaK}{p:Nat}{s:Bs}{i:Nat}{h:Int}{lv:aaL}{done:List Tok}{xs:List aaL}
theorem NJ(s:Bs)(tag:Nat):(elems.contains ((s.drop (tag+6)).take (db s (tag+6)))=false→de s tag=.bad tag 11)∧
 (elems.contains ((s.drop (tag+6)).take (db s (tag+6)))=true→(s.drop (pa s (tag+6+db s (tag+6)))=[]→de s tag=.bad tag 14)∧
  (∀c r,s.drop (pa s (tag+6+db s (tag+6)))=c::r→(c==62)=false→de s tag=.bad tag 11)∧
  (∀c r,s.drop (pa s (tag+6+db s (tag+6)))=c::r→(c==62)=true→de s tag=.aq [cS s 4 ((s.drop (tag+6)).take (db s (tag+6))) [] tag (pa s (tag+6+db s (tag+6))+1)] (pa s (tag+6+db s (tag+6))+1))):=by
 have b:de s tag=if elems.contains ((s.drop (tag+6)).take (db s (tag+6))) then
  match s.drop (pa s (tag+6+db s (tag+6))) with
  |[]=>.bad tag 14
  |c::_=>if c==62 then .aq [cS s 4 ((s.drop (tag+6)).take (db s (tag+6))) [] tag (pa s (tag+6+db s (tag+6))+1)] (pa s (tag+6+db s (tag+6))+1) else .bad tag 11
  else .bad tag 11:=rfl
 refine⟨fun h=>by rw[b,h];rfl,fun h=>⟨fun a=>by rw[b,h,a];rfl,fun c r a d=>by rw[b,h,a];simp only[if_true,d];rfl,fun c r a d=>by rw[b,h,a];simp only[if_true,d]⟩⟩
theorem KO(hG:GL w0)(H:LK w0 W p s i h lv done xs)(hi:i+6≤s.length)(y:s.length≤1000000)(hd:done.length≤9000000):
 Calls Tryz.prog 72 #[.pointer (some ⟨p,0,none⟩)] W (BP w0 p s h done (de s i)):=by
 have a:=ad (NJ s i);obtain⟨R,hR⟩:∃R,de s i=R:=⟨_,rfl⟩;rw[hR] at a⊢;clear hR;have X:=ad H;have D:=ad (H.box.iD (i+6));rw[show((i+6:Nat):Int)=(i:Int)+6 by omega] at D;have HT:=ad ((ak.refl p W).set (j:=1) (v:=.int .i64 ((i:Int)+6)));have C:=ad (X.o.aN HT.o D.o);obtain⟨c0,N,-,-,O,-,-⟩:=H.box.lc;have i1:(i:Int)+6≤1000000:=by omega
 have l:=ad (DC w0 hG C.o.up X.o.far (i:Int) hi D.o y);have G:=iI s hi;have T:=vZ s G;have a2:=cY s (i+6+db s (i+6));have a3:=jP s G;clear H;go_enter Tryz.func72,Tryz.ntmps72;go_upto_region 2 with fail;clear c0 N O D HT;generalize W.setCell ⟨p,1,none⟩ (.int .i64 ((i:Int)+6))=E at*;obtain⟨n,hn⟩:∃n,db s (i+6)=n:=⟨_,rfl⟩;obtain⟨nm,al⟩:∃nm,(s.drop (i+6)).take n=nm:=⟨_,rfl⟩;rw[hn] at G T a2 a3 a l;rw[al] at a l;clear hn al;obtain⟨q,hq⟩:∃q,elems.contains nm=q:=⟨_,rfl⟩;rw[hq] at a l;clear hq;rcases q with _|_
 ·obtain rfl:=a.o.1 rfl;have L:=ad (show Calls Tryz.prog 113 #[.pointer (some ⟨p,0,none⟩),.int .i64 (i:Int)] E (mL p E i 11) from l.o.m fun e w' S=>S.2 rfl);clear l a;go_wp2_with fail;refine L.o.m ?_;rintro e w1⟨rfl,hb⟩;go_wp2_with fail;exact⟨rfl,rfl,C.o.up.t (hb.m C.o.far)⟩
 ·obtain⟨ac,af,ai⟩:=a.o.2 rfl;have aq:=ad ac;have av:=ad af;have ay:=ad ai;have L:=ad (show Calls Tryz.prog 113 #[.pointer (some ⟨p,0,none⟩),.int .i64 (i:Int)] E (fun e w'=>e=.returned (.string ⟨nm.toArray⟩)∧LB w' p s (i+6+n) lv h∧ak p E w') from l.o.m fun e w' S=>S.1 rfl);clear l a ac af ai;go_wp2_with fail;refine L.o.m ?_;rintro e z⟨rfl,Q,am⟩;have ao:=ad (C.o.aN am Q);have an:=ad Q;clear Q am;have hA:Below z.heap.size z (z.alloc (.cells (ei 4 nm (.slice none 0 0) [] 0 0).toArray 76)):=(ar _ _).alloc (ag _) _;have Y:=ad (ao.o.next hA);have Z:=ad (au z (.cells (ei 4 nm (.slice none 0 0) [] 0 0).toArray 76));have a6:=an.o.lt;clear hA;go_upto_region 3 with fail;generalize z.heap.size=b at*;generalize z.alloc (.cells (ei 4 nm (.slice none 0 0) [] 0 0).toArray 76)=w5 at*;go_wp2_with fail;refine(DA G Y.o.box y).m ?_;rintro e w6⟨rfl,F,V⟩;rw[←T] at F;have w:=ad (Y.o.aN V F);have aa:=ad ((V.block _ (aB.1 Z.o).1 (by intro e;cases e;omega)).t Z.o);have I:=ad F;clear F V T;generalize pa s (i+6+n)=k at*;cases x:s.drop k with
  |nil=>
   obtain rfl:=aq.o x;have a1:k=s.length:=by have:=List.drop_eq_nil_iff.1 x;omega
   clear x;go_wp2_with fail;refine(iY i a1 I.o y).m ?_;rintro e A⟨rfl,d⟩;go_wp2_with fail;exact⟨rfl,rfl,w.o.up.t (d.m w.o.up.size)⟩
  |cons c r=>
   have B:=ad x;have a5:=ku x;clear x;obtain⟨q2,u⟩:∃q,(c==62)=q:=⟨_,rfl⟩;have a4:=ad u;rcases q2 with _|_
   ·obtain rfl:=av.o _ _ B.o u;have q1:((c.toNat:Int)!=62)=true:=by rw[bne,show((c.toNat:Int)==62)=false from nz u];rfl
    clear u;go_wp2_with fail;refine(cX i B.o I.o y).m ?_;rintro e A⟨rfl,d⟩;go_wp2_with fail;refine(fE i 11 A).m ?_;rintro e w8⟨rfl,a0⟩;go_wp2_with fail;exact⟨rfl,rfl,(w.o.up.t (d.m w.o.up.size)).t (a0.m (bP w.o.up.size d.size))⟩
   ·obtain rfl:=ay.o _ _ B.o u;obtain rfl:c=62:=by simpa using u
    clear u;go_wp2_with fail;refine(cX i B.o I.o y).m ?_;rintro e A⟨rfl,d⟩;have K:=ad (w.o.next d);have ab:=ad ((d.block _ (aB.1 aa.o).1).t aa.o);clear d;obtain⟨-,N,-,-,O,-,-⟩:=K.o.box.lc;have J:=ad (K.o.box.iD (k+1));rw[show((k+1:Nat):Int)=(k:Int)+1 by omega] at J;have i9:(k:Int)+1≤1000001:=by omega
    have M:=ad ((ak.refl p A).set (j:=1) (v:=.int .i64 ((k:Int)+1)));have ap:=ad (K.o.aN M.o J.o);have aU:=ad ((M.o.block _ (aB.1 ab.o).1 (by intro e;cases e;omega)).t ab.o);go_upto_region 7 with fail;clear N O J M;generalize A.setCell ⟨p,1,none⟩ (.int .i64 ((k:Int)+1))=w8 at*;obtain⟨x0,x1,x2,x3,x4,x5⟩:=qX6 (aj aU.o) 0 1 2 3 4 5;have HC:=ad (nA ap.o 4 nm [] none 0 (.inl ⟨rfl,none,0,rfl⟩) [] 0 0 i (by omega) (by omega) y (by omega));go_wp2_with fail;refine HC.o.m ?_;rintro e w9⟨rfl,a7,a8,hr,-⟩;go_wp2_with fail
    go_end0
    exact⟨rfl,_,_,hr⟩
end
def Vm:Lx Tok→Lx (List Tok)
 |.bad p e=>.bad p e
 |.aq t j=>.aq [t] j
section
variable{w0 W:aaK}{p:Nat}{s:Bs}{i:Nat}{h:Int}{lv:aaL}{done:List Tok}{xs:List aaL}
theorem T5(s nm:Bs)(tag i:Nat)(V K:Int)(e:Lib.index (s.drop i) (bD++nm)=V)(d:Lib.index ((s.drop i).take V.toNat) eY=K):
 (V<0→iU s nm tag i=.bad tag 14)∧(0≤V→(0≤K→nm=bS→iU s nm tag i=.bad (i+K.toNat) 13)∧(¬(0≤K∧nm=bS)→iU s nm tag i=.aq (cS s 7 [] [] i (i+V.toNat)) (i+V.toNat))):=by
 subst e;subst d;have b:iU s nm tag i=if Lib.index (s.drop i) (bD++nm)<0 then .bad tag 14
  else if 0≤Lib.index ((s.drop i).take (Lib.index (s.drop i) (bD++nm)).toNat) eY∧nm=bS then .bad (i+(Lib.index ((s.drop i).take (Lib.index (s.drop i) (bD++nm)).toNat) eY).toNat) 13
   else .aq (cS s 7 [] [] i (i+(Lib.index (s.drop i) (bD++nm)).toNat)) (i+(Lib.index (s.drop i) (bD++nm)).toNat):=rfl
 exact⟨fun h=>by rw[b,ah h],fun h=>⟨fun a c=>by rw[b,ae (by omega),ah ⟨a,c⟩],fun a=>by rw[b,ae (by omega),ae a]⟩⟩
theorem Je(a b:Bs):(⟨a.toArray⟩:aaM)++⟨b.toArray⟩=⟨(a++b).toArray⟩:=by apply uG;apply Array.ext';simp
theorem Rh(Z:GL w0)(H:LK w0 W p s i h lv done xs)(nm:Bs)(ao:nm.length≤1000000)(tag:Nat)(hi:i≤s.length)(hs:s.length≤1000000)(hd:done.length≤9000000):
 Calls Tryz.prog 118 #[.pointer (some ⟨p,0,none⟩),.string ⟨nm.toArray⟩,.int .i64 (tag:Int)] W (BP w0 p s h done (Vm (iU s nm tag i))):=by
 obtain⟨V,x⟩:∃V,Lib.index (s.drop i) (bD++nm)=V:=⟨_,rfl⟩;obtain⟨K,w⟩:∃K,Lib.index ((s.drop i).take V.toNat) eY=K:=⟨_,rfl⟩;have A:=ad (T5 s nm tag i V K x w);obtain⟨R,S⟩:∃R,iU s nm tag i=R:=⟨_,rfl⟩;rw[S] at A⊢;have T:0≤V→i+V.toNat≤s.length:=fun b=>by have:=Lib.index_room (s.drop i) (bD++nm) (by rw[x];exact b);rw[x,bK] at this;omega
 have X:0≤K→0≤V→i+K.toNat≤s.length:=fun b h1=>by have:=Lib.index_room ((s.drop i).take V.toNat) eY (by rw[w];exact b);rw[w,gu,bK] at this;omega
 have z:=ad H;have M:=ad Z;have J:=ad (show∀a,Below w0.heap.size w0 a→Calls Tryz.prog 110 #[.string ⟨(s.drop i).toArray⟩,.string ⟨(bD++nm).toArray⟩] a fun e w'=>e=.returned (.int .i64 V)∧w'=a from fun a d=>by refine(mN ⟨(s.drop i).toArray⟩ ⟨(bD++nm).toArray⟩ a (M.o.gx.aq.next d) (by show(s.drop i).toArray.size<_;simp;omega)).m ?_;rintro e w'⟨rfl,rfl⟩;exact⟨by rw[←x],rfl⟩)
 have L:=ad (show∀a,Below w0.heap.size w0 a→Calls Tryz.prog 110 #[.string ⟨((s.drop i).take V.toNat).toArray⟩,.string ⟨#[60,101,115,105,58]⟩] a fun e w'=>e=.returned (.int .i64 K)∧w'=a from fun a d=>by refine(mN ⟨((s.drop i).take V.toNat).toArray⟩ ⟨#[60,101,115,105,58]⟩ a (M.o.gx.aq.next d) (by show((s.drop i).take V.toNat).toArray.size<_;simp;omega)).m ?_;rintro e w'⟨rfl,rfl⟩;exact⟨by rw[←w];rfl,rfl⟩)
 clear x w S;obtain⟨F,B,-,-,-,-,-⟩:=H.box.lc;have ab:((⟨s.toArray⟩:aaM).extract i s.length)=⟨(s.drop i).toArray⟩:=ic s i _ (ag _);have aa:(⟨#[60,47,101,115,105,58]⟩:aaM)++⟨nm.toArray⟩=⟨(bD++nm).toArray⟩:=Je bD nm;have i0:(0:Int)≤(i:Int):=by omega
 have i2:(i:Int)≤(s.length:Int):=by omega
 generalize bD++nm=cn at*;generalize q:s.drop i=r at*;have Y:=ad q;clear H q;go_enter Tryz.func118,Tryz.ntmps118;go_wp2_with fail;have af:¬9223372036854775807<6+nm.length:=by omega
 go_quiet ((go_at_call 110;with_reducible exact mG (J.o _ (z.o.up.t ((ax W _).m z.o.up.size)))))
 have c:=ad (z.o.next (ax W nq));clear F B ab aa af J z;generalize W.drewN nq=a at*;by_cases b:V<0
 ·obtain rfl:=A.o.1 b;go_wp2_with fail;refine(fE tag 14 a).m ?_;rintro e w1⟨rfl,d⟩;go_wp2_with fail;exact⟨rfl,rfl,c.o.up.t (d.m c.o.up.size)⟩
 ·obtain⟨n,rfl⟩:∃n:Nat,V=(n:Int):=⟨V.toNat,by omega⟩;have hn:=T (by omega);have C:=fun b=>X b (by omega);have l:=ad (A.o.2 (by omega));rw[show((n:Nat):Int).toNat=n from rfl] at*;clear T X A b;have i3:(i:Int)+(n:Int)≤(s.length:Int):=by omega
  have i4:(i:Int)≤(i:Int)+(n:Int):=by omega
  have i5:(0:Int)≤(i:Int)+(n:Int):=by omega
  have i6:IntKind.i64.wrap ((i:Int)+(n:Int))=(i:Int)+(n:Int):=IntWalk.i64_in _ (by omega);have i7:((i:Int)+(n:Int)).toNat=i+n:=by omega
  have ac:((⟨s.toArray⟩:aaM).extract i (i+n))=⟨(r.take n).toArray⟩:=vY s i _ _ (by rw[Y.o,zQ]);obtain⟨F,B,-,-,-,-,-⟩:=c.o.box.lc;go_upto_region 3 with fail
  go_quiet ((go_at_call 110;with_reducible exact mG (L.o _ (c.o.up.t ((ax a _).m c.o.up.size)))))
  have u:=ad (c.o.next (ax a nq));clear F B ac L c;generalize a.drewN nq=Q at*;obtain⟨-,B,-,-,f1,-,-⟩:=u.o.box.lc;have E:=ad (u.o.box.iD (i+n));rw[show((i+n:Nat):Int)=(i:Int)+(n:Int) by omega] at E;have O:=ad ((ak.refl p Q).set (j:=1) (v:=.int .i64 ((i:Int)+(n:Int))));have N:=ad (u.o.aN O.o E.o);have D:=ad (nA N.o 7 [] [] none 0 (.inl ⟨rfl,none,0,rfl⟩) [] 0 0 i (by omega) (by omega) hs (by omega));clear E O N;by_cases I:0≤K
  ·by_cases y:nm=bS
   ·obtain⟨k,rfl⟩:∃k:Nat,K=(k:Int):=⟨K.toNat,by omega⟩;have an:=C I;rw[show((k:Nat):Int).toNat=k from rfl] at*;obtain rfl:=l.o.1 I y;subst y;clear C l D;go_wp2_with fail;refine(fE (i+k:Nat) 13 Q).m ?_;rintro e w1⟨rfl,d⟩;go_wp2_with fail;exact⟨rfl,rfl,u.o.up.t (d.m u.o.up.size)⟩
   ·have hq:(nm==[114,101,109,111,118,101])=false:=by rw[aL];exact y
    obtain rfl:=l.o.2 (fun G=>y G.2);have am:¬K<0:=by omega
    clear C l y;go_wp2_with fail;refine D.o.m ?_;rintro e w9⟨rfl,ai,al,q,-⟩;go_wp2_with fail
    go_end0
    exact⟨rfl,_,_,q⟩
  ·obtain rfl:=l.o.2 (fun G=>I G.1);clear C l;go_wp2_with fail;refine D.o.m ?_;rintro e w9⟨rfl,ai,al,q,-⟩;go_wp2_with fail
   go_end0
   exact⟨rfl,_,_,q⟩
end
end Go.Proofs.YtlemddnecmmfgaaGreatDoor
namespace Go.Proofs.YtlemddnecmmfgaaGreatDoor
open Go.Lib
variable{b:Bs}
def rG(c:UInt8):Bool:=decide (65≤c.toNat∧c.toNat≤90∨97≤c.toNat∧c.toNat≤122)
def Hb(c:UInt8):Bool:=decide ((65≤c.toNat∧c.toNat≤90∨97≤c.toNat∧c.toNat≤122∨48≤c.toNat∧c.toNat≤57)∨c.toNat=43∨c.toNat=45∨c.toNat=46)
def mW:Bs:=[97,98,99,100,101,102,103,104,105,106,107,108,109,110,111,112,113,114,115,116,117,118,119,120,121,122,65,66,67,68,69,70,71,72,73,74,75,76,77,78,79,80,81,82,83,84,85,86,87,88,89,90]
def nN:Bs:=Ch++[43,45,46]
theorem Ey:(fun c=>mW.contains c)=rG:=jg _ _ (by decide+kernel)
theorem A0:(fun c=>nN.contains c)=Hb:=jg _ _ (by decide+kernel)
def OT:Bs→Bool
 |[]=>false
 |c::q=>rG c&&(c::q).all Hb
def xY(r:Bs):Bool:=r.contains 58&&OT (upto 58 r)
def qP:Bs:=[47,47]
def ju(t:Bs):U×Int:=if(cZ t).2=0 then(ji (cZ t).1,0) else(cm,(cZ t).2)
def pn(l:Bs):Nat:=(lastIndexByte ⟨l.toArray⟩ 47).toNat
def withPath(u base:U):Bs→U
 |[]=>u
 |c::q=>if c=47 then{u with path:=c::q} else{u with path:=base.path.take (pn base.path+1)++(c::q)}
def withQuery(base:U)(r:Bs):U:=if upto 63 r=[]∧r.contains 63=false then base else{base with query:=past 63 r,hq:=r.contains 63}
def dN(base:U)(r:Bs):U:=withPath (withQuery base r) base (upto 63 r)
def hZ(u:U):U×Int:=if aQ u=0 then(ji u,0) else(cm,aQ u)
def wM(base:U)(r:Bs):U×Int:=
 if xY r=true then
  (if(lower (upto 58 r)=my∨lower (upto 58 r)=ir)∧hasPrefix (past 58 r) qP=true then ju (lower (upto 58 r)++58::past 58 r) else(cm,4))
 else if hasPrefix r qP=true then ju (base.scheme++58::r)
 else hZ (dN base r)
def eW(base:U)(s:Bs):U×Int:=
 if 1024<s.length then(cm,3) else if aQ base=0 then wM base (upto 35 s) else(cm,2)
theorem A1(h:b.contains 47=true):lastIndexByte ⟨b.toArray⟩ 47=(pn b:Int)∧pn b<b.length:=by
 rcases lastIndexByte_spec ⟨b.toArray⟩ 47 with⟨_,m⟩|⟨i,k,e,_,_⟩
 ·exfalso;obtain⟨j,a,d⟩:=List.getElem_of_mem (r8.1 h);refine m j a ?_;show((b.toArray[j]!).toNat:Int)=47;rw[getElem!_pos b.toArray j (by simpa using a)];simp[d]
 ·refine⟨?_, ?_⟩
  ·unfold pn;rw[e];simp
  ·unfold pn;rw[e];have c:i<b.toArray.size:=k;simpa using c
theorem OZ:(47::b:Bs).contains 47=true:=by simp
theorem ph(c:UInt8)(l:Bs):(upto c l).length≤l.length:=by unfold upto;exact(List.takeWhile_sublist _).length_le
theorem xZ(c:UInt8)(l:Bs):(past c l).length≤l.length:=by rw[←jA];simp
theorem Hw{u:U}{r:Bs}(a:u.scheme.length≤10000)(b:u.host.length≤10000)(i:u.path.length≤4000)(h:u.query.length≤10000)(j:r.length≤4000):
 (dN u r).scheme.length≤10000∧(dN u r).host.length≤10000∧(dN u r).path.length≤10000∧(dN u r).query.length≤10000:=by
 have hq:(withQuery u r).scheme=u.scheme∧(withQuery u r).host=u.host∧(withQuery u r).path=u.path∧(withQuery u r).query.length≤10000:=by
  unfold withQuery;split
  ·exact⟨rfl,rfl,rfl,h⟩
  ·exact⟨rfl,rfl,rfl,by have:=xZ 63 r;show(past 63 r).length≤_;omega⟩
 obtain⟨a1,a2,a3,a4⟩:=hq;have e:=ph 63 r;unfold dN;generalize upto 63 r=p at*;cases p with
 |nil=>exact⟨by show(withQuery u r).scheme.length≤_;rw[a1];exact a,by show(withQuery u r).host.length≤_;rw[a2];exact b,by show(withQuery u r).path.length≤_;rw[a3];omega,a4⟩
 |cons c q=>
  unfold withPath;by_cases d:c=47
  ·simp only[d,if_true];exact⟨by rw[a1];exact a,by rw[a2];exact b,by simp at e⊢;omega,a4⟩
  ·simp only[d,if_false];refine⟨by rw[a1];exact a,by rw[a2];exact b, ?_,a4⟩;simp at e⊢;omega
