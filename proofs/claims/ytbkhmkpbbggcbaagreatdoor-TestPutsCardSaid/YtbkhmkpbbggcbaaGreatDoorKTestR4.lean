/- The walk of the reference's row of tests. -/
import Derived.Test.YtbkhmkpbbggcbaaGreatDoorKTestR3
namespace Go.Proofs.YtbkhmkpbbggcbaaGreatDoor
open Go.RowKit
set_option linter.unusedVariables false
def leftR (b : Nat) (s : Bs) (W : World) : Nat := match W.cell? ⟨b, 10, none⟩ with | some (.int _ n) => s.length + 1 - n.toNat | _ => 0
theorem left_row {W : World} {b : Nat} {s : Bs} {k : Int} {t : Bs} {u : UseI} {kv : Value} {x : Nat} {q e : Int} {T : TypeId} (h : W.heap[b]? = some (.cells (gotL k t u kv (x : Int) q e).toArray T)) : leftR b s W = s.length + 1 - x := by
  unfold leftR; rw [cell_of_row _ _ 10 _ _ _ h]; rfl
structure RJ (w W : World) (b : Nat) (s : Bs) (one : Nat → Got) (kind : Int) (sg : UInt8) (F : Got) (k : Int) (t : Bs) (u : UseI) (a : Option Addr) (n c : Nat) (x q e : Int) : Prop where
  rw : RW w W
  far : w.heap.size < b
  box : W.heap[b]? = some (.cells (gotL k t u (.slice a n c) x q e).toArray 73)
  res : (∃ (tt m : Nat) (y : Ex), e = 0 ∧ q = 0 ∧ x = (tt : Int) ∧ tt ≤ s.length ∧ ExAt (fun z => w.heap.size < z ∧ z ≠ b) W y (exV k t u (.slice a n c)) ∧ F = rowOn one kind sg s m y tt ∧ s.length < tt + m) ∨ (∃ qq : Nat, q = (qq : Int) ∧ e ≠ 0 ∧ F = .wrong qq e)
theorem gotV_inj {k k2 : Int} {t t2 : Bs} {u u2 : UseI} {kv kv2 : Value} {x x2 q q2 e e2 : Int} (h : gotV k t u kv x q e = gotV k2 t2 u2 kv2 x2 q2 e2) : exV k t u kv = exV k2 t2 u2 kv2 ∧ x = x2 ∧ q = q2 ∧ e = e2 := by
  simp only [gotV, exV, Value.agg.injEq, Array.mk.injEq, List.cons.injEq] at h ⊢
  simp_all
theorem RGot.goodV {A : Nat → Prop} {W : World} {y : Ex} {tt : Nat} {k : Int} {t : Bs} {u : UseI} {kv : Value} {x q e : Int} (h : RGot A W (.good y tt) (gotV k t u kv x q e)) : e = 0 ∧ q = 0 ∧ x = (tt : Int) ∧ ExAt A W y (exV k t u kv) := by
  obtain ⟨k2, t2, u2, a2, n2, c2, h2, h3⟩ := h
  obtain ⟨h4, h5, h6, h7⟩ := gotV_inj h2
  exact ⟨h7, h6, h5, by rw [h4]; exact h3⟩
theorem RGot.wrongV {A : Nat → Prop} {W : World} {qq : Nat} {ee : Int} {k : Int} {t : Bs} {u : UseI} {kv : Value} {x q e : Int} (h : RGot A W (.wrong qq ee) (gotV k t u kv x q e)) : q = (qq : Int) ∧ e = ee := by
  obtain ⟨k2, t2, u2, a2, n2, c2, x2, h2⟩ := h
  obtain ⟨h4, h5, h6, h7⟩ := gotV_inj h2
  exact ⟨h6, h7⟩
theorem rj_start {w W0 w1 : World} {i : Nat} {s : Bs} {one : Nat → Got} {kind : Int} {sg : UInt8} {k : Int} {t : Bs} {u : UseI} {a : Option Addr} {n c : Nat} {x q e : Int} (h0 : RW w W0) (hsz : W0.heap.size = w.heap.size + 1) (hb : Below W0.heap.size W0 w1) (hfit : Fits s i (one i)) (hr : RGot (From W0.heap.size) w1 (one i) (gotV k t u (.slice a n c) x q e)) :
    RJ w (w1.alloc (.cells (gotL k t u (.slice a n c) x q e).toArray 73)) w1.heap.size s one kind sg (rowG one kind sg s i) k t u a n c x q e := by
  have hA : Below w1.heap.size w1 (w1.alloc (.cells (gotL k t u (.slice a n c) x q e).toArray 73)) := (Below.refl _ _).alloc (Nat.le_refl _) _
  have h1 := h0.next hb
  refine ⟨h1.next hA, h1.lt, heap_alloc_new w1 _, ?_⟩
  unfold rowG
  cases ho : one i with
  | good y tt =>
    rw [ho] at hr hfit
    obtain ⟨he, hq, hx, h3⟩ := hr.goodV
    have hf : i < tt ∧ tt ≤ s.length := hfit
    exact .inl ⟨tt, s.length + 1, y, he, hq, hx, hf.2, (exAt_lo (fun z h6 h7 => by have : W0.heap.size ≤ z := h7; exact ⟨by omega, by omega⟩) _ _ h3).next hA, rfl, by omega⟩
  | wrong qq ee =>
    rw [ho] at hr hfit
    obtain ⟨hq, he⟩ := hr.wrongV
    have hf : qq ≤ s.length ∧ (ee = 3 ∨ ee = 15) := hfit
    exact .inr ⟨qq, hq, by rw [he]; omega, by rw [he]⟩
theorem rj_next {w W4 : World} {b m t2' : Nat} {s : Bs} {one : Nat → Got} {kind : Int} {sg : UInt8} {F : Got} {y z : Ex} {k k2 : Int} {t t2 : Bs} {u u2 : UseI} {a a2 : Option Addr} {n c n2 c2 : Nat} {x q e : Int}
    (h0 : RW w W4) (hb : w.heap.size < b) (hbox : W4.heap[b]? = some (.cells (gotL k t u (.slice a n c) x q e).toArray 73)) (hy : ExAt (fun z => w.heap.size < z ∧ z ≠ b) W4 y (exV k t u (.slice a n c))) (hz : ExAt (fun z => w.heap.size < z ∧ z ≠ b) W4 z (exV k2 t2 u2 (.slice a2 n2 c2)))
    (hF : F = rowOn one kind sg s m (twoE kind y z) t2') (ht : t2' ≤ s.length) (hm : s.length < t2' + m) :
    RJ w (setGot (W4.alloc (.cells (exL k t u (.slice a n c) ++ exL k2 t2 u2 (.slice a2 n2 c2)).toArray 37)) b kind [] noUseI (.slice (some ⟨W4.heap.size, 0, none⟩) 2 2) (t2' : Int) 0 0) b s one kind sg F kind [] noUseI (some ⟨W4.heap.size, 0, none⟩) 2 2 (t2' : Int) 0 0 := by
  have hA : Below W4.heap.size W4 (W4.alloc (.cells (exL k t u (.slice a n c) ++ exL k2 t2 u2 (.slice a2 n2 c2)).toArray 37)) := (Below.refl _ _).alloc (Nat.le_refl _) _
  have h9 := setGot_turn (W4.alloc (.cells (exL k t u (.slice a n c) ++ exL k2 t2 u2 (.slice a2 n2 c2)).toArray 37)) b kind [] noUseI (.slice (some ⟨W4.heap.size, 0, none⟩) 2 2) (t2' : Int) 0 0
  have hbl := (Array.getElem?_eq_some_iff.1 hbox).1
  have h2x := exAt_two (T := 37) kind hy hz ⟨h0.lt, by omega⟩
  exact ⟨(h0.next hA).turn h9 hb, hb, setGot_row (row_alloc hbox _), .inl ⟨t2', m, twoE kind y z, rfl, rfl, rfl, ht, h2x.turn h9 (fun h => h.2 rfl), hF, hm⟩⟩
set_option maxRecDepth 100000 in
set_option maxHeartbeats 4000000 in
theorem ref27_row (w : World) (s : Bs) (i op : Nat) (d kind : Int) (sg : UInt8) (one : Nat → Got) (hi : i ≤ s.length) (hs : s.length ≤ 100000) (hop : op ≤ 16) (hd : (d = 0 ∧ kind = 1 ∧ sg = 124) ∨ (d = 1 ∧ kind = 2 ∧ sg = 38)) (hF : FitsF s one) (hc : RunsR 47 (args4 s op d) s one) :
    Calls Tryz.prog 37 (args4 s op d i) w fun e w' => ∃ v, e = .returned v ∧ Below w.heap.size w w' ∧ Hid (RGot (From w.heap.size) w' (rowG one kind sg s i) v) := by
  have HC := Lib.hid hc
  have HF := Lib.hid hF
  clear hc hF
  rcases hd with ⟨rfl, rfl, rfl⟩ | ⟨rfl, rfl, rfl⟩
  · have HRW0 := Lib.hid (RW.start w)
    have HSZ := Lib.hid (show (w.alloc gotZ).heap.size = w.heap.size + 1 by rw [World.size_alloc])
    go_enter Tryz.func37, Tryz.ntmps37
    go_wp2_with fail
    generalize hw0 : w.alloc (.cells #[.int .i64 0, .string ⟨#[]⟩, .int .i64 0, .int .i64 0, .string ⟨#[]⟩, .string ⟨#[]⟩, .string ⟨#[]⟩, .bool false, .bool false, .slice none 0 0, .int .i64 0, .int .i64 0, .int .i64 0] 73) = W0 at *
    clear hw0
    refine (HC.out W0 i hi).mono ?_
    rintro e0 w1 ⟨v, rfl, hb, hr⟩
    have hrg := hr.out
    obtain ⟨k, t, u, a, n, c, x, q, e, rfl⟩ := hrg.cells
    have HI := Lib.hid (rj_start (kind := 1) (sg := 124) HRW0.out HSZ.out hb (HF.out i hi) hrg)
    clear hb hr hrg HRW0 HSZ
    generalize hfe : rowG one 1 124 s i = F at *
    have HFE := Lib.hid hfe
    clear hfe
    go_upto_region 5 with fail
    generalize w1.alloc (.cells (gotL k t u (.slice a n c) x q e).toArray 73) = W1 at *
    generalize w1.heap.size = b at *
    go_loopw [] (fun wr => ∃ (k : Int) (t : Bs) (u : UseI) (a : Option Addr) (n c : Nat) (x q e : Int), Hid (RJ w wr b s one 1 124 F k t u a n c x q e)) (fun wr => leftR b s wr)
    case atStart => exact ⟨_, _, _, _, _, _, _, _, _, HI⟩
    case round =>
      clear HI
      obtain ⟨k, t, u, a, n, c, x, q, e, HI⟩ := hrel
      have HRW := Lib.hid HI.out.rw
      have HFAR := Lib.hid HI.out.far
      have HBX := Lib.hid HI.out.box
      rcases HI.out.res with ⟨tt, m, y, rfl, rfl, rfl, htl, hy, hfo, hml⟩ | ⟨qq, rfl, he, hfo⟩
      · obtain ⟨m, rfl⟩ : ∃ m', m = m' + 1 := ⟨m - 1, by omega⟩
        have HY := Lib.hid hy
        have HFO := Lib.hid hfo
        have HLM := Lib.hid (left_row (s := s) HBX.out)
        clear hy hfo HI
        obtain ⟨c0, c1, c2, c3, c4, c5, c6, c7, c8, c9, c10, c11, c12⟩ := got_cells HBX.out
        go_wp2_with fail
        refine (ref27_has s tt _ [124] wr rfl htl hs (by decide)).mono ?_
        rintro e0 w2 ⟨rfl, rfl⟩
        cases hp : Lib.hasPrefix (rs s tt) [124]
        · have HK := Lib.hid (show F = .good y tt by rw [HFO.out, rowOn_no hp])
          have HG1 := HBX
          clear hp
          have HE := Lib.hid (got_end HRW.out (show RGot (fun z => w.heap.size < z) wr (.good y tt) _ from ⟨k, t, u, a, n, c, rfl, exAt_lo (fun z _ h => h.1) _ _ HY.out⟩))
          obtain ⟨f0, f1, f2, f3, f4, f5, f6, f7, f8, f9, f10, f11, f12⟩ := got_frozen HRW.out.box
          obtain ⟨g0, g1, g2, g3, g4, g5, g6, g7, g8, g9, g10, g11, g12⟩ := got_live HRW.out.box
          go_wp2_with fail
          clear c0 c1 c2 c3 c4 c5 c6 c7 c8 c9 c10 c11 c12 f0 f1 f2 f3 f4 f5 f6 f7 f8 f9 f10 f11 f12 g0 g1 g2 g3 g4 g5 g6 g7 g8 g9 g10 g11 g12
          refine bodyPost_ret (v := gotV k t u (.slice a n c) (tt : Int) 0 0) ?_ rfl ⟨_, rfl, HE.out.1, Lib.hid (by rw [HFE.out, HK.out]; exact HE.out.2.1)⟩
          exact results_got (b := w.heap.size) rfl rfl HE.out.2.2
        · have hq1 := pfx_lt htl hp
          rw [List.length_singleton] at hq1
          have hge := pa_ge s htl
          have HFT := Lib.hid (HF.out (pa s tt + 1) hq1)
          have HF1 := Lib.hid (HFO.out.trans (rowOn_yes hp))
          clear hp
          go_wp2_with fail
          refine (ref27_Past s _ tt wr rfl htl hs).mono ?_
          rintro e0 w2 ⟨rfl, rfl⟩
          go_wp2_with fail
          clear c0 c1 c2 c3 c4 c5 c6 c7 c8 c9 c10 c11 c12
          refine (HC.out wr (pa s tt + 1) hq1).mono ?_
          rintro e0 w3 ⟨v2, rfl, hb, hr⟩
          have hrg := hr.out
          have hft := HFT.out
          have hf1 := HF1.out
          obtain ⟨G, hG⟩ : ∃ G, one (pa s tt + 1) = G := ⟨_, rfl⟩
          rw [hG] at hrg hft hf1
          have HF2 := Lib.hid hf1
          clear hf1 hG hr
          cases G with
          | wrong qq ee =>
            obtain ⟨kz, tz, uz, az, nz, cz, xz, rfl⟩ := hrg
            have HE0 := Lib.hid (show ee ≠ 0 by have := hft.2; omega)
            have HK := Lib.hid (show F = .wrong qq ee from HF2.out)
            clear HF2
            have hA : Below w3.heap.size w3 (w3.alloc (.cells (gotL kz tz uz (.slice az nz cz) xz (qq : Int) ee).toArray 73)) := (Below.refl _ _).alloc (Nat.le_refl _) _
            have HRW1 := Lib.hid ((HRW.out.next hb).next hA)
            have HG1 := Lib.hid (heap_alloc_new w3 (.cells (gotL kz tz uz (.slice az nz cz) xz (qq : Int) ee).toArray 73))
            clear hb hA hft
            go_upto_region 7 with fail
            generalize w3.alloc (.cells (gotL kz tz uz (.slice az nz cz) xz (qq : Int) ee).toArray 73) = W4 at *
            generalize w3.heap.size = b2 at *
            have hq5 : (ee == 0) = false := beq_eq_false_iff_ne.2 HE0.out
            have hq6 : (ee != 0) = true := by rw [bne, hq5]; rfl
            obtain ⟨c0, c1, c2, c3, c4, c5, c6, c7, c8, c9, c10, c11, c12⟩ := got_cells HG1.out
            have HE := Lib.hid (got_end HRW1.out (show RGot (fun z => w.heap.size < z) W4 (.wrong qq ee) _ from ⟨kz, tz, uz, az, nz, cz, xz, rfl⟩))
            obtain ⟨f0, f1, f2, f3, f4, f5, f6, f7, f8, f9, f10, f11, f12⟩ := got_frozen HRW1.out.box
            obtain ⟨g0, g1, g2, g3, g4, g5, g6, g7, g8, g9, g10, g11, g12⟩ := got_live HRW1.out.box
            go_wp2_with fail
            clear c0 c1 c2 c3 c4 c5 c6 c7 c8 c9 c10 c11 c12 hq5 hq6 f0 f1 f2 f3 f4 f5 f6 f7 f8 f9 f10 f11 f12 g0 g1 g2 g3 g4 g5 g6 g7 g8 g9 g10 g11 g12
            refine bodyPost_ret (v := gotV kz tz uz (.slice az nz cz) xz (qq : Int) ee) ?_ rfl ⟨_, rfl, HE.out.1, Lib.hid (by rw [HFE.out, HK.out]; exact HE.out.2.1)⟩
            exact results_got (b := w.heap.size) rfl rfl HE.out.2.2
          | good z t2' =>
            obtain ⟨kz, tz, uz, az, nz, cz, rfl, hz⟩ := hrg
            have hlt : pa s tt + 1 < t2' ∧ t2' ≤ s.length := hft
            have HF3 := Lib.hid (show F = rowOn one 1 124 s m (twoE 1 y z) t2' from HF2.out)
            clear HF2
            have hA : Below w3.heap.size w3 (w3.alloc (.cells (gotL kz tz uz (.slice az nz cz) (t2' : Int) 0 0).toArray 73)) := (Below.refl _ _).alloc (Nat.le_refl _) _
            have HRW1 := Lib.hid ((HRW.out.next hb).next hA)
            have HG1 := Lib.hid (heap_alloc_new w3 (.cells (gotL kz tz uz (.slice az nz cz) (t2' : Int) 0 0).toArray 73))
            have hbl := (Array.getElem?_eq_some_iff.1 HBX.out).1
            have HB1 := Lib.hid (row_alloc ((hb.block b hbl).trans HBX.out) (.cells (gotL kz tz uz (.slice az nz cz) (t2' : Int) 0 0).toArray 73))
            have HZ1 := Lib.hid ((exAt_lo (A' := fun z => w.heap.size < z ∧ z ≠ b) (fun z hz h => by have h1 : wr.heap.size ≤ z := h; have := HRW.out.lt; exact ⟨by omega, by omega⟩) _ _ hz).next hA)
            have HY1 := Lib.hid ((HY.out.next hb).next hA)
            clear hb hA hft hz hbl
            go_upto_region 7 with fail
            generalize w3.alloc (.cells (gotL kz tz uz (.slice az nz cz) (t2' : Int) 0 0).toArray 73) = W4 at *
            generalize w3.heap.size = b2 at *
            have HN := Lib.hid (rj_next HRW1.out HFAR.out HB1.out HY1.out HZ1.out HF3.out hlt.2 (by omega))
            have HLE := Lib.hid (left_row (s := s) HN.out.box)
            obtain ⟨c0, c1, c2, c3, c4, c5, c6, c7, c8, c9, c10, c11, c12⟩ := got_cells HG1.out
            obtain ⟨d0, d1, d2, d3, d4, d5, d6, d7, d8, d9, d10, d11, d12⟩ := got_alloc HG1.out
            obtain ⟨b0, b1, b2, b3, b4, b5, b6, b7, b8, b9, b10, b11, b12⟩ := got_cells HB1.out
            obtain ⟨f0, f1, f2, f3, f4, f5, f6, f7, f8, f9, f10, f11, f12⟩ := got_thaw HB1.out
            obtain ⟨g0, g1, g2, g3, g4, g5, g6, g7, g8, g9, g10, g11, g12⟩ := got_alloc HB1.out
            go_wp2_with fail
            clear f0 f1 f2 f3 f4 f5 f6 f7 f8 f9 f10 f11 f12 g0 g1 g2 g3 g4 g5 g6 g7 g8 g9 g10 g11 g12 c0 c1 c2 c3 c4 c5 c6 c7 c8 c9 c10 c11 c12 d0 d1 d2 d3 d4 d5 d6 d7 d8 d9 d10 d11 d12 b0 b1 b2 b3 b4 b5 b6 b7 b8 b9 b10 b11 b12
            go_roundw
            case rel => exact ⟨1, [], noUseI, some ⟨W4.heap.size, 0, none⟩, 2, 2, (t2' : Int), 0, 0, HN⟩
            case measure => (rw [HLM.out]; exact Nat.le_trans (Nat.le_of_eq (congrArg (· + 1) HLE.out)) (by omega))
      · have HK := Lib.hid hfo
        have HE0 := Lib.hid he
        clear hfo he HI
        have hq5 : (e == 0) = false := beq_eq_false_iff_ne.2 HE0.out
        have hq6 : (e != 0) = true := by rw [bne, hq5]; rfl
        obtain ⟨c0, c1, c2, c3, c4, c5, c6, c7, c8, c9, c10, c11, c12⟩ := got_cells HBX.out
        have HE := Lib.hid (got_end HRW.out (show RGot (fun z => w.heap.size < z) wr (.wrong qq e) _ from ⟨k, t, u, a, n, c, x, rfl⟩))
        obtain ⟨f0, f1, f2, f3, f4, f5, f6, f7, f8, f9, f10, f11, f12⟩ := got_frozen HRW.out.box
        obtain ⟨g0, g1, g2, g3, g4, g5, g6, g7, g8, g9, g10, g11, g12⟩ := got_live HRW.out.box
        go_wp2_with fail
        clear c0 c1 c2 c3 c4 c5 c6 c7 c8 c9 c10 c11 c12 hq5 hq6 f0 f1 f2 f3 f4 f5 f6 f7 f8 f9 f10 f11 f12 g0 g1 g2 g3 g4 g5 g6 g7 g8 g9 g10 g11 g12
        refine bodyPost_ret (v := gotV k t u (.slice a n c) x (qq : Int) e) ?_ rfl ⟨_, rfl, HE.out.1, Lib.hid (by rw [HFE.out, HK.out]; exact HE.out.2.1)⟩
        exact results_got (b := w.heap.size) rfl rfl HE.out.2.2
  · have HRW0 := Lib.hid (RW.start w)
    have HSZ := Lib.hid (show (w.alloc gotZ).heap.size = w.heap.size + 1 by rw [World.size_alloc])
    go_enter Tryz.func37, Tryz.ntmps37
    go_wp2_with fail
    generalize hw0 : w.alloc (.cells #[.int .i64 0, .string ⟨#[]⟩, .int .i64 0, .int .i64 0, .string ⟨#[]⟩, .string ⟨#[]⟩, .string ⟨#[]⟩, .bool false, .bool false, .slice none 0 0, .int .i64 0, .int .i64 0, .int .i64 0] 73) = W0 at *
    clear hw0
    refine (HC.out W0 i hi).mono ?_
    rintro e0 w1 ⟨v, rfl, hb, hr⟩
    have hrg := hr.out
    obtain ⟨k, t, u, a, n, c, x, q, e, rfl⟩ := hrg.cells
    have HI := Lib.hid (rj_start (kind := 2) (sg := 38) HRW0.out HSZ.out hb (HF.out i hi) hrg)
    clear hb hr hrg HRW0 HSZ
    generalize hfe : rowG one 2 38 s i = F at *
    have HFE := Lib.hid hfe
    clear hfe
    go_upto_region 5 with fail
    generalize w1.alloc (.cells (gotL k t u (.slice a n c) x q e).toArray 73) = W1 at *
    generalize w1.heap.size = b at *
    go_loopw [] (fun wr => ∃ (k : Int) (t : Bs) (u : UseI) (a : Option Addr) (n c : Nat) (x q e : Int), Hid (RJ w wr b s one 2 38 F k t u a n c x q e)) (fun wr => leftR b s wr)
    case atStart => exact ⟨_, _, _, _, _, _, _, _, _, HI⟩
    case round =>
      clear HI
      obtain ⟨k, t, u, a, n, c, x, q, e, HI⟩ := hrel
      have HRW := Lib.hid HI.out.rw
      have HFAR := Lib.hid HI.out.far
      have HBX := Lib.hid HI.out.box
      rcases HI.out.res with ⟨tt, m, y, rfl, rfl, rfl, htl, hy, hfo, hml⟩ | ⟨qq, rfl, he, hfo⟩
      · obtain ⟨m, rfl⟩ : ∃ m', m = m' + 1 := ⟨m - 1, by omega⟩
        have HY := Lib.hid hy
        have HFO := Lib.hid hfo
        have HLM := Lib.hid (left_row (s := s) HBX.out)
        clear hy hfo HI
        obtain ⟨c0, c1, c2, c3, c4, c5, c6, c7, c8, c9, c10, c11, c12⟩ := got_cells HBX.out
        go_wp2_with fail
        refine (ref27_has s tt _ [38] wr rfl htl hs (by decide)).mono ?_
        rintro e0 w2 ⟨rfl, rfl⟩
        cases hp : Lib.hasPrefix (rs s tt) [38]
        · have HK := Lib.hid (show F = .good y tt by rw [HFO.out, rowOn_no hp])
          have HG1 := HBX
          clear hp
          have HE := Lib.hid (got_end HRW.out (show RGot (fun z => w.heap.size < z) wr (.good y tt) _ from ⟨k, t, u, a, n, c, rfl, exAt_lo (fun z _ h => h.1) _ _ HY.out⟩))
          obtain ⟨f0, f1, f2, f3, f4, f5, f6, f7, f8, f9, f10, f11, f12⟩ := got_frozen HRW.out.box
          obtain ⟨g0, g1, g2, g3, g4, g5, g6, g7, g8, g9, g10, g11, g12⟩ := got_live HRW.out.box
          go_wp2_with fail
          clear c0 c1 c2 c3 c4 c5 c6 c7 c8 c9 c10 c11 c12 f0 f1 f2 f3 f4 f5 f6 f7 f8 f9 f10 f11 f12 g0 g1 g2 g3 g4 g5 g6 g7 g8 g9 g10 g11 g12
          refine bodyPost_ret (v := gotV k t u (.slice a n c) (tt : Int) 0 0) ?_ rfl ⟨_, rfl, HE.out.1, Lib.hid (by rw [HFE.out, HK.out]; exact HE.out.2.1)⟩
          exact results_got (b := w.heap.size) rfl rfl HE.out.2.2
        · have hq1 := pfx_lt htl hp
          rw [List.length_singleton] at hq1
          have hge := pa_ge s htl
          have HFT := Lib.hid (HF.out (pa s tt + 1) hq1)
          have HF1 := Lib.hid (HFO.out.trans (rowOn_yes hp))
          clear hp
          go_wp2_with fail
          refine (ref27_Past s _ tt wr rfl htl hs).mono ?_
          rintro e0 w2 ⟨rfl, rfl⟩
          go_wp2_with fail
          clear c0 c1 c2 c3 c4 c5 c6 c7 c8 c9 c10 c11 c12
          refine (HC.out wr (pa s tt + 1) hq1).mono ?_
          rintro e0 w3 ⟨v2, rfl, hb, hr⟩
          have hrg := hr.out
          have hft := HFT.out
          have hf1 := HF1.out
          obtain ⟨G, hG⟩ : ∃ G, one (pa s tt + 1) = G := ⟨_, rfl⟩
          rw [hG] at hrg hft hf1
          have HF2 := Lib.hid hf1
          clear hf1 hG hr
          cases G with
          | wrong qq ee =>
            obtain ⟨kz, tz, uz, az, nz, cz, xz, rfl⟩ := hrg
            have HE0 := Lib.hid (show ee ≠ 0 by have := hft.2; omega)
            have HK := Lib.hid (show F = .wrong qq ee from HF2.out)
            clear HF2
            have hA : Below w3.heap.size w3 (w3.alloc (.cells (gotL kz tz uz (.slice az nz cz) xz (qq : Int) ee).toArray 73)) := (Below.refl _ _).alloc (Nat.le_refl _) _
            have HRW1 := Lib.hid ((HRW.out.next hb).next hA)
            have HG1 := Lib.hid (heap_alloc_new w3 (.cells (gotL kz tz uz (.slice az nz cz) xz (qq : Int) ee).toArray 73))
            clear hb hA hft
            go_upto_region 7 with fail
            generalize w3.alloc (.cells (gotL kz tz uz (.slice az nz cz) xz (qq : Int) ee).toArray 73) = W4 at *
            generalize w3.heap.size = b2 at *
            have hq5 : (ee == 0) = false := beq_eq_false_iff_ne.2 HE0.out
            have hq6 : (ee != 0) = true := by rw [bne, hq5]; rfl
            obtain ⟨c0, c1, c2, c3, c4, c5, c6, c7, c8, c9, c10, c11, c12⟩ := got_cells HG1.out
            have HE := Lib.hid (got_end HRW1.out (show RGot (fun z => w.heap.size < z) W4 (.wrong qq ee) _ from ⟨kz, tz, uz, az, nz, cz, xz, rfl⟩))
            obtain ⟨f0, f1, f2, f3, f4, f5, f6, f7, f8, f9, f10, f11, f12⟩ := got_frozen HRW1.out.box
            obtain ⟨g0, g1, g2, g3, g4, g5, g6, g7, g8, g9, g10, g11, g12⟩ := got_live HRW1.out.box
            go_wp2_with fail
            clear c0 c1 c2 c3 c4 c5 c6 c7 c8 c9 c10 c11 c12 hq5 hq6 f0 f1 f2 f3 f4 f5 f6 f7 f8 f9 f10 f11 f12 g0 g1 g2 g3 g4 g5 g6 g7 g8 g9 g10 g11 g12
            refine bodyPost_ret (v := gotV kz tz uz (.slice az nz cz) xz (qq : Int) ee) ?_ rfl ⟨_, rfl, HE.out.1, Lib.hid (by rw [HFE.out, HK.out]; exact HE.out.2.1)⟩
            exact results_got (b := w.heap.size) rfl rfl HE.out.2.2
          | good z t2' =>
            obtain ⟨kz, tz, uz, az, nz, cz, rfl, hz⟩ := hrg
            have hlt : pa s tt + 1 < t2' ∧ t2' ≤ s.length := hft
            have HF3 := Lib.hid (show F = rowOn one 2 38 s m (twoE 2 y z) t2' from HF2.out)
            clear HF2
            have hA : Below w3.heap.size w3 (w3.alloc (.cells (gotL kz tz uz (.slice az nz cz) (t2' : Int) 0 0).toArray 73)) := (Below.refl _ _).alloc (Nat.le_refl _) _
            have HRW1 := Lib.hid ((HRW.out.next hb).next hA)
            have HG1 := Lib.hid (heap_alloc_new w3 (.cells (gotL kz tz uz (.slice az nz cz) (t2' : Int) 0 0).toArray 73))
            have hbl := (Array.getElem?_eq_some_iff.1 HBX.out).1
            have HB1 := Lib.hid (row_alloc ((hb.block b hbl).trans HBX.out) (.cells (gotL kz tz uz (.slice az nz cz) (t2' : Int) 0 0).toArray 73))
            have HZ1 := Lib.hid ((exAt_lo (A' := fun z => w.heap.size < z ∧ z ≠ b) (fun z hz h => by have h1 : wr.heap.size ≤ z := h; have := HRW.out.lt; exact ⟨by omega, by omega⟩) _ _ hz).next hA)
            have HY1 := Lib.hid ((HY.out.next hb).next hA)
            clear hb hA hft hz hbl
            go_upto_region 7 with fail
            generalize w3.alloc (.cells (gotL kz tz uz (.slice az nz cz) (t2' : Int) 0 0).toArray 73) = W4 at *
            generalize w3.heap.size = b2 at *
            have HN := Lib.hid (rj_next HRW1.out HFAR.out HB1.out HY1.out HZ1.out HF3.out hlt.2 (by omega))
            have HLE := Lib.hid (left_row (s := s) HN.out.box)
            obtain ⟨c0, c1, c2, c3, c4, c5, c6, c7, c8, c9, c10, c11, c12⟩ := got_cells HG1.out
            obtain ⟨d0, d1, d2, d3, d4, d5, d6, d7, d8, d9, d10, d11, d12⟩ := got_alloc HG1.out
            obtain ⟨b0, b1, b2, b3, b4, b5, b6, b7, b8, b9, b10, b11, b12⟩ := got_cells HB1.out
            obtain ⟨f0, f1, f2, f3, f4, f5, f6, f7, f8, f9, f10, f11, f12⟩ := got_thaw HB1.out
            obtain ⟨g0, g1, g2, g3, g4, g5, g6, g7, g8, g9, g10, g11, g12⟩ := got_alloc HB1.out
            go_wp2_with fail
            clear f0 f1 f2 f3 f4 f5 f6 f7 f8 f9 f10 f11 f12 g0 g1 g2 g3 g4 g5 g6 g7 g8 g9 g10 g11 g12 c0 c1 c2 c3 c4 c5 c6 c7 c8 c9 c10 c11 c12 d0 d1 d2 d3 d4 d5 d6 d7 d8 d9 d10 d11 d12 b0 b1 b2 b3 b4 b5 b6 b7 b8 b9 b10 b11 b12
            go_roundw
            case rel => exact ⟨2, [], noUseI, some ⟨W4.heap.size, 0, none⟩, 2, 2, (t2' : Int), 0, 0, HN⟩
            case measure => (rw [HLM.out]; exact Nat.le_trans (Nat.le_of_eq (congrArg (· + 1) HLE.out)) (by omega))
      · have HK := Lib.hid hfo
        have HE0 := Lib.hid he
        clear hfo he HI
        have hq5 : (e == 0) = false := beq_eq_false_iff_ne.2 HE0.out
        have hq6 : (e != 0) = true := by rw [bne, hq5]; rfl
        obtain ⟨c0, c1, c2, c3, c4, c5, c6, c7, c8, c9, c10, c11, c12⟩ := got_cells HBX.out
        have HE := Lib.hid (got_end HRW.out (show RGot (fun z => w.heap.size < z) wr (.wrong qq e) _ from ⟨k, t, u, a, n, c, x, rfl⟩))
        obtain ⟨f0, f1, f2, f3, f4, f5, f6, f7, f8, f9, f10, f11, f12⟩ := got_frozen HRW.out.box
        obtain ⟨g0, g1, g2, g3, g4, g5, g6, g7, g8, g9, g10, g11, g12⟩ := got_live HRW.out.box
        go_wp2_with fail
        clear c0 c1 c2 c3 c4 c5 c6 c7 c8 c9 c10 c11 c12 hq5 hq6 f0 f1 f2 f3 f4 f5 f6 f7 f8 f9 f10 f11 f12 g0 g1 g2 g3 g4 g5 g6 g7 g8 g9 g10 g11 g12
        refine bodyPost_ret (v := gotV k t u (.slice a n c) x (qq : Int) e) ?_ rfl ⟨_, rfl, HE.out.1, Lib.hid (by rw [HFE.out, HK.out]; exact HE.out.2.1)⟩
        exact results_got (b := w.heap.size) rfl rfl HE.out.2.2
end Go.Proofs.YtbkhmkpbbggcbaaGreatDoor
