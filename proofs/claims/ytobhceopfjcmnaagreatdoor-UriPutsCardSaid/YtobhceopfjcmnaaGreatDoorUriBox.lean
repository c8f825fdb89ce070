/- The boxes of a URI that is made part by part. -/
import Derived.Test.YtobhceopfjcmnaaGreatDoorUriCheckW
import Derived.Test.YtobhceopfjcmnaaGreatDoorUriAtoi
import Derived.Lib.AtoiErrMem
namespace Go.Proofs.YtobhceopfjcmnaaGreatDoor
open Go.RowKit
set_option linter.unusedVariables false

structure UFull (W : World) (b : Nat) (u : U) : Prop where
  c : UCells W b u
  f0 : W.frozen? ⟨b, 0, none⟩ = false
  f1 : W.frozen? ⟨b, 1, none⟩ = false
  f2 : W.frozen? ⟨b, 2, none⟩ = false
  f3 : W.frozen? ⟨b, 3, none⟩ = false
  f4 : W.frozen? ⟨b, 4, none⟩ = false
  f5 : W.frozen? ⟨b, 5, none⟩ = false
theorem UBx.full {W : World} {b : Nat} {u : U} (h : UBx W b u) : UFull W b u :=
  ⟨h.cells, frozen_of_row _ _ 0 _ _ h, frozen_of_row _ _ 1 _ _ h, frozen_of_row _ _ 2 _ _ h, frozen_of_row _ _ 3 _ _ h, frozen_of_row _ _ 4 _ _ h, frozen_of_row _ _ 5 _ _ h⟩
theorem UBx.s0 {W : World} {b : Nat} {u : U} (h : UBx W b u) (x : Bs) : UBx (W.setCell ⟨b, 0, none⟩ (.string ⟨x.toArray⟩)) b { u with scheme := x } := row_set (j := 0) h
theorem UBx.s1 {W : World} {b : Nat} {u : U} (h : UBx W b u) (x : Bs) : UBx (W.setCell ⟨b, 1, none⟩ (.string ⟨x.toArray⟩)) b { u with host := x } := row_set (j := 1) h
theorem UBx.s2 {W : World} {b : Nat} {u : U} (h : UBx W b u) (x : Int) : UBx (W.setCell ⟨b, 2, none⟩ (.int .i64 x)) b { u with port := x } := row_set (j := 2) h
theorem UBx.s3 {W : World} {b : Nat} {u : U} (h : UBx W b u) (x : Bs) : UBx (W.setCell ⟨b, 3, none⟩ (.string ⟨x.toArray⟩)) b { u with path := x } := row_set (j := 3) h
theorem UBx.s4 {W : World} {b : Nat} {u : U} (h : UBx W b u) (x : Bs) : UBx (W.setCell ⟨b, 4, none⟩ (.string ⟨x.toArray⟩)) b { u with query := x } := row_set (j := 4) h
theorem UBx.s5 {W : World} {b : Nat} {u : U} (h : UBx W b u) (x : Bool) : UBx (W.setCell ⟨b, 5, none⟩ (.bool x)) b { u with hq := x } := row_set (j := 5) h
theorem UBx.other {W : World} {b c j : Nat} {u : U} {v : Value} (h : UBx W b u) (hne : b ≠ c) : UBx (W.setCell ⟨c, j, none⟩ v) b u := (Below.heap_setCell W ⟨c, j, none⟩ v b hne).trans h
/-- All six cells set anew. -/
def put6w (W : World) (b : Nat) (u : U) : World := (((((W.setCell ⟨b, 0, none⟩ (.string ⟨u.scheme.toArray⟩)).setCell ⟨b, 1, none⟩ (.string ⟨u.host.toArray⟩)).setCell ⟨b, 2, none⟩ (.int .i64 u.port)).setCell ⟨b, 3, none⟩ (.string ⟨u.path.toArray⟩)).setCell ⟨b, 4, none⟩ (.string ⟨u.query.toArray⟩)).setCell ⟨b, 5, none⟩ (.bool u.hq)
theorem put6 {w W : World} {b n : Nat} {u0 : U} (u : U) (hb : Below n w W) (hn : n ≤ b) (h : UBx W b u0) : UBx (put6w W b u) b u ∧ Below n w (put6w W b u) := by
  refine ⟨(((((h.s0 u.scheme).s1 u.host).s2 u.port).s3 u.path).s4 u.query).s5 u.hq, ?_⟩
  exact (((((hb.setCell (p := ⟨b, 0, none⟩) hn _).setCell (p := ⟨b, 1, none⟩) hn _).setCell (p := ⟨b, 2, none⟩) hn _).setCell (p := ⟨b, 3, none⟩) hn _).setCell (p := ⟨b, 4, none⟩) hn _).setCell (p := ⟨b, 5, none⟩) hn _

/-- What holds while a URI is made: the result's box is as it began, the URI's own holds what is known. -/
structure PA (w W : World) (u : U) : Prop where
  below : Below w.heap.size w W
  res : UBx W w.heap.size noU
  box : UBx W (w.heap.size + 1) u
theorem PA.next {w W W' : World} {u : U} (h : PA w W u) (hb : Below W.heap.size W W') : PA w W' u := ⟨h.below.trans (hb.mono h.below.size), h.res.next hb, h.box.next hb⟩
theorem PA.put {w W : World} {u u' : U} (h : PA w W u) (j : Nat) (v : Value) (hr : UBx (W.setCell ⟨w.heap.size + 1, j, none⟩ v) (w.heap.size + 1) u') : PA w (W.setCell ⟨w.heap.size + 1, j, none⟩ v) u' :=
  ⟨h.below.setCell (p := ⟨w.heap.size + 1, j, none⟩) (by show w.heap.size ≤ w.heap.size + 1; omega) v, h.res.other (by omega), hr⟩
theorem PA.s0 {w W : World} {u : U} (h : PA w W u) (x : Bs) : PA w (W.setCell ⟨w.heap.size + 1, 0, none⟩ (.string ⟨x.toArray⟩)) { u with scheme := x } := h.put 0 _ (h.box.s0 x)
theorem PA.s1 {w W : World} {u : U} (h : PA w W u) (x : Bs) : PA w (W.setCell ⟨w.heap.size + 1, 1, none⟩ (.string ⟨x.toArray⟩)) { u with host := x } := h.put 1 _ (h.box.s1 x)
theorem PA.s2 {w W : World} {u : U} (h : PA w W u) (x : Int) : PA w (W.setCell ⟨w.heap.size + 1, 2, none⟩ (.int .i64 x)) { u with port := x } := h.put 2 _ (h.box.s2 x)
theorem PA.s3 {w W : World} {u : U} (h : PA w W u) (x : Bs) : PA w (W.setCell ⟨w.heap.size + 1, 3, none⟩ (.string ⟨x.toArray⟩)) { u with path := x } := h.put 3 _ (h.box.s3 x)
theorem PA.s4 {w W : World} {u : U} (h : PA w W u) (x : Bs) : PA w (W.setCell ⟨w.heap.size + 1, 4, none⟩ (.string ⟨x.toArray⟩)) { u with query := x } := h.put 4 _ (h.box.s4 x)
theorem PA.s5 {w W : World} {u : U} (h : PA w W u) (x : Bool) : PA w (W.setCell ⟨w.heap.size + 1, 5, none⟩ (.bool x)) { u with hq := x } := h.put 5 _ (h.box.s5 x)
theorem pa_new (w : World) : PA w ((w.alloc (.cells #[.string ⟨#[]⟩, .string ⟨#[]⟩, .int .i64 0, .string ⟨#[]⟩, .string ⟨#[]⟩, .bool false] 23)).alloc (.cells #[.string ⟨#[]⟩, .string ⟨#[]⟩, .int .i64 0, .string ⟨#[]⟩, .string ⟨#[]⟩, .bool false] 23)) noU := by
  have h := two_new w (.cells #[.string ⟨#[]⟩, .string ⟨#[]⟩, .int .i64 0, .string ⟨#[]⟩, .string ⟨#[]⟩, .bool false] 23) (.cells #[.string ⟨#[]⟩, .string ⟨#[]⟩, .int .i64 0, .string ⟨#[]⟩, .string ⟨#[]⟩, .bool false] 23)
  exact ⟨h.below, h.b1, h.b2⟩
/-- What Parse returns. -/
abbrev parseV (p : U × Int) : Value := .tuple #[uV p.1, .int .i64 p.2]
theorem parseT_none {sc h path q : Bs} {hq : Bool} (h58 : h.contains 58 = false) : parseT ⟨sc, h, 0, path, q, hq⟩ = if checkB ⟨sc, h, 0, path, q, hq⟩ = 0 then (⟨sc, h, 0, path, q, hq⟩, 0) else (noU, checkB ⟨sc, h, 0, path, q, hq⟩) := by
  have : portedB ⟨sc, h, 0, path, q, hq⟩ = some ⟨sc, h, 0, path, q, hq⟩ := by unfold portedB; show (bif h.contains 58 then _ else _) = _; rw [h58]; rfl
  unfold parseT; rw [this]
theorem parseT_bad {sc h path q : Bs} {hq : Bool} (h58 : h.contains 58 = true) (hp : portB (past 58 h) = 0) : parseT ⟨sc, h, 0, path, q, hq⟩ = (noU, 4) := by
  have : portedB ⟨sc, h, 0, path, q, hq⟩ = none := by unfold portedB; show (bif h.contains 58 then (if portB (past 58 h) = 0 then none else _) else _) = _; rw [h58, cond_true, if_pos hp]
  unfold parseT; rw [this]
theorem parseT_has {sc h path q : Bs} {hq : Bool} (h58 : h.contains 58 = true) (hp : ¬ portB (past 58 h) = 0) : parseT ⟨sc, h, 0, path, q, hq⟩ = if checkB ⟨sc, upto 58 h, portB (past 58 h), path, q, hq⟩ = 0 then (⟨sc, upto 58 h, portB (past 58 h), path, q, hq⟩, 0) else (noU, checkB ⟨sc, upto 58 h, portB (past 58 h), path, q, hq⟩) := by
  have : portedB ⟨sc, h, 0, path, q, hq⟩ = some ⟨sc, upto 58 h, portB (past 58 h), path, q, hq⟩ := by unfold portedB; show (bif h.contains 58 then (if portB (past 58 h) = 0 then none else _) else _) = _; rw [h58, cond_true, if_neg hp]
  unfold parseT; rw [this]
theorem parseT_port {sc h path q : Bs} {hq : Bool} {v : Int} (h58 : h.contains 58 = true) (ha : Lib.atoiAll (past 58 h) = .ok v) (hi : Lib.itoa v = past 58 h) (hv : 1 ≤ v) : parseT ⟨sc, h, 0, path, q, hq⟩ = if checkB ⟨sc, upto 58 h, v, path, q, hq⟩ = 0 then (⟨sc, upto 58 h, v, path, q, hq⟩, 0) else (noU, checkB ⟨sc, upto 58 h, v, path, q, hq⟩) := by
  by_cases h2 : v ≤ 65535
  · have hp := port_ok ha hi hv h2
    rw [parseT_has h58 (by omega), hp]
  · have hc : checkB ⟨sc, upto 58 h, v, path, q, hq⟩ = 4 := check_bad (bad_port (by show ¬ (0 ≤ v ∧ v ≤ 65535); omega))
    rw [hc, if_neg (by decide)]
    rcases port_big ha (by omega) with hp | hp
    · exact parseT_bad h58 hp
    · rw [parseT_has h58 (by omega), hp, hc, if_neg (by decide)]
theorem atoi_bnd {s : Bs} {v : Int} (h : Lib.atoiAll s = .ok v) : -9223372036854775808 ≤ v ∧ v ≤ 9223372036854775807 := by
  cases s with
  | nil => cases h
  | cons c r =>
    unfold Lib.atoiAll at h
    simp only at h
    split at h
    · cases h
    · cases h
    · rename_i u hu
      split at h
      · cases h
      · split at h
        · cases h
        · injection h with h
          rename_i h1 h2
          by_cases hn : c.toNat = 45
          · rw [if_pos hn] at h
            have : ¬ 9223372036854775808 < u := fun e => h2 ⟨hn, e⟩
            omega
          · rw [if_neg hn] at h
            have : ¬ 9223372036854775808 ≤ u := fun e => h1 ⟨hn, e⟩
            omega
theorem lib_ItoaZ (v : Int) (w : World) (hg : GX w) (h1 : -9223372036854775808 ≤ v) (h2 : v ≤ 9223372036854775807) :
    Calls Tryz.prog 72 #[.int .i64 v] w (Ret w (.string ⟨(Lib.itoa v).toArray⟩)) := by
  refine (Tryz.strconv_Itoa v h1 h2 w hg.tab).mono ?_
  rintro e w' ⟨rfl, k, os, rfl⟩
  exact ⟨rfl, Lib.below_grow _ w (Nat.le_refl _) k os⟩
theorem lib_Atoi_ok (s : ByteArray) (v : Int) (w : World) (h : Lib.atoiAll s.data.toList = .ok v) (hs : s.size ≤ 1000000) :
    Calls Tryz.prog 71 #[.string s] w (Ret w (.tuple #[.int .i64 v, .nilIface])) := by
  refine (Tryz.strconv_Atoi_ok s (by omega) v h w).mono ?_
  rintro e w' ⟨rfl, rfl | ⟨t, rfl⟩⟩
  · exact ⟨rfl, Below.refl _ _⟩
  · exact ⟨rfl, Lib.bytesWorld_below _ _ _⟩
theorem lib_Atoi_syn (s : ByteArray) (w : World) (hg : GX w) (h : Lib.atoiAll s.data.toList = Lib.atoiAll []) (hs : s.size ≤ 1000000) :
    Calls Tryz.prog 71 #[.string s] w fun e w' => ∃ N, e = .returned (.tuple #[.int .i64 0, .iface 138 (.pointer (some ⟨N, 0, none⟩))]) ∧ Below w.heap.size w w' := by
  obtain ⟨tp, p, hv⟩ := hg.syn
  refine (Tryz.strconv_Atoi_syntax_var s (by omega) h tp p w hv).mono ?_
  rintro e w' ⟨N, rfl, _, _, hb⟩
  exact ⟨N, rfl, hb⟩
theorem lib_Atoi_rng (s : ByteArray) (w : World) (hg : GX w) (h : Lib.atoiAll s.data.toList = .range) (hs : s.size ≤ 1000000) :
    Calls Tryz.prog 71 #[.string s] w fun e w' => ∃ N n, e = .returned (.tuple #[.int .i64 n, .iface 138 (.pointer (some ⟨N, 0, none⟩))]) ∧ Below w.heap.size w w' := by
  obtain ⟨tp, p, hv⟩ := hg.rng
  refine (Tryz.strconv_Atoi_range_var s (by omega) h tp p w hv).mono ?_
  rintro e w' ⟨N, rfl, _, _, hb⟩
  exact ⟨N, _, rfl, hb⟩
end Go.Proofs.YtobhceopfjcmnaaGreatDoor
