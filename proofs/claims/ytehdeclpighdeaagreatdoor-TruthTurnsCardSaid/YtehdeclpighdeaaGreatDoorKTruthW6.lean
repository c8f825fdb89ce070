/- The law's size, small and few: what may be gone through is not long. -/
import Derived.Test.YtehdeclpighdeaaGreatDoorKTruthW3
import Derived.Test.YtehdeclpighdeaaGreatDoorKTestSz
namespace Go.Proofs.YtehdeclpighdeaaGreatDoor
open Go.RowKit
set_option linter.unusedVariables false
def own20 (t : Bs) (u : UseI) : Int := 1 + (t.length : Int) / 20 + (u.name.length : Int) / 20 + (u.key.length : Int) / 20 + (u.dft.length : Int) / 20
mutual
def w20E : Ex → Int
  | .mk _ t u l => own20 t u + w20L l
def w20L : List Ex → Int
  | [] => 0
  | x :: r => w20E x + w20L r
end
theorem own_pos (t : Bs) (u : UseI) : 1 ≤ own20 t u := by unfold own20; omega
theorem w20_snoc (x : Ex) : ∀ l : List Ex, w20L (l ++ [x]) = w20L l + w20E x
  | [] => by rw [List.nil_append, w20L, w20L, w20L]; omega
  | y :: r => by rw [List.cons_append, w20L, w20L, w20_snoc x r]; omega
theorem w20_pos (x : Ex) : 1 ≤ w20E x := by
  refine Ex.ind (P := fun x => 1 ≤ w20E x) (fun k t u l ih => ?_) x
  have key : ∀ l : List Ex, (∀ x, x ∈ l → 1 ≤ w20E x) → 0 ≤ w20L l := by
    intro l
    induction l with
    | nil => intro _; rw [w20L]; omega
    | cons x r ihr => intro h; rw [w20L]; have := h x (by simp); have := ihr fun y hy => h y (by simp [hy]); omega
  have := key l ih
  have := own_pos t u
  rw [w20E]; omega
theorem ok_20 (x : Ex) : w20E x ≤ 400 → okE x ∧ (nodesE x : Int) ≤ w20E x := by
  refine Ex.ind (P := fun x => w20E x ≤ 400 → okE x ∧ (nodesE x : Int) ≤ w20E x) (fun k t u l ih hw => ?_) x
  have key : ∀ l : List Ex, (∀ x, x ∈ l → w20E x ≤ 400 → okE x ∧ (nodesE x : Int) ≤ w20E x) → w20L l ≤ 400 → okL l ∧ (nodesL l : Int) ≤ w20L l ∧ 0 ≤ w20L l := by
    intro l
    induction l with
    | nil => intro _ _; unfold okL; rw [nodesL, w20L]; exact ⟨trivial, by simp, by omega⟩
    | cons x r ihr =>
      intro h hw
      rw [w20L] at hw ⊢
      have h0 := w20_pos x
      have hr : w20L r ≤ 400 := by
        by_cases hx : w20L r ≤ 400
        · exact hx
        · omega
      have hr2 := ihr (fun y hy => h y (by simp [hy])) hr
      have hx := h x (by simp) (by omega)
      unfold okL; rw [nodesL]
      exact ⟨⟨hx.1, hr2.1⟩, by omega, by omega⟩
  rw [w20E] at hw
  have h1 := own_pos t u
  have hl : w20L l ≤ 400 := by omega
  obtain ⟨a, b, c⟩ := key l ih hl
  unfold own20 at hw h1
  unfold okE
  rw [nodesE, w20E]
  unfold own20
  exact ⟨⟨by omega, by omega, by omega, by omega, a⟩, by omega⟩
def RetSz (w : World) (x : Ex) (left : Int) : Ending → World → Prop := fun e w' => ∃ r : Int, e = .returned (.int .i64 r) ∧ -1000000000000000 ≤ r ∧ r ≤ left ∧ Hid (0 < r → w20E x + r ≤ left) ∧ Hid (Below w.heap.size w w')
set_option maxRecDepth 100000 in
set_option maxHeartbeats 4000000 in
theorem law28_size_step (x : Ex) (hsm : smallE x) (left : Int) (hl0 : 0 < left) (hl4 : left ≤ 400) (ih : ∀ x', x' ∈ x.kids → ∀ (left : Int), 0 < left → left ≤ 400 → ∀ (v : Value) (W : World), ExAt (fun _ => True) W x' v → Calls Tryz.prog 55 #[v, .int .i64 left] W (RetSz W x' left)) (v : Value) (w : World) (hx : ExAt (fun _ => True) w x v) :
    Calls Tryz.prog 55 #[v, .int .i64 left] w (RetSz w x left) := by
  obtain ⟨k, t, u, l⟩ := x
  have HIH := Lib.hid ih
  unfold smallE at hsm
  obtain ⟨h1, h2, h3, h4, h5, h6⟩ := hsm
  have HSM := Lib.hid h6
  obtain ⟨kv, rfl, hk⟩ := exAt_iff.1 hx
  have HKID := Lib.hid hk
  have hl : ∃ a c, kv = .slice a l.length c := by rcases hk with ⟨rfl, a, c, rfl⟩ | ⟨b, o, c, rfl, _⟩ <;> exact ⟨_, _, rfl⟩
  obtain ⟨a, c, rfl⟩ := hl
  have HB := Lib.hid ((Below.refl w.heap.size w).alloc (Nat.le_refl _) (.cells (exL k t u (.slice a l.length c)).toArray 27))
  have HN0 := Lib.hid (heap_alloc_new w (.cells (exL k t u (.slice a l.length c)).toArray 27))
  have HS0 := Lib.hid (show left - 1 - (t.length : Int) / 20 - (u.name.length : Int) / 20 - (u.key.length : Int) / 20 - (u.dft.length : Int) / 20 = left - own20 t u by unfold own20; omega)
  have HOP := Lib.hid (own_pos t u)
  have HWX := Lib.hid (show w20E (.mk k t u l) = own20 t u + w20L l by rw [w20E])
  have HL4 := Lib.hid hl4
  clear ih hx hk h6
  go_enter Tryz.func55, Tryz.ntmps55
  go_upto_region 1 with fail
  generalize w.alloc (.cells (exL k t u (.slice a l.length c)).toArray 27) = W0 at *
  obtain ⟨p0, p1, p2, p3, p4, p5, p6, p7, p8, p9⟩ := ten_cells HN0.out
  obtain ⟨n, hn⟩ : ∃ n, l.length = n := ⟨_, rfl⟩
  rw [hn] at HKID h5 HN0 p9
  have HN := Lib.hid hn
  clear hn
  have e1 : -1000000000000000 ≤ left - 1 - (t.length : Int) / 20 - (u.name.length : Int) / 20 - (u.key.length : Int) / 20 - (u.dft.length : Int) / 20 := by omega
  have e2 : left - 1 - (t.length : Int) / 20 - (u.name.length : Int) / 20 - (u.key.length : Int) / 20 - (u.dft.length : Int) / 20 ≤ 400 := by omega
  have E1 := Lib.hid (And.intro e1 e2)
  clear e1 e2
  go_upto_region 3 with fail
  clear p0 p1 p2 p3 p4 p5 p6 p7 p8 p9
  have e1 := E1.out.1
  have e2 := E1.out.2
  generalize left - 1 - (t.length : Int) / 20 - (u.name.length : Int) / 20 - (u.key.length : Int) / 20 - (u.dft.length : Int) / 20 = L0 at *
  clear h1 h2 h3 h4 hl0 hl4
  go_loopw [1, 5] (fun lv iv wr => ∃ (i : Nat) (q : Int), i ≤ n ∧ iv = .int .i64 i ∧ lv = .int .i64 q ∧ -1000000000000000 ≤ q ∧ q ≤ 400 ∧ Hid (q ≤ left ∧ (0 < q → own20 t u + w20L (l.take i) + q ≤ left)) ∧ Hid (Below W0.heap.size W0 wr)) (fun _ iv _ => n - (intOf iv).toNat)
  case atStart => exact ⟨0, L0, Nat.zero_le _, rfl, rfl, e1, e2, Lib.hid ⟨by have := HS0.out; have := HOP.out; omega, fun _ => by have := HS0.out; rw [List.take_zero, w20L]; omega⟩, Lib.hid (Below.refl _ _)⟩
  case round =>
    clear e1 e2 E1
    obtain ⟨i, q, hi, rfl, rfl, hq1, hq2, HF, HW⟩ := hrel
    have HBB := Lib.hid (HB.out.trans (HW.out.mono HB.out.size))
    have HQ := Lib.hid ((HW.out.block _ (Array.getElem?_eq_some_iff.1 HN0.out).1).trans HN0.out)
    obtain ⟨-, -, -, -, -, -, -, -, -, p9⟩ := ten_cells HQ.out
    by_cases hlt : i < n
    · have i1 : (i : Int) < (n : Int) := by omega
      have i0 : (0 : Int) ≤ (i : Int) := by omega
      by_cases hp : 0 < q
      · obtain ⟨x, hx⟩ : ∃ x, l[i]? = some x := ⟨_, List.getElem?_eq_getElem (by rw [HN.out]; exact hlt)⟩
        have HMEM := Lib.hid (show x ∈ (Ex.mk k t u l).kids from List.mem_of_getElem? hx)
        have HF2 := Lib.hid (show own20 t u + w20L (l.take i) + q ≤ left from HF.out.2 hp)
        have HTK := Lib.hid (show w20L (l.take (i + 1)) = w20L (l.take i) + w20E x by
          rw [List.take_add_one, hx]; exact w20_snoc x _)
        obtain ⟨b, o, c', he, hlc, hbl, hrow⟩ := kids_row HKID.out hx
        rw [HN.out] at he
        obtain ⟨rfl, rfl⟩ : a = some ⟨b, o, none⟩ ∧ c = c' := by injection he with h1 h2 h3; exact ⟨h1, h3⟩
        obtain ⟨k1, t1, u1, a1, n1, c1, hk1⟩ := kid_get hrow hx HBB.out hbl
        have HCALL := Lib.hid (show Calls Tryz.prog 55 #[exV k1 t1 u1 (.slice a1 n1 c1), .int .i64 q] wr (RetSz wr x q) from HIH.out x HMEM.out q hp hq2 _ wr (hk1.ex ⟨wr, Below.refl _ _⟩))
        obtain ⟨-, y0, y1, y2, y3, y4, y5, y6, y7, y8, y9⟩ := hk1
        have z0 := y0 ⟨wr, Below.refl _ _⟩
        have z1 := y1 ⟨wr, Below.refl _ _⟩
        have z2 := y2 ⟨wr, Below.refl _ _⟩
        have z3 := y3 ⟨wr, Below.refl _ _⟩
        have z4 := y4 ⟨wr, Below.refl _ _⟩
        have z5 := y5 ⟨wr, Below.refl _ _⟩
        have z6 := y6 ⟨wr, Below.refl _ _⟩
        have z7 := y7 ⟨wr, Below.refl _ _⟩
        have z8 := y8 ⟨wr, Below.refl _ _⟩
        have z9 := y9 ⟨wr, Below.refl _ _⟩
        dsimp only at z0 z1 z2 z3 z4 z5 z6 z7 z8 z9
        clear hx hrow hbl he hlc y0 y1 y2 y3 y4 y5 y6 y7 y8 y9
        go_wp2_with fail
        refine HCALL.out.mono ?_
        rintro e w3 ⟨r, rfl, hr1, hr2, HR, hb3⟩
        have HB3 := Lib.hid (HW.out.trans (hb3.out.mono HW.out.size))
        have HF3 := Lib.hid (show r ≤ left ∧ (0 < r → own20 t u + w20L (l.take (i + 1)) + r ≤ left) from ⟨by have := HF.out.1; omega, fun h => by have := HR.out h; have := HF2.out; rw [HTK.out]; omega⟩)
        clear hb3 z0 z1 z2 z3 z4 z5 z6 z7 z8 z9 p9
        go_wp2_with fail
        go_roundw
        case rel => exact ⟨i + 1, r, by omega, by go_num, rfl, hr1, by omega, HF3, HB3⟩
        case measure => (simp [intOf] <;> omega)
      · have HNP := Lib.hid hp
        go_wp2_with fail
        go_ret
        exact ⟨q, rfl, hq1, HF.out.1, Lib.hid fun h => by have := HNP.out; omega, HBB⟩
    · obtain rfl : i = n := by omega
      have HE := Lib.hid (show 0 < q → w20E (.mk k t u l) + q ≤ left from fun h => by
        have := HF.out.2 h
        rw [List.take_of_length_le (by rw [HN.out]; exact Nat.le_refl _)] at this
        rw [HWX.out]; omega)
      have i1 : ¬ (i : Int) < (i : Int) := by omega
      go_wp2_with fail
      go_ret
      exact ⟨q, rfl, hq1, HF.out.1, HE, HBB⟩
theorem law28_size (x : Ex) : smallE x → ∀ (left : Int), 0 < left → left ≤ 400 → ∀ (v : Value) (w : World), ExAt (fun _ => True) w x v → Calls Tryz.prog 55 #[v, .int .i64 left] w (RetSz w x left) := by
  refine Ex.ind (P := fun x => smallE x → ∀ (left : Int), 0 < left → left ≤ 400 → ∀ (v : Value) (w : World), ExAt (fun _ => True) w x v → Calls Tryz.prog 55 #[v, .int .i64 left] w (RetSz w x left)) (fun k t u l ih hs left h1 h2 v w hx => ?_) x
  have hl : smallL l := by unfold smallE at hs; exact hs.2.2.2.2.2
  exact law28_size_step (.mk k t u l) hs left h1 h2 (fun x' hx' left h1 h2 v W h3 => ih x' hx' (small_mem hl hx') left h1 h2 v W h3) v w hx
def RetIf (w : World) (S : Prop) : Ending → World → Prop := fun e w' => ∃ q : Bool, e = .returned (.bool q) ∧ Hid (q = true → S) ∧ Hid (Below w.heap.size w w')
set_option maxRecDepth 100000 in
theorem law28_small (x : Ex) (hs : smallE x) (v : Value) (w : World) (hx : ExAt (fun _ => True) w x v) : Calls Tryz.prog 27 #[v] w (RetIf w (okE x ∧ nodesE x ≤ 400)) := by
  obtain ⟨k, t, u, a, n, c, rfl⟩ := hx.ten
  have hA : Below w.heap.size w (w.alloc (.cells (exL k t u (.slice a n c)).toArray 27)) := (Below.refl _ _).alloc (Nat.le_refl _) _
  have HX := Lib.hid (hx.next hA)
  have HB := Lib.hid hA
  have HN := Lib.hid (heap_alloc_new w (.cells (exL k t u (.slice a n c)).toArray 27))
  clear hx hA
  go_enter Tryz.func27, Tryz.ntmps27
  go_upto_region 1 with fail
  generalize w.alloc (.cells (exL k t u (.slice a n c)).toArray 27) = W0 at *
  obtain ⟨p0, p1, p2, p3, p4, p5, p6, p7, p8, p9⟩ := ten_cells HN.out
  go_wp2_with fail
  refine (law28_size x hs 400 (by decide) (by decide) _ W0 HX.out).mono ?_
  rintro e w1 ⟨r, rfl, hr1, hr2, HR, hb1⟩
  have HB1 := Lib.hid (HB.out.trans (hb1.out.mono HB.out.size))
  clear hb1 p0 p1 p2 p3 p4 p5 p6 p7 p8 p9
  have HO := Lib.hid (show decide (0 < r) = true → okE x ∧ nodesE x ≤ 400 from fun h => by
    have h0 := of_decide_eq_true h
    have := HR.out h0
    obtain ⟨a, b⟩ := ok_20 x (by omega)
    exact ⟨a, by omega⟩)
  obtain ⟨q, hq⟩ : ∃ q, decide (0 < r) = q := ⟨_, rfl⟩
  rw [hq] at HO
  go_wp2_with fail
  go_ret
  exact ⟨q, (by rw [← hq]; rfl), HO, HB1⟩
theorem below_nq {w W : World} {b : Nat} (h : Below b w W) (n : Nat) : Below b w (W.drewN n) := ⟨h.os, h.tape, h.output, h.size, h.block⟩
set_option maxRecDepth 100000 in
set_option maxHeartbeats 4000000 in
theorem law28_few (a : Option Addr) (n c : Nat) (fs : List Fld) (w : World) (hF : FieldsAt w (.slice a n c) fs) (hn : n = fs.length) (hs : ∀ f ∈ fs, f.1.length ≤ 140737488355328 ∧ f.2.length ≤ 140737488355328) (hlen : fs.length ≤ 140737488355328) :
    Calls Tryz.prog 28 #[.slice a n c] w (RetIf w (Lim fs)) := by
  subst hn
  have HFA := Lib.hid hF
  have HS := Lib.hid hs
  obtain ⟨n, hn⟩ : ∃ n, fs.length = n := ⟨_, rfl⟩
  rw [hn] at HFA hlen ⊢
  have HN := Lib.hid hn
  clear hF hs hn
  rcases Decidable.em (40 < n) with h40 | h40
  · have i1 : (40 : Int) < (n : Int) := by omega
    go_enter Tryz.func28, Tryz.ntmps28
    go_wp2_with fail
    go_ret
    exact ⟨false, rfl, Lib.hid (fun h => by cases h), Lib.hid (Below.refl _ _)⟩
  have i1 : ¬ (40 : Int) < (n : Int) := by omega
  go_enter Tryz.func28, Tryz.ntmps28
  go_upto_region 5 with fail
  clear i1
  go_loopw [3, 4] (fun lv iv wr => ∃ (k : Nat) (q : Int), k ≤ n ∧ iv = .int .i64 k ∧ lv = .int .i64 q ∧ 0 ≤ q ∧ q ≤ 4000 ∧ Hid (∀ f ∈ fs.take k, f.1.length + f.2.length ≤ 100000) ∧ Hid (Below w.heap.size w wr)) (fun _ iv _ => n - (intOf iv).toNat)
  case atStart => exact ⟨0, 4000, Nat.zero_le _, rfl, rfl, by decide, by decide, Lib.hid (fun f h => by simp at h), Lib.hid (Below.refl _ _)⟩
  case round =>
    obtain ⟨k, q, hk, rfl, rfl, hq0, hq4, HA, HW⟩ := hrel
    have i0 : (0 : Int) ≤ (k : Int) := by omega
    by_cases hlt : k < n
    · have i2 : (k : Int) < (n : Int) := by omega
      obtain ⟨f, hf⟩ : ∃ f, fs[k]? = some f := ⟨_, List.getElem?_eq_getElem (by rw [HN.out]; exact hlt)⟩
      obtain ⟨b, o, c', he, hle, hbl, hcells⟩ : ∃ b o c', Value.slice a n c = .slice (some ⟨b, o, none⟩) n c' ∧ n ≤ c' ∧ b < w.heap.size ∧ ∀ (j : Nat) (f : Fld), fs[j]? = some f → w.cell? ⟨b, o + j * 2, none⟩ = some (.string ⟨f.1.toArray⟩) ∧ w.cell? ⟨b, o + j * 2 + 1, none⟩ = some (.string ⟨f.2.toArray⟩) := by
        rcases HFA.out with ⟨_, _, _, rfl⟩ | ⟨b, o, c', h1, h2, h3, h4⟩
        · simp at hf
        · exact ⟨b, o, c', by rw [h1, HN.out], by rw [← HN.out]; exact h2, h3, h4⟩
      obtain ⟨rfl, rfl⟩ : a = some ⟨b, o, none⟩ ∧ c = c' := by injection he with h1 h2 h3; exact ⟨h1, h3⟩
      obtain ⟨g1, g2⟩ := hcells k f hf
      have h1 := ((bcell HW.out).1 b _ hbl).trans g1
      have h2 := ((bcell HW.out).1 b _ hbl).trans g2
      have hfl := HS.out f (List.mem_of_getElem? hf)
      have HFE := Lib.hid hf
      obtain ⟨nm, vl⟩ := f
      dsimp only at h1 h2 hfl
      obtain ⟨hf1, hf2⟩ := hfl
      clear hf g1 g2 hcells he hle
      rcases Decidable.em (q < (nm.length : Int)) with hg | hg
      · go_upto_region 7 with fail
        go_quiet (fail)
        go_wp2_with fail
        go_ret
        exact ⟨false, rfl, Lib.hid (fun h => by cases h), Lib.hid (below_nq HW.out _)⟩
      · have hg2 : (nm.length : Int) ≤ q := by omega
        rcases Decidable.em (q - (nm.length : Int) < (vl.length : Int)) with hv | hv
        · go_upto_region 7 with fail
          go_quiet (fail)
          go_wp2_with fail
          go_ret
          exact ⟨false, rfl, Lib.hid (fun h => by cases h), Lib.hid (below_nq HW.out _)⟩
        · have hv2 : (vl.length : Int) ≤ q - (nm.length : Int) := by omega
          have HA2 := Lib.hid (show ∀ f ∈ fs.take (k + 1), f.1.length + f.2.length ≤ 100000 from fun f h => by
            rw [List.take_add_one, HFE.out, List.mem_append] at h
            rcases h with h | h
            · exact HA.out f h
            · simp at h; subst h; show nm.length + vl.length ≤ _; omega)
          go_upto_region 7 with fail
          go_quiet (fail)
          go_upto_region 9 with fail
          go_quiet (fail)
          go_wp2_with fail
          go_roundw
          case rel => exact ⟨k + 1, q - (nm.length : Int) - (vl.length : Int), by omega, by go_num, rfl, by omega, by omega, HA2, Lib.hid (below_nq HW.out _)⟩
          case measure => (simp [intOf] <;> omega)
    · obtain rfl : k = n := by omega
      have HE := Lib.hid (show Lim fs from ⟨by rw [HN.out]; omega, fun f hf => HA.out f (by rw [List.take_of_length_le (by rw [HN.out]; exact Nat.le_refl _)]; exact hf)⟩)
      have i2 : ¬ (k : Int) < (k : Int) := by omega
      go_wp2_with fail
      go_ret
      exact ⟨true, rfl, Lib.hid (fun _ => HE.out), HW⟩
end Go.Proofs.YtehdeclpighdeaaGreatDoor
