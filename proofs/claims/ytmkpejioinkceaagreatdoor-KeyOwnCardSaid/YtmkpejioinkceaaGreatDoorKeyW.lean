/- Keys, and which of them go: plain. The walks of a key, and of whose an address is. The walks of key.Of and key.Unsafe. -/
import Derived.Test.YtmkpejioinkceaaGreatDoorRes
import Derived.Test.YtmkpejioinkceaaGreatDoorUriNorm
import Derived.Lib.SlicesS
namespace Go.Proofs.YtmkpejioinkceaaGreatDoor
open Go.Lib

/-- An address's key. -/
def keyB (u : U) : Bs := putB (normB u)
/-- Whose an address is. -/
def whoB (u : U) : Bs × Bs × Int := ((normB u).scheme, (normB u).host, (normB u).port)
/-- One more address: the keys that were met, and those that go. -/
def addB (u : U) (st : List Bs × List Bs) (x : U) : List Bs × List Bs :=
  (st.1 ++ [keyB x], bif !st.1.contains (keyB x) && decide (whoB x = whoB u) then st.2 ++ [keyB x] else st.2)
def stepB (u : U) (st : List Bs × List Bs) (v : Bs) : List Bs × List Bs := bif (refB u v).2 == 0 then addB u st (refB u v).1 else st
def locName : Bs := [108, 111, 99, 97, 116, 105, 111, 110]
def clocName : Bs := [99, 111, 110, 116, 101, 110, 116, 45, 108, 111, 99, 97, 116, 105, 111, 110]
def cands (fs : List Fld) : List Bs := values fs locName ++ values fs clocName
def goneOk (u : U) (status : Int) : Bool := checkB u == 0 && decide (200 ≤ status ∧ status ≤ 399)
def goneB (u : U) (status : Int) (fs : List Fld) : List Bs :=
  bif goneOk u status then ((cands fs).foldl (stepB u) (addB u ([], []) u)).2 else []
/-- The reference's. -/
def refStep (u : U) (out : List Bs) (v : Bs) : List Bs :=
  bif (refB u v).2 == 0 && decide (whoB (refB u v).1 = whoB u) && !out.contains (keyB (refB u v).1) then out ++ [keyB (refB u v).1] else out
def refGone (u : U) (status : Int) (fs : List Fld) : List Bs :=
  bif goneOk u status then (cands fs).foldl (refStep u) [keyB u] else []

theorem key_parse {x : U} (h : okB x = true) : parseB (keyB x) = (normB x, 0) := by
  have hn := norm_ok h
  unfold keyB putB
  rw [hn]; exact parse_text hn
theorem key_inj {x y : U} (hx : okB x = true) (hy : okB y = true) (h : keyB x = keyB y) : normB x = normB y := by
  have h1 := key_parse hx
  have h2 := key_parse hy
  rw [h, h2] at h1
  exact (Prod.mk.inj h1).1.symm
theorem key_iff {x y : U} (hx : okB x = true) (hy : okB y = true) : keyB x = keyB y ↔ normB x = normB y :=
  ⟨key_inj hx hy, fun h => by unfold keyB; rw [h]⟩
theorem key_norm {x : U} (h : okB x = true) : keyB (normB x) = keyB x := by unfold keyB; rw [norm_idem h]
theorem key_none {x : U} (h : okB x = false) : keyB x = [] := by
  unfold keyB
  have : normB x = noU := by unfold normB; rw [h]; rfl
  rw [this]; decide
theorem key_len (x : U) : (keyB x).length ≤ 1024 := by
  cases h : okB x
  · rw [key_none h]; exact Nat.zero_le _
  · have hn := norm_ok h
    unfold keyB putB
    rw [hn, cond_true]
    unfold okB at hn
    rw [Bool.and_eq_true, decide_eq_true_eq] at hn
    exact hn.2
theorem who_of_key {x y : U} (hx : okB x = true) (hy : okB y = true) (h : keyB x = keyB y) : whoB x = whoB y := by
  unfold whoB; rw [key_inj hx hy h]

/-- What holds of the keys that were met and of those that go. -/
structure KInv (u : U) (st : List Bs × List Bs) : Prop where
  met : ∀ k ∈ st.1, ∃ y, okB y = true ∧ k = keyB y
  sub : ∀ k ∈ st.2, k ∈ st.1 ∧ ∃ y, okB y = true ∧ k = keyB y ∧ whoB y = whoB u
  same : ∀ y, okB y = true → whoB y = whoB u → keyB y ∈ st.1 → keyB y ∈ st.2
  once : st.2.Nodup
theorem KInv.start {u : U} (h : okB u = true) : KInv u (addB u ([], []) u) := by
  have e : addB u ([], []) u = ([keyB u], [keyB u]) := by unfold addB; simp
  rw [e]
  refine ⟨?_, ?_, ?_, by simp⟩
  · intro k hk; simp only [List.mem_singleton] at hk; exact ⟨u, h, hk⟩
  · intro k hk; simp only [List.mem_singleton] at hk; exact ⟨by simp [hk], u, h, hk, rfl⟩
  · intro y _ _ hk; exact hk
theorem KInv.add {u x : U} {st : List Bs × List Bs} (h : KInv u st) (hx : okB x = true) : KInv u (addB u st x) := by
  unfold addB
  refine ⟨?_, ?_, ?_, ?_⟩
  · intro k hk
    rcases List.mem_append.1 hk with hk | hk
    · exact h.met k hk
    · simp only [List.mem_singleton] at hk; exact ⟨x, hx, hk⟩
  · intro k hk
    show k ∈ st.1 ++ [keyB x] ∧ _
    cases hc : (!st.1.contains (keyB x) && decide (whoB x = whoB u))
    · rw [hc, cond_false] at hk
      obtain ⟨h1, h2⟩ := h.sub k hk
      exact ⟨List.mem_append.2 (.inl h1), h2⟩
    · rw [hc, cond_true] at hk
      rw [Bool.and_eq_true, decide_eq_true_eq] at hc
      rcases List.mem_append.1 hk with hk | hk
      · obtain ⟨h1, h2⟩ := h.sub k hk
        exact ⟨List.mem_append.2 (.inl h1), h2⟩
      · simp only [List.mem_singleton] at hk
        exact ⟨by simp [hk], x, hx, hk, hc.2⟩
  · intro y hy hw hk
    show keyB y ∈ (bif _ then _ else _)
    cases hc : (!st.1.contains (keyB x) && decide (whoB x = whoB u))
    · rw [cond_false]
      rcases List.mem_append.1 hk with hk | hk
      · exact h.same y hy hw hk
      · simp only [List.mem_singleton] at hk
        have hwx : whoB x = whoB u := by rw [← who_of_key hy hx hk]; exact hw
        rw [decide_eq_true hwx, Bool.and_true, Bool.not_eq_false', List.contains_iff_mem] at hc
        rw [hk]
        rw [← hk] at hc ⊢
        exact h.same y hy hw hc
    · rw [cond_true]
      rcases List.mem_append.1 hk with hk | hk
      · exact List.mem_append.2 (.inl (h.same y hy hw hk))
      · exact List.mem_append.2 (.inr hk)
  · show (bif _ then _ else _ : List Bs).Nodup
    cases hc : (!st.1.contains (keyB x) && decide (whoB x = whoB u))
    · rw [cond_false]; exact h.once
    · rw [cond_true]
      rw [Bool.and_eq_true, Bool.not_eq_true', ← Bool.not_eq_true, List.contains_iff_mem] at hc
      rw [List.nodup_append]
      refine ⟨h.once, by simp, ?_⟩
      intro a ha b hb
      simp only [List.mem_singleton] at hb
      subst hb
      rintro rfl
      exact hc.1 (h.sub _ ha).1
theorem refd_ok {u : U} {v : Bs} (h : (refB u v).2 = 0) : okB (refB u v).1 = true := by
  rcases ref_cases u v with ⟨v0, hv, hok⟩ | ⟨ec, hv, he⟩
  · rw [hv]; exact norm_ok hok
  · rw [hv] at h; simp only at h; subst h; simp at he
theorem KInv.step {u : U} {st : List Bs × List Bs} (h : KInv u st) (v : Bs) : KInv u (stepB u st v) := by
  unfold stepB
  cases hc : ((refB u v).2 == 0)
  · exact h
  · exact h.add (refd_ok (beq_iff_eq.1 hc))
theorem KInv.fold {u : U} : ∀ (l : List Bs) {st : List Bs × List Bs}, KInv u st → KInv u (l.foldl (stepB u) st)
  | [], _, h => h
  | v :: l, _, h => KInv.fold l (h.step v)
theorem step_ref {u : U} {st : List Bs × List Bs} (h : KInv u st) (v : Bs) : (stepB u st v).2 = refStep u st.2 v := by
  unfold stepB refStep
  cases hc : ((refB u v).2 == 0)
  · rfl
  · have hx := refd_ok (beq_iff_eq.1 hc)
    rw [cond_true, Bool.true_and]
    unfold addB
    show (bif _ then _ else _) = _
    by_cases hw : whoB (refB u v).1 = whoB u
    · rw [decide_eq_true hw, Bool.and_true, Bool.true_and]
      have : st.1.contains (keyB (refB u v).1) = st.2.contains (keyB (refB u v).1) := by
        rw [Bool.eq_iff_iff, List.contains_iff_mem, List.contains_iff_mem]
        exact ⟨h.same _ hx hw, fun hk => (h.sub _ hk).1⟩
      rw [this]
    · rw [decide_eq_false hw, Bool.and_false, Bool.false_and]
theorem fold_ref {u : U} : ∀ (l : List Bs) {st : List Bs × List Bs}, KInv u st → (l.foldl (stepB u) st).2 = l.foldl (refStep u) st.2
  | [], _, _ => rfl
  | v :: l, st, h => by
    show (l.foldl (stepB u) (stepB u st v)).2 = l.foldl (refStep u) (refStep u st.2 v)
    rw [fold_ref l (h.step v), step_ref h]
theorem gone_ref (u : U) (status : Int) (fs : List Fld) : goneB u status fs = refGone u status fs := by
  unfold goneB refGone
  cases hc : goneOk u status
  · rfl
  · have hu : okB u = true := by
      unfold goneOk at hc; rw [Bool.and_eq_true, beq_iff_eq] at hc; exact (checkB_ok u).1 hc.1
    rw [cond_true, cond_true, fold_ref _ (KInv.start hu)]
    congr 1
    unfold addB; simp

/-! What holds of the keys that go. -/
theorem step_len (u : U) (st : List Bs × List Bs) (v : Bs) : (stepB u st v).2.length ≤ st.2.length + 1 := by
  unfold stepB
  cases (refB u v).2 == 0
  · exact Nat.le_succ _
  · show (addB u st _).2.length ≤ _
    unfold addB
    show (bif _ then _ else _ : List Bs).length ≤ _
    cases (!st.1.contains (keyB (refB u v).1) && decide (whoB (refB u v).1 = whoB u))
    · exact Nat.le_succ _
    · simp
theorem fold_len (u : U) : ∀ (l : List Bs) (st : List Bs × List Bs), (l.foldl (stepB u) st).2.length ≤ st.2.length + l.length
  | [], _ => Nat.le_refl _
  | v :: l, st => by
    have h1 := fold_len u l (stepB u st v)
    have h2 := step_len u st v
    show (l.foldl (stepB u) (stepB u st v)).2.length ≤ _
    simp only [List.length_cons]; omega
theorem step_pre (u : U) (st : List Bs × List Bs) (v : Bs) : ∃ t, (stepB u st v).2 = st.2 ++ t := by
  unfold stepB
  cases (refB u v).2 == 0
  · exact ⟨[], by simp⟩
  · show ∃ t, (addB u st _).2 = _
    unfold addB
    show ∃ t, (bif _ then _ else _ : List Bs) = _
    cases (!st.1.contains (keyB (refB u v).1) && decide (whoB (refB u v).1 = whoB u))
    · exact ⟨[], by simp⟩
    · exact ⟨_, rfl⟩
theorem fold_pre (u : U) : ∀ (l : List Bs) (st : List Bs × List Bs), ∃ t, (l.foldl (stepB u) st).2 = st.2 ++ t
  | [], _ => ⟨[], by simp⟩
  | v :: l, st => by
    obtain ⟨t1, h1⟩ := step_pre u st v
    obtain ⟨t2, h2⟩ := fold_pre u l (stepB u st v)
    exact ⟨t1 ++ t2, by show (l.foldl (stepB u) (stepB u st v)).2 = _; rw [h2, h1, List.append_assoc]⟩
theorem same_len {a b : Bs} (h : same a b = true) : a.length = b.length := by
  unfold same at h
  have := congrArg List.length (beq_iff_eq.1 h)
  simpa [lower] using this
theorem same_two {a : Bs} (h1 : same a locName = true) (h2 : same a clocName = true) : False := by
  have e1 := same_len h1
  have e2 := same_len h2
  rw [e1] at e2
  exact absurd e2 (by decide)
theorem cands_len (fs : List Fld) : (cands fs).length ≤ fs.length := by
  unfold cands
  rw [List.length_append]
  unfold values
  rw [List.length_map, List.length_map]
  induction fs with
  | nil => exact Nat.le_refl _
  | cons f fs ih =>
    rw [List.filter_cons, List.filter_cons]
    cases h1 : same f.1 locName
    · cases h2 : same f.1 clocName
      · simp only [Bool.false_eq_true, if_false, List.length_cons]; omega
      · simp only [Bool.false_eq_true, if_false, if_true, List.length_cons]; omega
    · cases h2 : same f.1 clocName
      · simp only [Bool.false_eq_true, if_false, if_true, List.length_cons]; omega
      · exact (same_two h1 h2).elim
/-- The fields of the two names alone. -/
def someF (fs : List Fld) : List Fld := fs.filter fun f => same f.1 locName || same f.1 clocName
theorem cands_some (fs : List Fld) : cands (someF fs) = cands fs := by
  unfold cands values someF
  rw [List.filter_filter, List.filter_filter]
  congr 2
  · congr 1; funext f; cases same f.1 locName <;> rfl
  · congr 1; funext f; cases same f.1 clocName <;> simp
theorem gone_no {u : U} {status : Int} {fs : List Fld} (h : goneOk u status = false) : goneB u status fs = [] := by unfold goneB; rw [h]; rfl
theorem gone_some {u : U} {status : Int} {fs : List Fld} (h : goneOk u status = true) : goneB u 200 (someF fs) = goneB u status fs := by
  have h2 : goneOk u 200 = true := by
    unfold goneOk at h ⊢
    rw [Bool.and_eq_true] at h ⊢
    exact ⟨h.1, by decide⟩
  unfold goneB
  rw [h, h2, cands_some]
structure GOwn (u : U) (fs : List Fld) (l : List Bs) : Prop where
  first : ∃ t, l = keyB u :: t
  len : l.length ≤ 1 + fs.length
  each : ∀ k ∈ l, ∃ y, okB y = true ∧ k = keyB y ∧ whoB y = whoB u
  once : l.Nodup
theorem gone_own {u : U} {status : Int} (fs : List Fld) (h : goneOk u status = true) : GOwn u fs (goneB u status fs) := by
  have hu : okB u = true := by
    unfold goneOk at h; rw [Bool.and_eq_true, beq_iff_eq] at h; exact (checkB_ok u).1 h.1
  have hk := (KInv.start hu).fold (cands fs)
  have e : addB u ([], []) u = ([keyB u], [keyB u]) := by unfold addB; simp
  unfold goneB
  rw [h, cond_true]
  refine ⟨?_, ?_, fun k hk' => (hk.sub k hk').2, hk.once⟩
  · obtain ⟨t, ht⟩ := fold_pre u (cands fs) (addB u ([], []) u)
    exact ⟨t, by rw [ht, e]; rfl⟩
  · have h1 := fold_len u (cands fs) (addB u ([], []) u)
    have h2 := cands_len fs
    rw [e] at h1 ⊢
    simp only [List.length_cons, List.length_nil] at h1
    omega
end Go.Proofs.YtmkpejioinkceaaGreatDoor

namespace Go.Proofs.YtmkpejioinkceaaGreatDoor
open Go.RowKit
set_option linter.unusedVariables false

theorem lim_norm (u : U) : LimU (normB u) := by
  cases h : okB u
  · have : normB u = noU := by unfold normB; rw [h]; rfl
    rw [this]; exact ⟨by decide, by decide, by decide, by decide⟩
  · exact limU_ok (norm_ok h)
set_option maxRecDepth 100000 in
theorem key_of (u : U) (w : World) (hg : GX w) (hl : LimU u) : Calls Tryz.prog 25 #[uV u] w (Ret w (.string ⟨(keyB u).toArray⟩)) := by
  have HG := Lib.hid hg
  have HL := Lib.hid hl
  have HK := Lib.hid (show putB (normB u) = keyB u from rfl)
  have HLN := Lib.hid (lim_norm u)
  have HB := Lib.hid (ubx_new w u)
  have HW := Lib.hid ((Below.refl w.heap.size w).alloc (Nat.le_refl _) (uObj u))
  obtain ⟨c0, c1, c2, c3, c4, c5⟩ := HB.out.cells
  clear hg hl
  go_enter Tryz.func25, Tryz.ntmps25
  go_wp2_with fail
  generalize w.alloc (.cells #[.string ⟨u.scheme.toArray⟩, .string ⟨u.host.toArray⟩, .int .i64 u.port, .string ⟨u.path.toArray⟩, .string ⟨u.query.toArray⟩, .bool u.hq] 23) = W at *
  refine (uri_Normal u W (HG.out.next HW.out) HL.out).mono ?_
  rintro e w1 ⟨rfl, hb1⟩
  have HW1 := Lib.hid (HW.out.trans (hb1.mono HW.out.size))
  clear hb1 c0 c1 c2 c3 c4 c5
  generalize normB u = n at *
  go_wp2_with fail
  refine (uri_Put n w1 (HG.out.next HW1.out) HLN.out).mono ?_
  rintro e w2 ⟨rfl, hb2⟩
  have HW2 := Lib.hid (HW1.out.trans (hb2.mono HW1.out.size))
  rw [HK.out]
  clear hb2
  go_wp2_with fail
  go_ret
  exact ⟨rfl, HW2.out⟩
/-- Whose an address is, as a value. -/
abbrev whoV (o : Bs × Bs × Int) : Value := .agg #[.string ⟨o.1.toArray⟩, .string ⟨o.2.1.toArray⟩, .int .i64 o.2.2]
def OBx (W : World) (b : Nat) (o : Bs × Bs × Int) : Prop := W.heap[b]? = some (.cells #[.string ⟨o.1.toArray⟩, .string ⟨o.2.1.toArray⟩, .int .i64 o.2.2] 53)
set_option maxRecDepth 100000 in
theorem key_whose (u : U) (w : World) (hg : GX w) (hl : LimU u) : Calls Tryz.prog 29 #[uV u] w (Ret w (whoV (whoB u))) := by
  have HG := Lib.hid hg
  have HL := Lib.hid hl
  have HK := Lib.hid (show whoB u = ((normB u).scheme, (normB u).host, (normB u).port) from rfl)
  have HT := Lib.hid (two_new w (uObj u) (.cells #[.string ⟨#[]⟩, .string ⟨#[]⟩, .int .i64 0] 53))
  have HB := Lib.hid (show UBx ((w.alloc (.cells #[.string ⟨u.scheme.toArray⟩, .string ⟨u.host.toArray⟩, .int .i64 u.port, .string ⟨u.path.toArray⟩, .string ⟨u.query.toArray⟩, .bool u.hq] 23)).alloc (.cells #[.string ⟨#[]⟩, .string ⟨#[]⟩, .int .i64 0] 53)) w.heap.size u from HT.out.b1)
  have HO := Lib.hid (show OBx ((w.alloc (.cells #[.string ⟨u.scheme.toArray⟩, .string ⟨u.host.toArray⟩, .int .i64 u.port, .string ⟨u.path.toArray⟩, .string ⟨u.query.toArray⟩, .bool u.hq] 23)).alloc (.cells #[.string ⟨#[]⟩, .string ⟨#[]⟩, .int .i64 0] 53)) (w.heap.size + 1) ([], [], 0) from HT.out.b2)
  have HW := Lib.hid (show Below w.heap.size w ((w.alloc (.cells #[.string ⟨u.scheme.toArray⟩, .string ⟨u.host.toArray⟩, .int .i64 u.port, .string ⟨u.path.toArray⟩, .string ⟨u.query.toArray⟩, .bool u.hq] 23)).alloc (.cells #[.string ⟨#[]⟩, .string ⟨#[]⟩, .int .i64 0] 53)) from HT.out.below)
  obtain ⟨c0, c1, c2, c3, c4, c5⟩ := HB.out.cells
  clear hg hl HT
  go_enter Tryz.func29, Tryz.ntmps29
  go_wp2_with fail
  generalize (w.alloc (.cells #[.string ⟨u.scheme.toArray⟩, .string ⟨u.host.toArray⟩, .int .i64 u.port, .string ⟨u.path.toArray⟩, .string ⟨u.query.toArray⟩, .bool u.hq] 23)).alloc (.cells #[.string ⟨#[]⟩, .string ⟨#[]⟩, .int .i64 0] 53) = W at *
  refine (uri_Normal u W (HG.out.next HW.out) HL.out).mono ?_
  rintro e w1 ⟨rfl, hb1⟩
  have HW1 := Lib.hid (HW.out.trans (hb1.mono HW.out.size))
  have HO1 := Lib.hid (show OBx w1 (w.heap.size + 1) ([], [], 0) from (hb1.block _ (Array.getElem?_eq_some_iff.1 HO.out).1).trans HO.out)
  clear hb1 c0 c1 c2 c3 c4 c5
  generalize normB u = n at *
  have HB2 := Lib.hid (show UBx (w1.alloc (.cells #[.string ⟨n.scheme.toArray⟩, .string ⟨n.host.toArray⟩, .int .i64 n.port, .string ⟨n.path.toArray⟩, .string ⟨n.query.toArray⟩, .bool n.hq] 23)) w1.heap.size n from ubx_new w1 n)
  have HO2 := Lib.hid (show OBx (w1.alloc (.cells #[.string ⟨n.scheme.toArray⟩, .string ⟨n.host.toArray⟩, .int .i64 n.port, .string ⟨n.path.toArray⟩, .string ⟨n.query.toArray⟩, .bool n.hq] 23)) (w.heap.size + 1) ([], [], 0) from (((Below.refl w1.heap.size w1).alloc (Nat.le_refl _) (uObj n)).block _ (Array.getElem?_eq_some_iff.1 HO1.out).1).trans HO1.out)
  have HW2 := Lib.hid (show Below w.heap.size w (w1.alloc (.cells #[.string ⟨n.scheme.toArray⟩, .string ⟨n.host.toArray⟩, .int .i64 n.port, .string ⟨n.path.toArray⟩, .string ⟨n.query.toArray⟩, .bool n.hq] 23)) from HW1.out.alloc HW1.out.size _)
  go_upto_region 2 with fail
  generalize w1.alloc (.cells #[.string ⟨n.scheme.toArray⟩, .string ⟨n.host.toArray⟩, .int .i64 n.port, .string ⟨n.path.toArray⟩, .string ⟨n.query.toArray⟩, .bool n.hq] 23) = W2 at *
  generalize w1.heap.size = b2 at *
  obtain ⟨c0, c1, c2, c3, c4, c5⟩ := HB2.out.cells
  have o0 := cell_of_row W2 _ 0 _ _ _ HO2.out
  have o1 := cell_of_row W2 _ 1 _ _ _ HO2.out
  have o2 := cell_of_row W2 _ 2 _ _ _ HO2.out
  have f0 := frozen_of_row W2 _ 0 _ _ HO2.out
  have f1 := frozen_of_row W2 _ 1 _ _ HO2.out
  have f2 := frozen_of_row W2 _ 2 _ _ HO2.out
  have HR := Lib.hid (row_set (j := 2) (v := .int .i64 n.port) (row_set (j := 1) (v := .string ⟨n.host.toArray⟩) (row_set (j := 0) (v := .string ⟨n.scheme.toArray⟩) HO2.out)))
  have HWZ := Lib.hid (show Below w.heap.size w (((W2.setCell ⟨w.heap.size + 1, 0, none⟩ (.string ⟨n.scheme.toArray⟩)).setCell ⟨w.heap.size + 1, 1, none⟩ (.string ⟨n.host.toArray⟩)).setCell ⟨w.heap.size + 1, 2, none⟩ (.int .i64 n.port)) from
    ((HW2.out.setCell (p := ⟨w.heap.size + 1, 0, none⟩) (Nat.le_succ _) _).setCell (p := ⟨w.heap.size + 1, 1, none⟩) (Nat.le_succ _) _).setCell (p := ⟨w.heap.size + 1, 2, none⟩) (Nat.le_succ _) _)
  go_wp2_with fail
  clear o0 o1 o2 f0 f1 f2 c0 c1 c2 c3 c4 c5
  have k0 := cell_of_row _ _ 0 _ _ _ HR.out
  have k1 := cell_of_row _ _ 1 _ _ _ HR.out
  have k2 := cell_of_row _ _ 2 _ _ _ HR.out
  refine bodyPost_ret (v := whoV (n.scheme, n.host, n.port)) ?_ rfl ⟨by rw [HK.out], HWZ.out⟩
  simp [results, Tryz.f29, go_sem, k0, k1, k2]
end Go.Proofs.YtmkpejioinkceaaGreatDoor

namespace Go.Proofs.YtmkpejioinkceaaGreatDoor
open Go.RowKit
set_option linter.unusedVariables false

/-- The key of an address for a method. -/
def keyOfB (m : Bs) (u : U) : Bs := bif m == [71, 69, 84] || m == [72, 69, 65, 68] then keyB u else []
/-- May a method change something? -/
def unsafeB (m : Bs) : Bool := m == [80, 79, 83, 84] || m == [80, 85, 84] || m == [68, 69, 76, 69, 84, 69] || m == [80, 65, 84, 67, 72]
theorem keyOf_no {m : Bs} {u : U} (h1 : ¬ m = [71, 69, 84]) (h2 : ¬ m = [72, 69, 65, 68]) : keyOfB m u = [] := by
  unfold keyOfB
  rw [beq_eq_false_iff_ne.2 h1, beq_eq_false_iff_ne.2 h2]; rfl
set_option maxRecDepth 100000 in
theorem key_Of (m : Bs) (u : U) (w : World) (hg : GX w) (hl : LimU u) : Calls Tryz.prog 10 #[.string ⟨m.toArray⟩, uV u] w (Ret w (.string ⟨(keyOfB m u).toArray⟩)) := by
  have HG := Lib.hid hg
  have HL := Lib.hid hl
  have HB := Lib.hid (ubx_new w u)
  have HW := Lib.hid ((Below.refl w.heap.size w).alloc (Nat.le_refl _) (uObj u))
  obtain ⟨c0, c1, c2, c3, c4, c5⟩ := HB.out.cells
  clear hg hl
  rcases Decidable.em (m = [71, 69, 84]) with rfl | h1
  · have HE := Lib.hid (show keyOfB [71, 69, 84] u = keyB u from rfl)
    go_enter Tryz.func10, Tryz.ntmps10
    go_wp2_with fail
    refine (key_of u _ (HG.out.next HW.out) HL.out).mono ?_
    rintro e w1 ⟨rfl, hb1⟩
    have HW1 := Lib.hid (HW.out.trans (hb1.mono HW.out.size))
    clear hb1 c0 c1 c2 c3 c4 c5
    go_wp2_with fail
    go_ret
    exact ⟨by rw [HE.out]; try rfl, HW1.out⟩
  · rcases Decidable.em (m = [72, 69, 65, 68]) with rfl | h2
    · have HE := Lib.hid (show keyOfB [72, 69, 65, 68] u = keyB u from rfl)
      clear h1
      go_enter Tryz.func10, Tryz.ntmps10
      go_wp2_with fail
      refine (key_of u _ (HG.out.next HW.out) HL.out).mono ?_
      rintro e w1 ⟨rfl, hb1⟩
      have HW1 := Lib.hid (HW.out.trans (hb1.mono HW.out.size))
      clear hb1 c0 c1 c2 c3 c4 c5
      go_wp2_with fail
      go_ret
      exact ⟨by rw [HE.out]; try rfl, HW1.out⟩
    · have HE := Lib.hid (keyOf_no (u := u) h1 h2)
      have q1 : (m == [71, 69, 84]) = false := beq_eq_false_iff_ne.2 h1
      have q2 : (m == [72, 69, 65, 68]) = false := beq_eq_false_iff_ne.2 h2
      clear h1 h2
      go_enter Tryz.func10, Tryz.ntmps10
      go_wp2_with fail
      go_ret
      exact ⟨by rw [HE.out]; try rfl, HW.out⟩
theorem unsafe_iff (m : Bs) : Lib.containsS ([⟨#[80, 79, 83, 84]⟩, ⟨#[80, 85, 84]⟩, ⟨#[68, 69, 76, 69, 84, 69]⟩, ⟨#[80, 65, 84, 67, 72]⟩].take 4) ⟨m.toArray⟩ = unsafeB m := by
  have key : ∀ l : Bs, ((⟨m.toArray⟩ : ByteArray) = ⟨l.toArray⟩) = (m = l) := fun l => by
    apply propext
    constructor
    · intro h
      have := congrArg (fun b : ByteArray => b.data.toList) h
      simpa using this
    · rintro rfl; rfl
  rw [Bool.eq_iff_iff, Lib.containsS_iff]
  unfold unsafeB
  simp only [List.take, List.mem_cons, List.not_mem_nil, or_false, Bool.or_eq_true, beq_iff_eq]
  rw [key [80, 79, 83, 84], key [80, 85, 84], key [68, 69, 76, 69, 84, 69], key [80, 65, 84, 67, 72]]
  simp only [or_assoc]
set_option maxRecDepth 100000 in
theorem key_Unsafe (m : Bs) (w : World) : Calls Tryz.prog 12 #[.string ⟨m.toArray⟩] w (Ret w (.bool (unsafeB m))) := by
  have HU := Lib.hid (unsafe_iff m)
  have hn := heap_alloc_new w (.cells #[.string ⟨#[80, 79, 83, 84]⟩, .string ⟨#[80, 85, 84]⟩, .string ⟨#[68, 69, 76, 69, 84, 69]⟩, .string ⟨#[80, 65, 84, 67, 72]⟩] 9)
  have HN := Lib.hid hn
  have HW := Lib.hid ((Below.refl w.heap.size w).alloc (Nat.le_refl _) (.cells #[.string ⟨#[80, 79, 83, 84]⟩, .string ⟨#[80, 85, 84]⟩, .string ⟨#[68, 69, 76, 69, 84, 69]⟩, .string ⟨#[80, 65, 84, 67, 72]⟩] 9))
  clear hn
  go_enter Tryz.func12, Tryz.ntmps12
  go_wp2_with fail
  generalize w.alloc (.cells #[.string ⟨#[80, 79, 83, 84]⟩, .string ⟨#[80, 85, 84]⟩, .string ⟨#[68, 69, 76, 69, 84, 69]⟩, .string ⟨#[80, 65, 84, 67, 72]⟩] 9) = W at *
  refine (Tryz.slices_Contains_string w.heap.size 0 4 4 [⟨#[80, 79, 83, 84]⟩, ⟨#[80, 85, 84]⟩, ⟨#[68, 69, 76, 69, 84, 69]⟩, ⟨#[80, 65, 84, 67, 72]⟩] ⟨m.toArray⟩ W (by decide) (by decide) ?_).mono ?_
  · intro j hj
    match j, hj with
    | 0, _ => exact cell_of_row _ _ _ _ _ _ HN.out
    | 1, _ => exact cell_of_row _ _ _ _ _ _ HN.out
    | 2, _ => exact cell_of_row _ _ _ _ _ _ HN.out
    | 3, _ => exact cell_of_row _ _ _ _ _ _ HN.out
    | j + 4, h => simp at h; omega
  · rintro e w1 ⟨rfl, rfl⟩
    rw [HU.out]
    go_wp2_with fail
    go_ret
    exact ⟨rfl, HW.out⟩
end Go.Proofs.YtmkpejioinkceaaGreatDoor
