/- A statement whose order is open, and which one operation ends: all but that one hand back one value each in every world of a class; the last one is run behind them. The walks of the parser's small methods: fail, rest, is, deeper. The walks of the parser's is and deeper, and of rest where something is wrong. -/
import Derived.Deep.Quiet
import Derived.StillTail
import Derived.KernelRfl
import Derived.Test.YtbkhmkpbbggcbaaGreatDoorKTestMem
namespace Go.Proofs.YtbkhmkpbbggcbaaGreatDoor
set_option linter.unusedVariables false
section
variable {P : Program} {ops : Array Oper} {md : Region.Mode} {C : World → Prop} {n : Nat} {T : Act → Prop}
def lastUp (md : Region.Mode) (ops : Array Oper) (n : Nat) (listed : Array Bool) : Prop := Region.ready md ops listed = [n] ∧ Region.ready md ops (listed.setIfInBounds n true) = []
def headAny (P : Program) (md : Region.Mode) (ops : Array Oper) (C : World → Prop) (n : Nat) (T : Act → Prop) : Nat → Array Bool → Act → Prop
  | 0, listed, a => lastUp md ops n listed ∧ T a
  | f + 1, listed, a => n ∉ Region.ready md ops listed ∧ Region.ready md ops listed ≠ [] ∧ ∀ i ∈ Region.ready md ops listed, qOp P ops C i (headAny P md ops C n T f (listed.setIfInBounds i true)) a
theorem any_of_head {Q : Exit → Act → World → Prop} (hT : ∀ a w, T a → C w → wpOp P ops Q n (fun a' w' => Q .normal a' w') a w) : ∀ (f : Nat) (listed : Array Bool) (a : Act) (w : World), C w → headAny P md ops C n T f listed a → wpAny P md ops Q (f + 1) listed a w
  | 0, listed, a, w, hw, h => by
    refine ⟨fun h0 => (by rw [h.1.1] at h0; cases h0), fun i hi => ?_⟩
    rw [h.1.1] at hi
    obtain rfl : i = n := by simpa using hi
    exact wpOp_mono (fun a' w' hq => ⟨h.1.2, hq⟩) (hT a w h.2 hw)
  | f + 1, listed, a, w, hw, h =>
    ⟨fun h0 => absurd h0 h.2.1, fun i hi => wpOp_of_qOp hw (fun a' w' hw' hk => any_of_head hT f _ a' w' hw' hk) (h.2.2 i hi)⟩
def Shut2 (md : Region.Mode) (ops : Array Oper) (listed : Array Bool) : Prop := ∀ j oj, ops[j]? = some oj → listed.getD j false = true → ∀ e ∈ oj.after, Region.binds md e = true → listed.getD e.on false = true
theorem Shut2.set {listed : Array Bool} {i : Nat} (h : Shut2 md ops listed) (hi : i ∈ Region.ready md ops listed) : Shut2 md ops (listed.setIfInBounds i true) := by
  obtain ⟨_, oi, hoi, hall⟩ := mem_ready.1 hi
  intro j oj hj hl e he hb
  by_cases hij : i = j
  · subst hij
    obtain rfl : oj = oi := Option.some.inj (hj.symm.trans hoi)
    exact getD_set_true (hall e he hb)
  · rw [getD_set_ne false hij] at hl
    exact getD_set_true (h j oj hj hl e he hb)
theorem getD_up {listed : Array Bool} {j : Nat} (h : listed.getD j false = true) : listed.getD j true = true := by
  by_cases h3 : j < listed.size
  · simp [h3] at h ⊢; exact h
  · simp [Array.getElem?_eq_none (Nat.le_of_not_lt h3)] at h
theorem last_spec (hs : Region.sinkB md ops n = true) {listed : Array Bool} (hc : Shut2 md ops listed) (hn : n ∈ Region.ready md ops listed) : ∀ (d j : Nat), n - j = d → j < n → listed.getD j false = true := by
  obtain ⟨_, on, hon, hall⟩ := mem_ready.1 hn
  intro d
  induction d using Nat.strongRecOn with
  | _ d ih =>
    intro j hd hj
    unfold Region.sinkB at hs
    have h1 := List.all_eq_true.1 hs j (List.mem_range.2 hj)
    obtain ⟨k, hk, h2⟩ := List.any_eq_true.1 h1
    rw [Bool.and_eq_true, decide_eq_true_eq] at h2
    have hkn : k < n + 1 := List.mem_range.1 hk
    obtain ⟨ok, hok, e, he, hb, heq⟩ := Region.waitsFor_spec h2.2
    rcases Nat.lt_or_ge k n with hlt | hge
    · have := hc k ok hok (ih (n - k) (by omega) k rfl hlt) e he hb
      rw [heq] at this; exact this
    · obtain rfl : k = n := by omega
      obtain rfl : ok = on := Option.some.inj (hok.symm.trans hon)
      have := hall e he hb
      rw [heq] at this; exact this
theorem head_first {i : Nat} {oi : Oper} {v : Value} (hi : ops[i]? = some oi) (hsel : ∀ (j : Nat) (o : Oper) cs b, ops[j]? = some o → o.op ≠ .select cs b) (hin : i < n)
    (hlast : Region.sinkB md ops n = true) :
    ∀ (f : Nat) (listed : Array Bool) (a : Act), Shut2 md ops listed →
      (∀ j oj, ops[j]? = some oj → j ≠ i → listed.getD j true = false → (∀ e ∈ oj.after, Region.binds md e = true → e.on ≠ i) → oi.apart ops oj = true) →
      i ∈ Region.ready md ops listed → YieldsIn P ops C oi v a →
      headAny P md ops C n T f (listed.setIfInBounds i true) (a.put oi.dst v) → headAny P md ops C n T (f + 1) listed a := by
  have hout : ∀ listed, Shut2 md ops listed → i ∈ Region.ready md ops listed → n ∉ Region.ready md ops listed := fun listed hc hr hn => by
    have h1 := getD_up (last_spec hlast hc hn _ i rfl hin)
    rw [(mem_ready.1 hr).1] at h1; cases h1
  intro f
  induction f with
  | zero =>
    intro listed a hc _ hr hy H
    refine ⟨hout listed hc hr, fun h => (by rw [h] at hr; cases hr), fun j hj => ?_⟩
    by_cases hji : j = i
    · subst hji; exact hy.qOp hi H
    · have hm := ready_mono hj hji
      rw [H.1.1] at hm
      obtain rfl : j = n := by simpa using hm
      exact absurd hj (hout listed hc hr)
  | succ f ih =>
    intro listed a hc hfree hr hy H
    refine ⟨hout listed hc hr, fun h => (by rw [h] at hr; cases hr), fun j hj => ?_⟩
    by_cases hji : j = i
    · subst hji; exact hy.qOp hi H
    · have h1 := H.2.2 j (ready_mono hj hji)
      obtain ⟨hjun, oj, hoj, hall⟩ := mem_ready.1 hj
      have hun := (mem_ready.1 hr).1
      have hnot : ∀ e ∈ oj.after, Region.binds md e = true → e.on ≠ i := fun e he hb heq => by
        have h2 := hall e he hb
        rw [heq] at h2
        by_cases h3 : i < listed.size
        · simp [h3] at hun h2; rw [hun] at h2; cases h2
        · simp [Array.getElem?_eq_none (Nat.le_of_not_lt h3)] at h2
      have h2 := qOp_put hoj (hfree j oj hoj hji hjun hnot) (fun cs b => hsel i oi cs b hi) (fun cs b => hsel j oj cs b hoj) hy h1
      refine qOp_mono (fun a' h3 => ih (listed.setIfInBounds j true) a' (hc.set hj) (fun k ok hk hki hku hno => hfree k ok hk hki ?_ hno) (ready_mono hr (Ne.symm hji)) h3.1 ?_) h2
      · by_cases hjk : j = k
        · subst hjk; exact hjun
        · rw [getD_set_ne true hjk] at hku; exact hku
      · rw [Array.setIfInBounds_comm _ _ hji]; exact h3.2
def lexLast (md : Region.Mode) (ops : Array Oper) (n : Nat) : Nat → Nat → Array Bool → Bool
  | 0, _, listed => decide (Region.ready md ops listed = [n]) && decide (Region.ready md ops (listed.setIfInBounds n true) = [])
  | f + 1, k, listed => (Region.ready md ops listed).contains k && Region.free md ops listed k && decide (k < n) && lexLast md ops n f (k + 1) (listed.setIfInBounds k true)
theorem head_lex (hs : Region.noSelect ops = true) (hl : Region.sinkB md ops n = true) : ∀ (l : List Oper) (k : Nat) (listed : Array Bool) (a : Act), Shut2 md ops listed → (∀ j, j < l.length → l[j]? = ops[k + j]?) →
    lexLast md ops n l.length k listed = true → wpQuiet P ops C T l a → headAny P md ops C n T l.length listed a
  | [], _, listed, a, _, _, hB, h => by
    simp only [List.length_nil, lexLast, Bool.and_eq_true, decide_eq_true_eq] at hB
    exact ⟨⟨hB.1, hB.2⟩, h⟩
  | o :: l, k, listed, a, hc, hop, hB, h => by
    have h0 : ops[k]? = some o := by have := hop 0 (by simp); simpa using this.symm
    simp only [List.length_cons, lexLast, Bool.and_eq_true, decide_eq_true_eq] at hB
    obtain ⟨⟨⟨hr, hf⟩, hkn⟩, hB'⟩ := hB
    have hst : qOp P ops C k (wpQuiet P ops C T l) a := by unfold qOp; simp only [h0]; exact h
    obtain ⟨v, hy, hK⟩ := yieldsIn_of_qOp h0 hst
    exact head_first h0 (Region.noSelect_spec hs) hkn hl l.length listed a hc (Region.free_spec h0 hf) (by simpa using hr) hy
      (head_lex hs hl l (k + 1) _ _ (hc.set (by simpa using hr)) (fun j hj => by have := hop (j + 1) (by simpa using hj); simpa [Nat.add_assoc, Nat.add_comm 1 j] using this) hB' hK)
theorem wp_region_last {id : Nat} {Q : Exit → Act → World → Prop} {a : Act} {w : World} {l : List Oper} {o : Oper} (hm : P.follows .mixedOrders = true) (C : World → Prop) (hC : C w.drew)
    (hs : Region.noSelect (l ++ [o]).toArray = true) (hw : Region.sinkB .any (l ++ [o]).toArray l.length = true) (hB : lexLast .any (l ++ [o]).toArray l.length l.length 0 (Array.replicate (l ++ [o]).toArray.size false) = true)
    (h : wpQuiet P (l ++ [o]).toArray C (fun a' => ∀ w', C w' → if Region.wanted o (yielded (l ++ [o]).toArray a'.tmps) = true then Oper.wp P o a' w' (fun a'' w'' => Q .normal a'' w'') Q else Q .normal (a'.put o.dst undef) w') l a) : (Code.region id (l ++ [o]).toArray true).wp P Q a w := by
  refine wp_region_any hm ?_
  have hsz : (l ++ [o]).toArray.size = l.length + 1 := by simp
  rw [hsz] at hB ⊢
  refine any_of_head (C := C) (n := l.length) (fun a' w' hT hw' => ?_) l.length _ a _ hC (head_lex hs hw l 0 _ a (fun j oj _ hl9 => by rw [getD_replicate_false] at hl9; cases hl9) (fun j hj => by simp [List.getElem?_append_left hj]) hB h)
  have := hT w' hw'
  have ho : (l ++ [o]).toArray[l.length]? = some o := by simp
  unfold wpOp
  simp only [ho]
  by_cases hwt : Region.wanted o (yielded (l ++ [o]).toArray a'.tmps) = true
  · rw [if_pos hwt] at this ⊢; exact .inl this
  · rw [if_neg hwt] at this ⊢; exact this
theorem wp_region_last_lit {id : Nat} {Q : Exit → Act → World → Prop} {a : Act} {w : World} {L : List Oper} {o : Oper} {β : Type} (n : Nat) (f : β → World) (b0 : β) (hb0 : w.drew = f b0) (hm : P.follows .mixedOrders = true)
    (hn : (L.take n).length = n) (hd : L.drop n = [o]) (hs : Region.noSelect L.toArray = true) (hw : Region.sinkB .any L.toArray n = true) (hB : lexLast .any L.toArray n n 0 (Array.replicate L.toArray.size false) = true)
    (h : wpQuiet P L.toArray (fun w' => ∃ b, w' = f b) (fun a' => ∀ w', (∃ b, w' = f b) → if Region.wanted o (yielded L.toArray a'.tmps) = true then Oper.wp P o a' w' (fun a'' w'' => Q .normal a'' w'') Q else Q .normal (a'.put o.dst undef) w') (L.take n) a) : (Code.region id L.toArray true).wp P Q a w := by
  have hL : L = L.take n ++ [o] := by rw [← hd, List.take_append_drop]
  generalize L.take n = l at *
  subst hL
  subst hn
  exact wp_region_last hm (fun w' => ∃ b, w' = f b) ⟨b0, hb0⟩ hs hw hB h
end
end Go.Proofs.YtbkhmkpbbggcbaaGreatDoor
namespace Go.Proofs.YtbkhmkpbbggcbaaGreatDoor
open Go.RowKit
set_option linter.unusedVariables false
set_option maxRecDepth 100000 in
theorem ps_fail (w : World) (p : Nat) (s : Bs) (i op : Nat) (bad e0 : Int) (h : PB w p s i op bad) :
    Calls Tryz.prog 31 #[.pointer (some ⟨p, 0, none⟩), .int .i64 e0] w fun e w' => e = .returned (.tuple #[]) ∧ PB w' p s i op (if bad = 0 then e0 else bad) ∧ Turn p w w' := by
  have HB := Lib.hid h
  obtain ⟨-, -, -, c3, -, -, -, f3⟩ := h.pc
  clear h
  rcases Decidable.em (bad = 0) with rfl | hb
  · go_enter Tryz.func31, Tryz.ntmps31
    go_wp2_with fail
    go_end0
    exact ⟨rfl, HB.out.set3 e0, (Turn.refl p w).set⟩
  · have q : (bad == 0) = false := beq_eq_false_iff_ne.2 hb
    have HN := Lib.hid hb
    clear hb
    go_enter Tryz.func31, Tryz.ntmps31
    go_wp2_with fail
    go_end0
    exact ⟨rfl, HB.out, Turn.refl p w⟩
theorem trim_asc : ∀ (j : Nat) (b : UInt8), (⟨#[32, 9, 10, 13]⟩ : ByteArray).data.toList[j]? = some b → b.toNat < 128 := by
  intro j b h
  have : b ∈ ([32, 9, 10, 13] : Bs) := List.mem_of_getElem? h
  simp only [List.mem_cons, List.not_mem_nil, or_false] at this
  rcases this with rfl | rfl | rfl | rfl <;> decide
theorem blk_trim (d : Bs) : Lib.trimLeftS (⟨d.toArray⟩ : ByteArray).data.toList (⟨#[32, 9, 10, 13]⟩ : ByteArray).data.toList = d.dropWhile blk := trimSet d blkSet blk blkSet_eq
structure PW (w : World) (p : Nat) (s : Bs) (i op : Nat) where
  val : World
  pb : PB val p s i op 0
  turn : Turn p w val
theorem rest_nums (s : Bs) {i : Nat} (hi : i ≤ s.length) : ∃ (d r : Bs) (n : Nat), (⟨s.toArray⟩ : ByteArray).extract i s.length = ⟨d.toArray⟩ ∧ d.length + i = s.length ∧ d.dropWhile blk = r ∧ rs s i = r ∧ r.length ≤ d.length ∧ pa s i = n ∧ (i : Int) + ((d.length : Int) - (r.length : Int)) = (n : Int) := by
  refine ⟨s.drop i, rs s i, pa s i, exl_drop s i s.length (Nat.le_refl _), by rw [List.length_drop]; omega, rfl, rfl, ?_, rfl, ?_⟩
  · exact dropWhile_len blk (s.drop i)
  · have h1 := rs_len s hi
    have h2 := pa_le s i
    have h3 := pa_ge s hi
    rw [List.length_drop]; omega
set_option maxRecDepth 100000 in
set_option maxHeartbeats 4000000 in
theorem ps_rest_ok (w : World) (p : Nat) (s : Bs) (i op : Nat) (hi : i ≤ s.length) (hs : s.length ≤ 100000) (h : PB w p s i op 0) :
    Calls Tryz.prog 30 #[.pointer (some ⟨p, 0, none⟩)] w fun e w' => e = .returned (.string ⟨(rs s i).toArray⟩) ∧ PB w' p s (pa s i) op 0 ∧ Turn p w w' := by
  have HB := Lib.hid (show PB w.drew p s i op 0 from h)
  obtain ⟨c0, c1, -, c3, -, f1, -, -⟩ := h.pc
  have g0 : w.drew.cell? ⟨p, 0, none⟩ = some (.string ⟨s.toArray⟩) := c0
  have g1 : w.drew.cell? ⟨p, 1, none⟩ = some (.int .i64 (i : Int)) := c1
  obtain ⟨d, r, n, hx, hd, hdr, hrs, hrl, hpa, hsum⟩ := rest_nums s hi
  have HDR := Lib.hid hdr
  have HRS := Lib.hid hrs
  have HPA := Lib.hid hpa
  have i0 : (0 : Int) ≤ (i : Int) := by omega
  have i1 : (i : Int) ≤ (s.length : Int) := by omega
  have w1 : IntKind.i64.wrap ((d.length : Int) - (r.length : Int)) = (d.length : Int) - (r.length : Int) := IntWalk.i64_in _ (by omega)
  have w2 : IntKind.i64.wrap ((i : Int) + ((d.length : Int) - (r.length : Int))) = (n : Int) := by rw [hsum]; exact IntWalk.i64_in _ (by omega)
  clear h hdr hrs hpa hsum
  go_enter Tryz.func30, Tryz.ntmps30
  go_wp2_with fail
  have k0 : ∀ W : PW w p s i op, W.val.cell? ⟨p, 0, none⟩ = some (.string ⟨s.toArray⟩) := fun W => W.pb.pc.c0
  have k1 : ∀ W : PW w p s i op, W.val.cell? ⟨p, 1, none⟩ = some (.int .i64 (i : Int)) := fun W => W.pb.pc.c1
  have k2 : ∀ W : PW w p s i op, W.val.frozen? ⟨p, 1, none⟩ = false := fun W => W.pb.pc.f1
  haveI : Nonempty (PW w p s i op) := ⟨⟨w.drew, HB.out, ⟨rfl, rfl, rfl, Nat.le_refl _, fun _ _ _ => rfl⟩⟩⟩
  clear c0 c1 c3 f1 g0 g1
  refine wp_region_last_lit 29 (fun W : PW w p s i op => W.val) ⟨w.drew, HB.out, ⟨rfl, rfl, rfl, Nat.le_refl _, fun _ _ _ => rfl⟩⟩ rfl (by kernel_rfl) (by rfl) (by rfl) (by kernel_rfl) (by kernel_rfl) (by kernel_rfl) ?_
  simp only [List.take_succ_cons, List.take_zero]
  repeat (quiet_step ((go_at_call 40; refine (lib_TrimLeft ⟨d.toArray⟩ ⟨#[32, 9, 10, 13]⟩ _ (by decide) trim_asc).mono ?_; rintro e v1 ⟨rfl, hb1⟩; rw [blk_trim, HDR.out]; exact ⟨rfl, ⟨v1, PB.next (PW.pb _) hb1, (PW.turn _).trans (Turn.of_below hb1)⟩, rfl⟩)))
  refine wpQuiet_nil ?_
  rintro w' ⟨W, rfl⟩
  rw [if_pos (by rfl)]
  have HB2 := Lib.hid (W.pb.set1 n)
  have HT2 := Lib.hid (show Turn p w (W.val.setCell ⟨p, 1, none⟩ (.int .i64 (n : Int))) from W.turn.set)
  have hn1 : n ≤ s.length := by rw [← HPA.out]; exact pa_le s i
  have hdn : s.drop n = r := by rw [← HPA.out, drop_pa s hi, HRS.out]
  have hx2 := exl_drop s n s.length (Nat.le_refl _)
  rw [hdn] at hx2
  have n0 : (0 : Int) ≤ (n : Int) := by omega
  have n1 : (n : Int) ≤ (s.length : Int) := by omega
  clear w1 w2 hdn hx
  go_simp
  generalize W.val.setCell ⟨p, 1, none⟩ (.int .i64 (n : Int)) = W2 at *
  clear k0 k1 k2
  obtain ⟨c0, c1, -, -, -, -, -, -⟩ := HB2.out.pc
  go_wp2_with fail
  go_quiet (fail)
  go_wp2_with fail
  go_ret
  exact ⟨by rw [HRS.out]; rfl, by rw [HPA.out]; exact HB2.out, ⟨HT2.out.os, HT2.out.tape, HT2.out.output, HT2.out.size, HT2.out.block⟩⟩
end Go.Proofs.YtbkhmkpbbggcbaaGreatDoor
namespace Go.Proofs.YtbkhmkpbbggcbaaGreatDoor
open Go.RowKit
set_option linter.unusedVariables false
set_option maxRecDepth 100000 in
theorem ps_rest_bad (w : World) (p : Nat) (s : Bs) (i op : Nat) (bad : Int) (hi : i ≤ s.length) (hs : s.length ≤ 100000) (hb : bad ≠ 0) (h : PB w p s i op bad) :
    Calls Tryz.prog 30 #[.pointer (some ⟨p, 0, none⟩)] w fun e w' => e = .returned (.string ⟨(s.drop i).toArray⟩) ∧ PB w' p s i op bad ∧ Turn p w w' := by
  have HB := Lib.hid h
  obtain ⟨c0, c1, -, c3, -, -, -, -⟩ := h.pc
  have q : (bad == 0) = false := beq_eq_false_iff_ne.2 hb
  have hx := exl_drop s i s.length (Nat.le_refl _)
  have i0 : (0 : Int) ≤ (i : Int) := by omega
  have i1 : (i : Int) ≤ (s.length : Int) := by omega
  clear h hb
  go_enter Tryz.func30, Tryz.ntmps30
  go_wp2_with fail
  go_quiet (fail)
  go_wp2_with fail
  go_ret
  exact ⟨rfl, HB.out, ⟨rfl, rfl, rfl, Nat.le_refl _, fun _ _ _ => rfl⟩⟩
set_option maxRecDepth 100000 in
theorem ps_is_bad (w : World) (p : Nat) (s : Bs) (i op : Nat) (bad : Int) (t : ByteArray) (hb : bad ≠ 0) (h : PB w p s i op bad) :
    Calls Tryz.prog 59 #[.pointer (some ⟨p, 0, none⟩), .string t] w fun e w' => e = .returned (.bool false) ∧ PB w' p s i op bad ∧ Turn p w w' := by
  have HB := Lib.hid h
  obtain ⟨-, -, -, c3, -, -, -, -⟩ := h.pc
  have q : (bad == 0) = false := beq_eq_false_iff_ne.2 hb
  have q2 : (bad != 0) = true := by rw [bne, q]; rfl
  clear h hb
  go_enter Tryz.func59, Tryz.ntmps59
  go_wp2_with fail
  go_ret
  exact ⟨rfl, HB.out, Turn.refl p w⟩
set_option maxRecDepth 100000 in
theorem ps_is_ok (w : World) (p : Nat) (s : Bs) (i op : Nat) (t : Bs) (hi : i ≤ s.length) (hs : s.length ≤ 100000) (ht : t.length ≤ 100) (h : PB w p s i op 0) :
    Calls Tryz.prog 59 #[.pointer (some ⟨p, 0, none⟩), .string ⟨t.toArray⟩] w fun e w' => e = .returned (.bool (Lib.hasPrefix (rs s i) t)) ∧ PB w' p s (bif Lib.hasPrefix (rs s i) t then pa s i + t.length else pa s i) op 0 ∧ Turn p w w' := by
  have HB := Lib.hid h
  obtain ⟨-, -, -, c3, -, -, -, -⟩ := h.pc
  have hpl := pa_le s i
  clear h
  go_enter Tryz.func59, Tryz.ntmps59
  go_wp2_with fail
  refine (ps_rest_ok w p s i op hi hs HB.out).mono ?_
  rintro e w1 ⟨rfl, hb1, ht1⟩
  have HB1 := Lib.hid hb1
  have HT1 := Lib.hid ht1
  clear hb1 ht1 c3 HB
  obtain ⟨r, hr⟩ : ∃ r, rs s i = r := ⟨_, rfl⟩
  rw [hr]
  have HR := Lib.hid hr
  obtain ⟨n, hn⟩ : ∃ n, pa s i = n := ⟨_, rfl⟩
  rw [hn] at HB1 hpl
  have HN := Lib.hid hn
  clear hr hn
  obtain ⟨-, c1, -, -, -, f1, -, -⟩ := HB1.out.pc
  go_wp2_with fail
  refine (lib_HasPrefix ⟨r.toArray⟩ ⟨t.toArray⟩ w1).mono ?_
  rintro e w2 ⟨rfl, rfl⟩
  rw [show Lib.hasPrefix (⟨r.toArray⟩ : ByteArray).data.toList (⟨t.toArray⟩ : ByteArray).data.toList = Lib.hasPrefix r t from rfl]
  cases hp : Lib.hasPrefix r t
  · have HP := Lib.hid hp
    clear hp
    go_wp2_with fail
    go_ret
    rw [HR.out, HP.out, HN.out]
    exact ⟨rfl, HB1.out, HT1.out⟩
  · have HP := Lib.hid hp
    clear hp
    go_wp2_with fail
    go_ret
    rw [HR.out, HP.out, HN.out]
    exact ⟨rfl, HB1.out.set1 (n + t.length), HT1.out.set⟩
set_option maxRecDepth 100000 in
theorem ps_deeper_ok (w : World) (p : Nat) (s : Bs) (i op : Nat) (bad : Int) (ho : op < 16) (h : PB w p s i op bad) :
    Calls Tryz.prog 61 #[.pointer (some ⟨p, 0, none⟩)] w fun e w' => e = .returned (.tuple #[]) ∧ PB w' p s i (op + 1) bad ∧ Turn p w w' := by
  have HB := Lib.hid h
  obtain ⟨-, -, c2, -, -, -, f2, -⟩ := h.pc
  have hx := (h.set2 (op + 1)).pc.c2
  have HB2 := Lib.hid (h.set2 (op + 1))
  have o1 : ¬ (16 : Int) < (op : Int) + 1 := by omega
  clear h
  go_enter Tryz.func61, Tryz.ntmps61
  go_wp2_with fail
  go_end0
  exact ⟨rfl, HB2.out, (Turn.refl p w).set⟩
set_option maxRecDepth 100000 in
theorem ps_deeper_long (w : World) (p : Nat) (s : Bs) (i op : Nat) (hi : 1 ≤ i) (hi2 : i ≤ 1000000) (ho : op = 16) (h : PB w p s i op 0) :
    Calls Tryz.prog 61 #[.pointer (some ⟨p, 0, none⟩)] w fun e w' => e = .returned (.tuple #[]) ∧ PB w' p s (i - 1) (op + 1) 3 ∧ Turn p w w' := by
  subst ho
  have HB := Lib.hid h
  obtain ⟨-, c1, c2, -, -, f1, f2, -⟩ := h.pc
  have HB2 := Lib.hid (h.set2 17)
  have hb3 := (h.set2 17).set1 (i - 1)
  rw [show ((i - 1 : Nat) : Int) = (i : Int) - 1 by omega] at hb3
  have hf3 := ps_fail _ p s (i - 1) 17 0 3 hb3
  have HB3 := Lib.hid hb3
  have HF3 := Lib.hid hf3
  clear hf3
  clear h hb3
  go_enter Tryz.func61, Tryz.ntmps61
  go_wp2_with fail
  refine HF3.out.mono ?_
  rintro e w1 ⟨rfl, hb, ht⟩
  have HB4 := Lib.hid hb
  have HT := Lib.hid (((Turn.refl p w).set.set).trans ht)
  clear hb ht
  go_wp2_with fail
  go_end0
  exact ⟨rfl, HB4.out, HT.out⟩
end Go.Proofs.YtbkhmkpbbggcbaaGreatDoor
