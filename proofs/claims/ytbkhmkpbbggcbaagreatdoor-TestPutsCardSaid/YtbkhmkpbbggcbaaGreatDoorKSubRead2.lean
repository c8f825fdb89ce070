/- The walks of the reader's small steps: run, cut. The walks of the reader's other steps: a default, the end. -/
import Derived.Test.YtbkhmkpbbggcbaaGreatDoorKKnown
import Derived.Deep.RegionHeld3
import Derived.Deep.DrawnRows
namespace Go.Proofs.YtbkhmkpbbggcbaaGreatDoor
open Go.RowKit
set_option linter.unusedVariables false
attribute [local go_sem ↓] Go.wp_at_zero Go.wp_at_succ
def Turn (p : Nat) (W W' : World) : Prop := W.grownBy W' (some p)
theorem Turn.refl (p : Nat) (W : World) : Turn p W W := World.grownBy.refl _ _
theorem Turn.trans {p : Nat} {W W1 W2 : World} (h1 : Turn p W W1) (h2 : Turn p W1 W2) : Turn p W W2 :=
  ⟨h2.os.trans h1.os, h2.tape.trans h1.tape, h2.output.trans h1.output, Nat.le_trans h1.size h2.size, fun k hk hn => (h2.block k (Nat.lt_of_lt_of_le hk h1.size) hn).trans (h1.block k hk hn)⟩
theorem Turn.of_below {p : Nat} {W W' : World} (h : Below W.heap.size W W') : Turn p W W' := ⟨h.os, h.tape, h.output, h.size, fun k hk _ => h.block k hk⟩
theorem Turn.set {p j : Nat} {W W' : World} {v : Value} (h : Turn p W W') : Turn p W (W'.setCell ⟨p, j, none⟩ v) :=
  h.trans ⟨rfl, rfl, rfl, by rw [show (W'.setCell ⟨p, j, none⟩ v).heap.size = W'.heap.size by simp [World.setCell]]; exact Nat.le_refl _, fun k _ hk => Below.heap_setCell W' ⟨p, j, none⟩ v k (fun e => hk (by rw [e]))⟩
theorem Turn.below {p n : Nat} {W W' : World} (h : Turn p W W') (hp : n ≤ p) (hn : n ≤ W.heap.size) : Below n W W' := ⟨h.os, h.tape, h.output, h.size, fun k hk => h.block k (by omega) (by intro e; cases e; omega)⟩
theorem Good.turn {p : Nat} {W W' : World} (h : Good W) (ht : Turn p W W') (hp : 0 < p) : Good W' := h.below (ht.below (n := min p W.heap.size) (Nat.min_le_left _ _) (Nat.min_le_right _ _)) (Nat.lt_min.2 ⟨hp, h.lt⟩)
def RB (W : World) (p : Nat) (r nm k d : Bs) (hk hd : Bool) : Prop :=
  W.heap[p]? = some (.cells #[.string ⟨r.toArray⟩, .int .i64 0, .int .i64 0, .string ⟨nm.toArray⟩, .string ⟨k.toArray⟩, .string ⟨d.toArray⟩, .bool hk, .bool hd] 94)
structure RC (W : World) (p : Nat) (r nm k d : Bs) (hk hd : Bool) : Prop where
  c0 : W.cell? ⟨p, 0, none⟩ = some (.string ⟨r.toArray⟩)
  c3 : W.cell? ⟨p, 3, none⟩ = some (.string ⟨nm.toArray⟩)
  c4 : W.cell? ⟨p, 4, none⟩ = some (.string ⟨k.toArray⟩)
  c5 : W.cell? ⟨p, 5, none⟩ = some (.string ⟨d.toArray⟩)
  c6 : W.cell? ⟨p, 6, none⟩ = some (.bool hk)
  c7 : W.cell? ⟨p, 7, none⟩ = some (.bool hd)
  f0 : W.frozen? ⟨p, 0, none⟩ = false
  f3 : W.frozen? ⟨p, 3, none⟩ = false
  f4 : W.frozen? ⟨p, 4, none⟩ = false
  f5 : W.frozen? ⟨p, 5, none⟩ = false
  f6 : W.frozen? ⟨p, 6, none⟩ = false
  f7 : W.frozen? ⟨p, 7, none⟩ = false
theorem RB.rc {W : World} {p : Nat} {r nm k d : Bs} {hk hd : Bool} (h : RB W p r nm k d hk hd) : RC W p r nm k d hk hd :=
  ⟨cell_of_row _ _ 0 _ _ _ h, cell_of_row _ _ 3 _ _ _ h, cell_of_row _ _ 4 _ _ _ h, cell_of_row _ _ 5 _ _ _ h, cell_of_row _ _ 6 _ _ _ h, cell_of_row _ _ 7 _ _ _ h,
   frozen_of_row _ _ 0 _ _ h, frozen_of_row _ _ 3 _ _ h, frozen_of_row _ _ 4 _ _ h, frozen_of_row _ _ 5 _ _ h, frozen_of_row _ _ 6 _ _ h, frozen_of_row _ _ 7 _ _ h⟩
theorem RB.lt {W : World} {p : Nat} {r nm k d : Bs} {hk hd : Bool} (h : RB W p r nm k d hk hd) : p < W.heap.size := cell_lt h.rc.c0
theorem RB.next {W W' : World} {p : Nat} {r nm k d : Bs} {hk hd : Bool} (h : RB W p r nm k d hk hd) (hb : Below W.heap.size W W') : RB W' p r nm k d hk hd := (hb.block p h.lt).trans h
theorem RB.set0 {W : World} {p : Nat} {r nm k d : Bs} {hk hd : Bool} (h : RB W p r nm k d hk hd) (x : Bs) : RB (W.setCell ⟨p, 0, none⟩ (.string ⟨x.toArray⟩)) p x nm k d hk hd := row_set (j := 0) h
theorem RB.set3 {W : World} {p : Nat} {r nm k d : Bs} {hk hd : Bool} (h : RB W p r nm k d hk hd) (x : Bs) : RB (W.setCell ⟨p, 3, none⟩ (.string ⟨x.toArray⟩)) p r x k d hk hd := row_set (j := 3) h
theorem RB.set4 {W : World} {p : Nat} {r nm k d : Bs} {hk hd : Bool} (h : RB W p r nm k d hk hd) (x : Bs) : RB (W.setCell ⟨p, 4, none⟩ (.string ⟨x.toArray⟩)) p r nm x d hk hd := row_set (j := 4) h
theorem RB.set5 {W : World} {p : Nat} {r nm k d : Bs} {hk hd : Bool} (h : RB W p r nm k d hk hd) (x : Bs) : RB (W.setCell ⟨p, 5, none⟩ (.string ⟨x.toArray⟩)) p r nm k x hk hd := row_set (j := 5) h
theorem RB.set6 {W : World} {p : Nat} {r nm k d : Bs} {hk hd : Bool} (h : RB W p r nm k d hk hd) (x : Bool) : RB (W.setCell ⟨p, 6, none⟩ (.bool x)) p r nm k d x hd := row_set (j := 6) h
theorem RB.set7 {W : World} {p : Nat} {r nm k d : Bs} {hk hd : Bool} (h : RB W p r nm k d hk hd) (x : Bool) : RB (W.setCell ⟨p, 7, none⟩ (.bool x)) p r nm k d hk x := row_set (j := 7) h
theorem trimSet (r cs : Bs) (q : UInt8 → Bool) (h : (fun c => cs.contains c) = q) : Lib.trimLeftS r cs = r.dropWhile q := by subst h; rfl
theorem run_nums (r : Bs) (q : UInt8 → Bool) : (r.dropWhile q).length ≤ r.length ∧ ((r.length : Int) - (r.dropWhile q).length).toNat = lead q r ∧ (r.length : Int) - (r.dropWhile q).length = lead q r ∧ lead q r ≤ r.length := by
  have h1 := lead_le q r
  have h2 := drop_lead q r
  have h3 : (r.dropWhile q).length = r.length - lead q r := by rw [← h2, List.length_drop]
  omega
theorem exl_take (r : Bs) (n : Nat) : ((⟨r.toArray⟩ : ByteArray).extract 0 n) = ⟨(r.take n).toArray⟩ := by
  apply ByteArray.ext; apply Array.ext'
  rw [ext_data]; simp
theorem exl_drop (r : Bs) (n m : Nat) (h : r.length ≤ m) : ((⟨r.toArray⟩ : ByteArray).extract n m) = ⟨(r.drop n).toArray⟩ := by
  apply ByteArray.ext; apply Array.ext'
  rw [ext_data]; simp
  rw [List.take_of_length_le (by rw [List.length_drop]; omega)]
set_option maxRecDepth 100000 in
theorem rd_run (p : Nat) (r nm k d : Bs) (hk hd : Bool) (cs : ByteArray) (q : UInt8 → Bool) (w : World) (hq : (fun c => cs.data.toList.contains c) = q) (hcs : cs.size < 4294967281) (ha : ∀ (j : Nat) b, cs.data.toList[j]? = some b → b.toNat < 128) (hr : r.length ≤ 100000000) (hb : RB w p r nm k d hk hd) :
    Calls Tryz.prog 73 #[.pointer (some ⟨p, 0, none⟩), .string cs] w fun e w' => e = .returned (.string ⟨(r.takeWhile q).toArray⟩) ∧ RB w' p (r.dropWhile q) nm k d hk hd ∧ Turn p w w' := by
  obtain ⟨n1, n2, n3, n4⟩ := run_nums r q
  have c0 := hb.rc.c0
  have HB := Lib.hid hb
  have HQ := Lib.hid hq
  have HA := Lib.hid ha
  have HC0d := Lib.hid (show w.drew.cell? ⟨p, 0, none⟩ = some (.string ⟨r.toArray⟩) from c0)
  clear hb hq ha
  have hw : IntKind.i64.wrap ((r.length : Int) - (r.dropWhile q).length) = lead q r := by rw [n3]; exact IntWalk.i64_in _ (by omega)
  clear n2 n3
  go_enter Tryz.func73, Tryz.ntmps73
  go_wp2_with fail
  clear c0
  go_region_held3 (fun w' => w'.cell? ⟨p, 0, none⟩ = some (.string ⟨r.toArray⟩)) (first | with_reducible exact HC1.out | with_reducible exact HC0d.out)
    (first
      | (go_at_call 40; refine (lib_TrimLeft _ cs _ hcs HA.out).mono ?_; rintro e w1 ⟨rfl, hb1⟩; rw [trimSet _ _ q HQ.out]; have HC1 := Lib.hid ((((bcell hb1).1 _ 0 (cell_lt HC0d.out))).trans HC0d.out)))
  have hb' := below_ofdrew hb1
  have B1 := HB.out.next hb'
  have c0 := B1.rc.c0
  have f0 := B1.rc.f0
  have HT := Lib.hid (Turn.of_below (p := p) hb')
  have HB1 := Lib.hid B1
  clear HC1 HC0d hb1 hb' B1 HB hw
  go_wp2
  go_ret
  have hT := HT.out
  have hB := HB1.out
  rw [exl_take, take_lead, exl_drop _ _ _ (Nat.le_refl _), drop_lead]
  exact ⟨rfl, hB.set0 _, hT.set⟩
set_option maxRecDepth 100000 in
theorem rd_cut (p : Nat) (r nm k d : Bs) (hk hd : Bool) (c : UInt8) (w : World) (hg : Good w) (hr : r.length ≤ 100000000) (hb : RB w p r nm k d hk hd) :
    Calls Tryz.prog 76 #[.pointer (some ⟨p, 0, none⟩), .string ⟨#[c]⟩] w fun e w' => e = .returned (.tuple #[.string ⟨(upto c r).toArray⟩, .bool (r.contains c)]) ∧ RB w' p (bif r.contains c then past c r else r) nm k d hk hd ∧ Turn p w w' := by
  have c0 := hb.rc.c0
  have HB := Lib.hid hb
  clear hb
  go_enter Tryz.func76, Tryz.ntmps76
  go_wp2_with fail
  refine (lib_Cut1 ⟨r.toArray⟩ c _ hg (by simp [ByteArray.size]; omega)).mono ?_
  rintro e w1 ⟨rfl, hb1⟩
  have B1 := HB.out.next hb1
  have f0 := B1.rc.f0
  have k0 := B1.rc.c0
  have HT := Lib.hid (Turn.of_below (p := p) hb1)
  have HB1 := Lib.hid B1
  have hh : hasB c (⟨r.toArray⟩ : ByteArray).data.toList = r.contains c := rfl
  rw [hh]
  clear hh c0 HB hb1 B1 hg
  rcases hc : r.contains c with _ | _
  · have Hc := Lib.hid hc
    go_wp2
    go_ret2
    rw [Hc.out]
    exact ⟨rfl, HB1.out, HT.out⟩
  · have Hc := Lib.hid hc
    go_wp2
    go_ret2
    have hT := HT.out
    rw [Hc.out]
    exact ⟨rfl, HB1.out.set0 _, hT.set⟩
set_option maxRecDepth 100000 in
theorem rd_name (p : Nat) (r nm k d : Bs) (hk hd : Bool) (w : World) (hr : r.length ≤ 100000000) (hb : RB w p r nm k d hk hd) :
    Calls Tryz.prog 54 #[.pointer (some ⟨p, 0, none⟩)] w fun e w' => e = .returned (.bool (vknown (r.takeWhile letc))) ∧ RB w' p (r.dropWhile letc) (r.takeWhile letc) k d hk hd ∧ Turn p w w' := by
  have HB := Lib.hid hb
  clear hb
  go_enter Tryz.func54, Tryz.ntmps54
  go_wp2_with fail
  refine (rd_run p r nm k d hk hd ⟨letSet.toArray⟩ letc _ letSet_eq (by decide) (ascii_of_all (by decide)) hr HB.out).mono ?_
  rintro e w1 ⟨rfl, hB1, hT1⟩
  have f3 := hB1.rc.f3
  have k3 := hB1.rc.c3
  have HB1 := Lib.hid hB1
  have HT1 := Lib.hid hT1
  clear hB1 hT1 HB
  have hc3 : (w1.setCell ⟨p, 3, none⟩ (.string ⟨(r.takeWhile letc).toArray⟩)).cell? ⟨p, 3, none⟩ = some (.string ⟨(r.takeWhile letc).toArray⟩) := (HB1.out.set3 (r.takeWhile letc)).rc.c3
  go_wp2_with fail
  refine (vars_Known ⟨(r.takeWhile letc).toArray⟩ _).mono ?_
  rintro e w2 ⟨rfl, hb2⟩
  go_wp2
  go_ret
  have hT1 := HT1.out
  exact ⟨rfl, (HB1.out.set3 _).next hb2, hT1.set.trans (Turn.of_below hb2)⟩
def KeyPost (p : Nat) (r nm d : Bs) (hd : Bool) (w : World) (e : Ending) (w' : World) : Prop :=
  match keyAt r with
  | none => e = .returned (.bool false) ∧ Turn p w w'
  | some (k, hk, r2) => e = .returned (.bool true) ∧ RB w' p r2 nm k d hk hd ∧ Turn p w w'
theorem keyPost_no {p : Nat} {r nm d : Bs} {hd : Bool} {w w' : World} (h : keyAt r = none) (ht : Turn p w w') : KeyPost p r nm d hd w (.returned (.bool false)) w' := by unfold KeyPost; rw [h]; exact ⟨rfl, ht⟩
theorem keyPost_yes {p : Nat} {r nm d k r2 : Bs} {hd hk : Bool} {w w' : World} (h : keyAt r = some (k, hk, r2)) (hb : RB w' p r2 nm k d hk hd) (ht : Turn p w w') : KeyPost p r nm d hd w (.returned (.bool true)) w' := by unfold KeyPost; rw [h]; exact ⟨rfl, hb, ht⟩
theorem keyAt_bare {r : Bs} (h : Lib.hasPrefix r [123] = false) : keyAt r = some ([], false, r) := by unfold keyAt; rw [h]; rfl
theorem keyAt_open {r : Bs} (h : Lib.hasPrefix r [123] = true) (h2 : (Lib.trimPrefix r [123]).contains 125 = false) : keyAt r = none := by unfold keyAt; rw [h, h2]; rfl
theorem keyAt_bad {r : Bs} (h : Lib.hasPrefix r [123] = true) (h3 : vkey (upto 125 (Lib.trimPrefix r [123])) = false) : keyAt r = none := by unfold keyAt; rw [h, h3, Bool.and_false]; rfl
theorem keyAt_good {r : Bs} (h : Lib.hasPrefix r [123] = true) (h2 : (Lib.trimPrefix r [123]).contains 125 = true) (h3 : vkey (upto 125 (Lib.trimPrefix r [123])) = true) : keyAt r = some (upto 125 (Lib.trimPrefix r [123]), true, past 125 (Lib.trimPrefix r [123])) := by unfold keyAt; rw [h, h2, h3]; rfl
set_option maxRecDepth 100000 in
theorem rd_key (p : Nat) (r nm d : Bs) (hd : Bool) (w : World) (hg : Good w) (hp : 0 < p) (hr : r.length ≤ 100000000) (hb : RB w p r nm [] d false hd) :
    Calls Tryz.prog 55 #[.pointer (some ⟨p, 0, none⟩)] w (KeyPost p r nm d hd w) := by
  have c0 := hb.rc.c0
  have f0 := hb.rc.f0
  have f6 := hb.rc.f6
  have HB := Lib.hid hb
  have HG := Lib.hid hg
  clear hb hg
  go_enter Tryz.func55, Tryz.ntmps55
  go_wp2_with fail
  refine (lib_CutPrefix ⟨r.toArray⟩ ⟨#[123]⟩ _).mono ?_
  rintro e w1 ⟨rfl, rfl⟩
  have e1 : Lib.hasPrefix (⟨r.toArray⟩ : ByteArray).data.toList (⟨#[123]⟩ : ByteArray).data.toList = Lib.hasPrefix r [123] := rfl
  have e2 : Lib.trimPrefix (⟨r.toArray⟩ : ByteArray).data.toList (⟨#[123]⟩ : ByteArray).data.toList = Lib.trimPrefix r [123] := rfl
  rw [e1, e2]
  clear e1 e2
  rcases h1 : Lib.hasPrefix r [123] with _ | _
  · have H1 := Lib.hid h1
    go_wp2
    go_ret
    exact keyPost_yes (keyAt_bare H1.out) HB.out (Turn.refl _ _)
  · have H1 := Lib.hid h1
    have hl := tpfx_len h1
    have s6 := (HB.out.set0 (Lib.trimPrefix r [123])).rc.f6
    have t6 := (HB.out.set0 (Lib.trimPrefix r [123])).rc.c6
    clear h1
    go_wp2_with fail
    have B2 := (HB.out.set0 (Lib.trimPrefix r [123])).set6 true
    have T2 : Turn p w ((w.setCell ⟨p, 0, none⟩ (.string ⟨(Lib.trimPrefix r [123]).toArray⟩)).setCell ⟨p, 6, none⟩ (.bool true)) := (Turn.refl p w).set.set
    generalize (w.setCell ⟨p, 0, none⟩ (.string ⟨(Lib.trimPrefix r [123]).toArray⟩)).setCell ⟨p, 6, none⟩ (.bool true) = W2 at *
    have HT2 := Lib.hid T2
    have HG2 := Lib.hid (HG.out.turn T2 hp)
    clear T2 c0 f0 f6 s6 t6
    refine (rd_cut p (Lib.trimPrefix r [123]) nm [] d true hd 125 _ HG2.out (by omega) B2).mono ?_
    rintro e w3 ⟨rfl, B3, T3⟩
    have f4 := B3.rc.f4
    have k4 := B3.rc.c4
    have HT3 := Lib.hid (HT2.out.trans T3)
    have HG3 := Lib.hid (HG.out.turn (HT2.out.trans T3) hp)
    have HB3 := Lib.hid B3
    clear B2 B3 T3 HG2
    rcases h2 : (Lib.trimPrefix r [123]).contains 125 with _ | _
    · have H2 := Lib.hid h2
      go_wp2
      go_ret
      exact keyPost_no (keyAt_open H1.out H2.out) (HT3.out.set)
    · have H2 := Lib.hid h2
      have hu := upto_len 125 (Lib.trimPrefix r [123])
      have B4 := HB3.out.set4 (upto 125 (Lib.trimPrefix r [123]))
      have c4 := B4.rc.c4
      have HB4 := Lib.hid B4
      clear B4
      go_wp2_with fail
      refine (vars_Key ⟨(upto 125 (Lib.trimPrefix r [123])).toArray⟩ _ (by simp [ByteArray.size]; omega)).mono ?_
      rintro e w5 ⟨rfl, hb5⟩
      have e1 : vkey (⟨(upto 125 (Lib.trimPrefix r [123])).toArray⟩ : ByteArray).data.toList = vkey (upto 125 (Lib.trimPrefix r [123])) := rfl
      rw [e1]
      clear e1
      have HT5 := Lib.hid ((HT3.out.set (j := 4) (v := .string ⟨(upto 125 (Lib.trimPrefix r [123])).toArray⟩)).trans (Turn.of_below hb5))
      have HB5 := Lib.hid (HB4.out.next hb5)
      clear hb5 c4 HT3 HB3 HB4
      rcases h3 : vkey (upto 125 (Lib.trimPrefix r [123])) with _ | _
      · have H3 := Lib.hid h3
        go_wp2
        go_ret
        exact keyPost_no (keyAt_bad H1.out H3.out) HT5.out
      · have H3 := Lib.hid h3
        go_wp2
        go_ret
        have hB5 := HB5.out
        rw [H2.out] at hB5
        exact keyPost_yes (keyAt_good H1.out H2.out H3.out) hB5 HT5.out
end Go.Proofs.YtbkhmkpbbggcbaaGreatDoor
namespace Go.Proofs.YtbkhmkpbbggcbaaGreatDoor
open Go.RowKit
set_option linter.unusedVariables false
attribute [local go_sem ↓] Go.wp_at_zero Go.wp_at_succ
set_option maxRecDepth 100000 in
theorem rd_end (p : Nat) (r nm k d : Bs) (hk hd : Bool) (w : World) (hb : RB w p r nm k d hk hd) :
    Calls Tryz.prog 57 #[.pointer (some ⟨p, 0, none⟩)] w fun e w' => e = .returned (.bool (Lib.hasPrefix r [41])) ∧ RB w' p (Lib.trimPrefix r [41]) nm k d hk hd ∧ Turn p w w' := by
  have c0 := hb.rc.c0
  have f0 := hb.rc.f0
  have HB := Lib.hid hb
  clear hb
  go_enter Tryz.func57, Tryz.ntmps57
  go_wp2_with fail
  refine (lib_CutPrefix ⟨r.toArray⟩ ⟨#[41]⟩ _).mono ?_
  rintro e w1 ⟨rfl, rfl⟩
  have e1 : Lib.hasPrefix (⟨r.toArray⟩ : ByteArray).data.toList (⟨#[41]⟩ : ByteArray).data.toList = Lib.hasPrefix r [41] := rfl
  have e2 : Lib.trimPrefix (⟨r.toArray⟩ : ByteArray).data.toList (⟨#[41]⟩ : ByteArray).data.toList = Lib.trimPrefix r [41] := rfl
  rw [e1, e2]
  clear e1 e2
  go_wp2
  go_ret
  exact ⟨rfl, HB.out.set0 _, (Turn.refl _ _).set⟩
def DftPost (p : Nat) (r nm k : Bs) (hk : Bool) (w : World) (e : Ending) (w' : World) : Prop :=
  match dftAt r with
  | none => e = .returned (.bool false) ∧ Turn p w w'
  | some (d, hd, r3) => e = .returned (.bool true) ∧ RB w' p r3 nm k d hk hd ∧ Turn p w w'
theorem dftPost_no {p : Nat} {r nm k : Bs} {hk : Bool} {w w' : World} (h : dftAt r = none) (ht : Turn p w w') : DftPost p r nm k hk w (.returned (.bool false)) w' := by unfold DftPost; rw [h]; exact ⟨rfl, ht⟩
theorem dftPost_yes {p : Nat} {r nm d k r3 : Bs} {hd hk : Bool} {w w' : World} (h : dftAt r = some (d, hd, r3)) (hb : RB w' p r3 nm k d hk hd) (ht : Turn p w w') : DftPost p r nm k hk w (.returned (.bool true)) w' := by unfold DftPost; rw [h]; exact ⟨rfl, hb, ht⟩
theorem dftAt_bare {r : Bs} (h : Lib.hasPrefix r [124] = false) : dftAt r = some ([], false, r) := by unfold dftAt; rw [h]; rfl
theorem dftAt_in {r : Bs} (h : Lib.hasPrefix r [124] = true) : dftAt r = dftIn (Lib.trimPrefix r [124]) := by unfold dftAt; rw [h]; rfl
theorem dftIn_open {q : Bs} (h : Lib.hasPrefix q [39] = true) (h2 : (Lib.trimPrefix q [39]).contains 39 = false) : dftIn q = none := by unfold dftIn; rw [h, h2]; rfl
theorem dftIn_good {q : Bs} (h : Lib.hasPrefix q [39] = true) (h2 : (Lib.trimPrefix q [39]).contains 39 = true) : dftIn q = some (upto 39 (Lib.trimPrefix q [39]), true, past 39 (Lib.trimPrefix q [39])) := by unfold dftIn; rw [h, h2]; rfl
theorem dftIn_none {q : Bs} (h : Lib.hasPrefix q [39] = false) (h2 : (q.takeWhile keyc).isEmpty = true) : dftIn q = none := by unfold dftIn; rw [h, h2]; rfl
theorem dftIn_word {q : Bs} (h : Lib.hasPrefix q [39] = false) (h2 : (q.takeWhile keyc).isEmpty = false) : dftIn q = some (q.takeWhile keyc, true, q.dropWhile keyc) := by unfold dftIn; rw [h, h2]; rfl
set_option maxRecDepth 100000 in
theorem rd_other (p : Nat) (r nm k : Bs) (hk : Bool) (w : World) (hg : Good w) (hp : 0 < p) (hr : r.length ≤ 100000000) (hb : RB w p r nm k [] hk false) :
    Calls Tryz.prog 56 #[.pointer (some ⟨p, 0, none⟩)] w (DftPost p r nm k hk w) := by
  have c0 := hb.rc.c0
  have f0 := hb.rc.f0
  have HB := Lib.hid hb
  have HG := Lib.hid hg
  clear hb hg
  go_enter Tryz.func56, Tryz.ntmps56
  go_wp2_with fail
  refine (lib_CutPrefix ⟨r.toArray⟩ ⟨#[124]⟩ _).mono ?_
  rintro e w1 ⟨rfl, rfl⟩
  have e1 : Lib.hasPrefix (⟨r.toArray⟩ : ByteArray).data.toList (⟨#[124]⟩ : ByteArray).data.toList = Lib.hasPrefix r [124] := rfl
  have e2 : Lib.trimPrefix (⟨r.toArray⟩ : ByteArray).data.toList (⟨#[124]⟩ : ByteArray).data.toList = Lib.trimPrefix r [124] := rfl
  rw [e1, e2]
  clear e1 e2
  rcases h1 : Lib.hasPrefix r [124] with _ | _
  · have H1 := Lib.hid h1
    go_wp2
    go_ret
    exact dftPost_yes (dftAt_bare H1.out) HB.out (Turn.refl _ _)
  · have H1 := Lib.hid (dftAt_in h1)
    have hl := tpfx_len h1
    have s7 := (HB.out.set0 (Lib.trimPrefix r [124])).rc.f7
    have t7 := (HB.out.set0 (Lib.trimPrefix r [124])).rc.c7
    clear h1
    go_wp2_with fail
    have B2 := (HB.out.set0 (Lib.trimPrefix r [124])).set7 true
    have T2 : Turn p w ((w.setCell ⟨p, 0, none⟩ (.string ⟨(Lib.trimPrefix r [124]).toArray⟩)).setCell ⟨p, 7, none⟩ (.bool true)) := (Turn.refl p w).set.set
    generalize (w.setCell ⟨p, 0, none⟩ (.string ⟨(Lib.trimPrefix r [124]).toArray⟩)).setCell ⟨p, 7, none⟩ (.bool true) = W2 at *
    have HT2 := Lib.hid T2
    have HG2 := Lib.hid (HG.out.turn T2 hp)
    have k0 := B2.rc.c0
    have m0 := B2.rc.f0
    have HB2 := Lib.hid B2
    clear T2 c0 f0 s7 t7 B2 HB
    generalize Lib.trimPrefix r [124] = q at *
    refine (lib_CutPrefix ⟨q.toArray⟩ ⟨#[39]⟩ _).mono ?_
    rintro e w1 ⟨rfl, rfl⟩
    have e1 : Lib.hasPrefix (⟨q.toArray⟩ : ByteArray).data.toList (⟨#[39]⟩ : ByteArray).data.toList = Lib.hasPrefix q [39] := rfl
    have e2 : Lib.trimPrefix (⟨q.toArray⟩ : ByteArray).data.toList (⟨#[39]⟩ : ByteArray).data.toList = Lib.trimPrefix q [39] := rfl
    rw [e1, e2]
    clear e1 e2
    rcases h2 : Lib.hasPrefix q [39] with _ | _
    · have H2 := Lib.hid h2
      clear h2
      go_wp2_with fail
      refine (rd_run p q nm k [] hk true ⟨wordSet.toArray⟩ keyc _ wordSet_eq (by decide) (ascii_of_all (by decide)) (by omega) HB2.out).mono ?_
      rintro e w3 ⟨rfl, B3, T3⟩
      have k5 := B3.rc.c5
      have m5 := B3.rc.f5
      have B4 := B3.set5 (q.takeWhile keyc)
      have n5 := B4.rc.c5
      have HT4 := Lib.hid ((HT2.out.trans T3).set (j := 5) (v := .string ⟨(q.takeWhile keyc).toArray⟩))
      have HB4 := Lib.hid B4
      clear B3 T3 B4 k0 m0
      rcases h3 : (q.takeWhile keyc).isEmpty with _ | _
      · have H3 := Lib.hid h3
        go_wp2
        go_ret
        exact dftPost_yes (H1.out.trans (dftIn_word H2.out H3.out)) HB4.out HT4.out
      · have H3 := Lib.hid h3
        go_wp2
        go_ret
        exact dftPost_no (H1.out.trans (dftIn_none H2.out H3.out)) HT4.out
    · have H2 := Lib.hid h2
      have hl2 := tpfx_len h2
      clear h2
      go_wp2_with fail
      have B3 := HB2.out.set0 (Lib.trimPrefix q [39])
      have HT3 := Lib.hid (HT2.out.set (j := 0) (v := .string ⟨(Lib.trimPrefix q [39]).toArray⟩))
      have HG3 := Lib.hid (HG.out.turn HT3.out hp)
      refine (rd_cut p (Lib.trimPrefix q [39]) nm k [] hk true 39 _ HG3.out (by omega) B3).mono ?_
      rintro e w4 ⟨rfl, B4, T4⟩
      have k5 := B4.rc.c5
      have m5 := B4.rc.f5
      have HT5 := Lib.hid ((HT3.out.trans T4).set (j := 5) (v := .string ⟨(upto 39 (Lib.trimPrefix q [39])).toArray⟩))
      have HB5 := Lib.hid (B4.set5 (upto 39 (Lib.trimPrefix q [39])))
      clear B3 B4 T4 k0 m0 HG3
      rcases h3 : (Lib.trimPrefix q [39]).contains 39 with _ | _
      · have H3 := Lib.hid h3
        go_wp2
        go_ret
        exact dftPost_no (H1.out.trans (dftIn_open H2.out H3.out)) HT5.out
      · have H3 := Lib.hid h3
        go_wp2
        go_ret
        have hB5 := HB5.out
        rw [H3.out] at hB5
        exact dftPost_yes (H1.out.trans (dftIn_good H2.out H3.out)) hB5 HT5.out
theorem index_none : ∀ (s : Bs), Lib.index s [36, 40] = -1 → ∀ i, begins (s.drop i) = false
  | [], h, i => by rw [List.drop_nil]; rfl
  | c :: s, h, i => by
    unfold Lib.index at h
    by_cases hp : ([36, 40] : Bs).isPrefixOf (c :: s) = true
    · rw [if_pos hp] at h; cases h
    · rw [if_neg hp] at h
      cases i with
      | zero => rw [Bool.not_eq_true] at hp; exact hp
      | succ i =>
        refine index_none s ?_ i
        by_cases h1 : (Lib.index s [36, 40] == -1) = true
        · exact eq_of_beq h1
        · rw [if_neg h1] at h
          have := Lib.index_ge s [36, 40]
          omega
theorem index_some : ∀ (s : Bs) (j : Nat), Lib.index s [36, 40] = (j : Int) → begins (s.drop j) = true ∧ ∀ i, i < j → begins (s.drop i) = false
  | [], j, h => by
    unfold Lib.index at h
    rw [if_neg (by decide)] at h
    omega
  | c :: s, j, h => by
    unfold Lib.index at h
    by_cases hp : ([36, 40] : Bs).isPrefixOf (c :: s) = true
    · rw [if_pos hp] at h
      obtain rfl : j = 0 := by omega
      exact ⟨hp, fun i hi => by omega⟩
    · rw [if_neg hp] at h
      by_cases h1 : (Lib.index s [36, 40] == -1) = true
      · rw [if_pos h1] at h; omega
      · rw [if_neg h1] at h
        have hge := Lib.index_ge s [36, 40]
        have hne : Lib.index s [36, 40] ≠ -1 := fun e => h1 (by rw [e]; rfl)
        cases j with
        | zero => omega
        | succ j =>
          obtain ⟨h2, h3⟩ := index_some s j (by omega)
          refine ⟨h2, fun i hi => ?_⟩
          cases i with
          | zero => rw [Bool.not_eq_true] at hp; exact hp
          | succ i => exact h3 i (by omega)
theorem vfind_skip {s : Bs} {i : Nat} : ∀ (j : Nat), (∀ m, m < j → begins (s.drop (i + m)) = false) → vfind s i = vfind s (i + j)
  | 0, _ => rfl
  | j + 1, h => by
    rw [vfind_skip j (fun m hm => h m (by omega)), vfind_next (partsAt_begins (h j (by omega)))]; rfl
theorem vfind_skip_all {s : Bs} {i : Nat} (h : Lib.index (s.drop i) [36, 40] = -1) : vfind s i = none := by
  have := vfind_skip (s := s) (i := i) s.length (fun m _ => by rw [← List.drop_drop]; exact index_none _ h m)
  rw [this]; exact vfind_none (by omega)
theorem vfind_skip_to {s : Bs} {i j : Nat} (h : Lib.index (s.drop i) [36, 40] = (j : Int)) : vfind s i = vfind s (i + j) ∧ begins (s.drop (i + j)) = true ∧ i + j + 2 ≤ s.length := by
  obtain ⟨h1, h2⟩ := index_some _ _ h
  rw [List.drop_drop] at h1
  refine ⟨vfind_skip j (fun m hm => by have := h2 m hm; rw [List.drop_drop] at this; exact this), h1, ?_⟩
  have := pfx_len h1
  rw [List.length_drop] at this
  simp at this
  omega
end Go.Proofs.YtbkhmkpbbggcbaaGreatDoor
