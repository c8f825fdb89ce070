/- The walk of made: is a text made of some bytes, and escapes? What Check is told: what is wrong with a form; the callees. -/
import Derived.Test.YtmkpejioinkceaaGreatDoorUriEscM
import Derived.Test.YtmkpejioinkceaaGreatDoorUriPut
namespace Go.Proofs.YtmkpejioinkceaaGreatDoor
open Go.RowKit
set_option linter.unusedVariables false

/-- A block of one cell. -/
def Box1 (w : World) (b : Nat) (v : Value) (t : TypeId) : Prop := w.heap[b]? = some (.cells #[v] t)
theorem Box1.lt {w : World} {b : Nat} {v : Value} {t : TypeId} (h : Box1 w b v t) : b < w.heap.size := (Array.getElem?_eq_some_iff.1 h).1
theorem Box1.next {w w' : World} {b : Nat} {v : Value} {t : TypeId} (h : Box1 w b v t) (hb : Below w.heap.size w w') : Box1 w' b v t := (hb.block _ h.lt).trans h
theorem Box1.cell {w : World} {b : Nat} {v : Value} {t : TypeId} (h : Box1 w b v t) : w.cell? ⟨b, 0, none⟩ = some v := cell_of_row _ _ 0 _ _ _ h
theorem Box1.free {w : World} {b : Nat} {v : Value} {t : TypeId} (h : Box1 w b v t) : w.frozen? ⟨b, 0, none⟩ = false := frozen_of_row _ _ 0 _ _ h
theorem Box1.set {w : World} {b : Nat} {v u : Value} {t : TypeId} (h : Box1 w b v t) : Box1 (w.setCell ⟨b, 0, none⟩ u) b u t := by
  have := row_set (j := 0) (v := u) h
  simpa [Box1] using this
theorem Box1.other {w : World} {b c : Nat} {v u : Value} {t : TypeId} (h : Box1 w b v t) (hne : b ≠ c) : Box1 (w.setCell ⟨c, 0, none⟩ u) b v t := (Below.heap_setCell w ⟨c, 0, none⟩ u b hne).trans h
theorem box1_new (w : World) (v : Value) (t : TypeId) : Box1 (w.alloc (.cells #[v] t)) w.heap.size v t := heap_alloc_new w _
theorem Good.set {w : World} {b : Nat} {v u : Value} {t : TypeId} (h : Good w) (hb : Box1 w b v t) (hne : b ≠ 0) : Good (w.setCell ⟨b, 0, none⟩ u) := by
  obtain ⟨m, hm⟩ := h
  exact ⟨m, (World.cell?_of_block (a := ⟨0, 0, none⟩) (Below.heap_setCell w ⟨b, 0, none⟩ u _ (Ne.symm hne))).trans hm⟩

/-- What holds of made's two boxes when so many bytes are gone through. -/
structure MI (w0 : World) (bg bo : Nat) (of s : ByteArray) (p : UInt8 → Bool) (k : Nat) (w : World) : Prop where
  good : Good w
  of : Box1 w bo (.string of) 9
  at' : ∃ g, Box1 w bg (.bool g) 4 ∧ (g && madeB p (s.data.toList.drop k)) = madeB p s.data.toList
  bel : Below w0.heap.size w0 w
theorem MI.step {w0 w w' : World} {bg bo : Nat} {of s : ByteArray} {p : UInt8 → Bool} {k j : Nat} {g g' : Bool} (x : MI w0 bg bo of s p k w) (hb : Below w.heap.size w w') (h0 : w0.heap.size ≤ bg) (hne : bg ≠ bo) (hM : bg ≠ 0) (hg : Box1 w bg (.bool g) 4)
    (he : (g && madeB p (s.data.toList.drop k)) = madeB p s.data.toList) (hs : (g && madeB p (s.data.toList.drop k)) = (g' && madeB p (s.data.toList.drop j))) : MI w0 bg bo of s p j (w'.setCell ⟨bg, 0, none⟩ (.bool g')) := by
  have hg' := hg.next hb
  exact ⟨(x.good.next hb).set hg' hM, (x.of.next hb).other (Ne.symm hne), ⟨g', hg'.set, by rw [← hs, he]⟩, (x.bel.trans (hb.mono x.bel.size)).setCell (p := ⟨bg, 0, none⟩) h0 _⟩

set_option maxRecDepth 100000 in
theorem made_each (w0 : World) (bg bo : Nat) (of s : ByteArray) (p : UInt8 → Bool) (hp : ∀ c, of.data.toList.contains c = p c) (h0 : w0.heap.size ≤ bg) (hne : bg ≠ bo) (hM : bg ≠ 0) (hof : of.size ≤ 1000) :
    Each 75 #[.pointer (some ⟨bg, 0, none⟩), .pointer (some ⟨bo, 0, none⟩)] s (MI w0 bg bo of s p) := by
  refine ⟨?_, ?_, ?_⟩
  · intro k w w' x hb
    obtain ⟨g, h1, h2⟩ := x.at'
    exact ⟨x.good.next hb, x.of.next hb, ⟨g, h1.next hb, h2⟩, x.bel.trans (hb.mono x.bel.size)⟩
  · intro k c r w hd hc x
    obtain ⟨g, h1, h2⟩ := x.at'
    have hr : s.data.toList.drop (k + 1) = r := by rw [← List.drop_drop, hd]; rfl
    have hm : madeB p (s.data.toList.drop k) = (p c && madeB p (s.data.toList.drop (k + 1))) := by rw [hr, hd]; exact madeB_byte hc
    have HX := Lib.hid x
    have H1 := Lib.hid h1
    have H2 := Lib.hid h2
    have c1 := h1.cell
    have f1 := h1.free
    have c2 := x.of.cell
    clear h1 h2 x hd hr
    show Calls Tryz.prog 75 #[.string ⟨#[c]⟩, .pointer (some ⟨bg, 0, none⟩), .pointer (some ⟨bo, 0, none⟩)] w _
    cases g
    · have HS := Lib.hid (HX.out.step (Below.refl _ _) h0 hne hM H1.out H2.out (show (false && madeB p (s.data.toList.drop k)) = (false && madeB p (s.data.toList.drop (k + 1))) from rfl))
      clear hm
      go_enter Tryz.func75, Tryz.ntmps75
      go_wp2_with fail
      go_end0
      exact ⟨rfl, HS.out⟩
    · have HS := Lib.hid (HX.out.step (g' := p c) (j := k + 1) (Below.refl _ _) h0 hne hM H1.out H2.out (by rw [hm, Bool.true_and]))
      have HP := Lib.hid (hp c)
      clear hm hp
      go_enter Tryz.func75, Tryz.ntmps75
      go_wp2_with fail
      refine (lib_Contains of ⟨#[c]⟩ w HX.out.good (by omega)).mono ?_
      rintro e w1 ⟨rfl, rfl⟩
      rw [show Lib.contains of.data.toList (⟨#[c]⟩ : ByteArray).data.toList = p c from (has_byte _ _).trans HP.out]
      go_wp2_with fail
      go_end0
      exact ⟨rfl, HS.out⟩
  · intro k a b r w hd hab x
    obtain ⟨g, h1, h2⟩ := x.at'
    have hr : s.data.toList.drop (k + 3) = r := by rw [← List.drop_drop, hd]; rfl
    have hm : madeB p (s.data.toList.drop k) = madeB p (s.data.toList.drop (k + 3)) := by rw [hr, hd]; rw [madeB_esc, hab]; rfl
    have HS := Lib.hid (x.step (Below.refl _ _) h0 hne hM h1 h2 (show (g && madeB p (s.data.toList.drop k)) = (g && madeB p (s.data.toList.drop (k + 3))) by rw [hm]))
    have c1 := h1.cell
    have f1 := h1.free
    have c2 := x.of.cell
    clear h1 h2 x hd hr hm hp hab
    show Calls Tryz.prog 75 #[.string ⟨#[37, a, b]⟩, .pointer (some ⟨bg, 0, none⟩), .pointer (some ⟨bo, 0, none⟩)] w _
    cases g
    all_goals
      go_enter Tryz.func75, Tryz.ntmps75
      go_wp2_with fail
      go_end0
      exact ⟨rfl, HS.out⟩

set_option maxRecDepth 100000 in
theorem uri_made (s of : ByteArray) (p : UInt8 → Bool) (hp : ∀ c, of.data.toList.contains c = p c) (w : World) (hg : Good w) (hs : s.size ≤ 1000000) (hof : of.size ≤ 1000) :
    Calls Tryz.prog 38 #[.string s, .string of] w (Ret w (.bool (madeB p s.data.toList))) := by
  have HT := Lib.hid (two_new w (.cells #[.string of] 9) (.cells #[.bool true] 4))
  have hlt := hg.lt
  have HG := Lib.hid hg
  clear hg
  go_enter Tryz.func38, Tryz.ntmps38
  go_wp2_with fail
  generalize (w.alloc (.cells #[.string of] 9)).alloc (.cells #[.bool true] 4) = W at *
  have hI : MI w (w.heap.size + 1) w.heap.size of s p 0 W := ⟨HG.out.next HT.out.below, HT.out.b1, ⟨true, HT.out.b2, by rw [List.drop_zero, Bool.true_and]⟩, HT.out.below⟩
  refine (escapes_made _ _ s _ (made_each w (w.heap.size + 1) w.heap.size of s p hp (by omega) (by omega) (by omega) hof) W hI hs).mono ?_
  rintro e w1 (⟨hw, rfl, x⟩ | ⟨hw, rfl, k, x⟩)
  · obtain ⟨g, h1, h2⟩ := x.at'
    have c1 := h1.cell
    rw [← bs_size, List.drop_length] at h2
    have H2 := Lib.hid (show g = madeB p s.data.toList by rw [← h2]; cases g <;> rfl)
    have HB := Lib.hid x.bel
    clear h1 h2 x hw hI
    go_wp2_with fail
    go_ret
    exact ⟨ret_bool H2.out, HB.out⟩
  · have H2 := Lib.hid (show madeB p s.data.toList = false by
      cases h : madeB p s.data.toList
      · rfl
      · have := madeB_mono (q := fun _ => true) (fun _ _ => rfl) h
        unfold wellB at hw; rw [this] at hw; cases hw)
    have HB := Lib.hid x.bel
    clear x hw hI
    go_wp2_with fail
    go_ret
    exact ⟨ret_bool H2.out.symm, HB.out⟩
end Go.Proofs.YtmkpejioinkceaaGreatDoor

namespace Go.Proofs.YtmkpejioinkceaaGreatDoor
open Go.RowKit
set_option linter.unusedVariables false

theorem indexB (l : Bs) (c : UInt8) : Lib.indexByte l c = if l.contains c then (lead (· != c) l : Int) else -1 := by rw [← Lib.index_one, index_byte]
theorem lib_IndexByte (s : ByteArray) (c : UInt8) (w : World) :
    Calls Tryz.prog 39 #[.string s, .int .u8 (c.toNat : Int)] w fun e w' => e = .returned (.int .i64 (if s.data.toList.contains c then (lead (· != c) s.data.toList : Int) else -1)) ∧ w = w' := by
  refine (Tryz.strings_IndexByte s (c.toNat : Int) w).mono ?_
  rintro e w' ⟨rfl, rfl⟩
  refine ⟨?_, rfl⟩
  have : ((c.toNat : Int)).toNat.toUInt8 = c := by rw [Int.toNat_natCast]; exact UInt8.ofNat_toNat
  rw [this, indexB]

theorem check_bad {u : U} (h : formB u = false) : checkB u = 4 := by unfold checkB; rw [h]; rfl
theorem check_long {u : U} (h : formB u = true) (hl : maxURI < (textB u).length) : checkB u = 3 := by unfold checkB; rw [h, decide_eq_false (by omega)]; rfl
theorem check_good {u : U} (h : formB u = true) (hl : (textB u).length ≤ maxURI) : checkB u = 0 := by unfold checkB; rw [h, decide_eq_true hl]; rfl
/-- What is wrong with a URI's form. -/
theorem bad_scheme {u : U} (h1 : ¬ u.scheme = http) (h2 : ¬ u.scheme = https) : formB u = false := by
  cases h : formB u
  · rfl
  · rcases ((form_iff u).1 h).scheme with e | e
    · exact (h1 e).elim
    · exact (h2 e).elim
theorem bad_host {u : U} (h : ¬ (1 ≤ u.host.length ∧ u.host.length ≤ 253)) : formB u = false := by
  cases hf : formB u
  · rfl
  · exact (h ((form_iff u).1 hf).hlen).elim
theorem bad_hostc {u : U} (h : u.host.all hostc = false) : formB u = false := by
  cases hf : formB u
  · rfl
  · rw [((form_iff u).1 hf).host] at h; cases h
theorem bad_port {u : U} (h : ¬ (0 ≤ u.port ∧ u.port ≤ 65535)) : formB u = false := by
  cases hf : formB u
  · rfl
  · exact (h ((form_iff u).1 hf).port).elim
theorem bad_path {u : U} (h : pathOk u.path = false) : formB u = false := by
  unfold formB; rw [h]; simp
theorem bad_hq {u : U} (h1 : u.hq = false) (h2 : ¬ u.query = []) : formB u = false := by
  cases hf : formB u
  · rfl
  · rcases ((form_iff u).1 hf).query with e | e
    · rw [h1] at e; cases e
    · exact (h2 e).elim
theorem bad_query {u : U} (h : madeB queryc u.query = false) : formB u = false := by
  cases hf : formB u
  · rfl
  · rw [((form_iff u).1 hf).made] at h; cases h
theorem lib_hostTrim (ho : Bs) (w : World) (hs : ho.length ≤ 1000000) : Calls Tryz.prog 36 #[.string ⟨ho.toArray⟩, .string ⟨hostSet.toArray⟩] w (Ret w (.string ⟨(Lib.trimS ho hostSet).toArray⟩)) :=
  lib_Trim ⟨ho.toArray⟩ _ w (by show ho.length ≤ _; omega) (by decide) (ascii_of_all (by decide))
theorem host_trim {ho : Bs} (h : ho.all hostc = true) : Lib.trimS ho hostSet = [] := by
  have := trimS_nil ho hostSet
  rw [hostSet_eq, h] at this
  exact eq_of_beq this
theorem host_trim_no {ho : Bs} (h : ho.all hostc = false) : (Lib.trimS ho hostSet).isEmpty = false := by
  have := trimS_nil ho hostSet
  rw [hostSet_eq, h] at this
  cases hq : Lib.trimS ho hostSet with
  | nil => rw [hq] at this; cases this
  | cons a b => rfl
theorem uri_path (s : Bs) (w : World) (hg : Good w) (hs : s.length ≤ 1000000) : Calls Tryz.prog 38 #[.string ⟨s.toArray⟩, .string ⟨pathSet.toArray⟩] w (Ret w (.bool (madeB pathc s))) :=
  uri_made ⟨s.toArray⟩ ⟨pathSet.toArray⟩ pathc (fun c => congrFun pathSet_eq c) w hg hs (by decide)
theorem uri_query (s : Bs) (w : World) (hg : Good w) (hs : s.length ≤ 1000000) : Calls Tryz.prog 38 #[.string ⟨s.toArray⟩, .string ⟨querySet.toArray⟩] w (Ret w (.bool (madeB queryc s))) :=
  uri_made ⟨s.toArray⟩ ⟨querySet.toArray⟩ queryc (fun c => congrFun querySet_eq c) w hg hs (by decide)

set_option maxRecDepth 100000 in
set_option maxHeartbeats 2000000 in
theorem uri_Check_no (u : U) (w : World) (h1 : ¬ u.scheme = http) (h2 : ¬ u.scheme = https) :
    Calls Tryz.prog 20 #[uV u] w (Ret w (.int .i64 (checkB u))) := by
  have HE := Lib.hid (check_bad (bad_scheme h1 h2))
  have HW := Lib.hid ((Below.refl w.heap.size w).alloc (Nat.le_refl _) (.cells #[.string ⟨u.scheme.toArray⟩, .string ⟨u.host.toArray⟩, .int .i64 u.port, .string ⟨u.path.toArray⟩, .string ⟨u.query.toArray⟩, .bool u.hq] 23))
  have g1 : ¬ u.scheme = [104, 116, 116, 112] := h1
  have g2 : (!u.scheme == [104, 116, 116, 112]) = true := by rw [Bool.not_eq_true', beq_eq_false_iff_ne]; exact h1
  have g3 : (!u.scheme == [104, 116, 116, 112, 115]) = true := by rw [Bool.not_eq_true', beq_eq_false_iff_ne]; exact h2
  clear h1 h2
  go_enter Tryz.func20, Tryz.ntmps20
  go_wp2_with fail
  go_ret
  exact ⟨ret_int HE.out.symm, HW.out⟩

end Go.Proofs.YtmkpejioinkceaaGreatDoor
