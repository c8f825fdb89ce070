/- What Check is told: what is wrong with a form; the callees. -/
import Derived.Test.YtobhceopfjcmnaaGreatDoorUriMade
import Derived.Test.YtobhceopfjcmnaaGreatDoorUriPut
namespace Go.Proofs.YtobhceopfjcmnaaGreatDoor
open Go.RowKit
set_option linter.unusedVariables false

theorem indexB (l : Bs) (c : UInt8) : Lib.indexByte l c = if l.contains c then (lead (· != c) l : Int) else -1 := by rw [← Lib.index_one, index_byte]
theorem lib_IndexByte (s : ByteArray) (c : UInt8) (w : World) :
    Calls Tryz.prog 52 #[.string s, .int .u8 (c.toNat : Int)] w fun e w' => e = .returned (.int .i64 (if s.data.toList.contains c then (lead (· != c) s.data.toList : Int) else -1)) ∧ w = w' := by
  refine (Tryz.strings_IndexByte s (c.toNat : Int) w).mono ?_
  rintro e w' ⟨rfl, rfl⟩
  refine ⟨?_, rfl⟩
  have : ((c.toNat : Int)).toNat.toUInt8 = c := by rw [Int.toNat_natCast]; exact UInt8.ofNat_toNat
  rw [this, indexB]

theorem check_bad {u : U} (h : formB u = false) : checkB u = 4 := by unfold checkB; rw [h]; rfl
theorem check_long {u : U} (h : formB u = true) (hl : maxURI < (textB u).length) : checkB u = 3 := by unfold checkB; rw [h, decide_eq_false (by omega)]; rfl
theorem check_good {u : U} (h : formB u = true) (hl : (textB u).length ≤ maxURI) : checkB u = 0 := by unfold checkB; rw [h, decide_eq_true hl]; rfl
/-- What is wrong with a URI's form. -/
theorem bad_scheme {u : U} (h1 : ¬ u.scheme = http) (h2 : ¬ u.scheme = https) : formB u = false := by
  cases h : formB u
  · rfl
  · rcases ((form_iff u).1 h).scheme with e | e
    · exact (h1 e).elim
    · exact (h2 e).elim
theorem bad_host {u : U} (h : ¬ (1 ≤ u.host.length ∧ u.host.length ≤ 253)) : formB u = false := by
  cases hf : formB u
  · rfl
  · exact (h ((form_iff u).1 hf).hlen).elim
theorem bad_hostc {u : U} (h : u.host.all hostc = false) : formB u = false := by
  cases hf : formB u
  · rfl
  · rw [((form_iff u).1 hf).host] at h; cases h
theorem bad_port {u : U} (h : ¬ (0 ≤ u.port ∧ u.port ≤ 65535)) : formB u = false := by
  cases hf : formB u
  · rfl
  · exact (h ((form_iff u).1 hf).port).elim
theorem bad_path {u : U} (h : pathOk u.path = false) : formB u = false := by
  unfold formB; rw [h]; simp
theorem bad_hq {u : U} (h1 : u.hq = false) (h2 : ¬ u.query = []) : formB u = false := by
  cases hf : formB u
  · rfl
  · rcases ((form_iff u).1 hf).query with e | e
    · rw [h1] at e; cases e
    · exact (h2 e).elim
theorem bad_query {u : U} (h : madeB queryc u.query = false) : formB u = false := by
  cases hf : formB u
  · rfl
  · rw [((form_iff u).1 hf).made] at h; cases h
theorem lib_hostTrim (ho : Bs) (w : World) (hs : ho.length ≤ 1000000) : Calls Tryz.prog 49 #[.string ⟨ho.toArray⟩, .string ⟨hostSet.toArray⟩] w (Ret w (.string ⟨(Lib.trimS ho hostSet).toArray⟩)) :=
  lib_Trim ⟨ho.toArray⟩ _ w (by show ho.length ≤ _; omega) (by decide) (ascii_of_all (by decide))
theorem host_trim {ho : Bs} (h : ho.all hostc = true) : Lib.trimS ho hostSet = [] := by
  have := trimS_nil ho hostSet
  rw [hostSet_eq, h] at this
  exact eq_of_beq this
theorem host_trim_no {ho : Bs} (h : ho.all hostc = false) : (Lib.trimS ho hostSet).isEmpty = false := by
  have := trimS_nil ho hostSet
  rw [hostSet_eq, h] at this
  cases hq : Lib.trimS ho hostSet with
  | nil => rw [hq] at this; cases this
  | cons a b => rfl
theorem uri_path (s : Bs) (w : World) (hg : Good w) (hs : s.length ≤ 1000000) : Calls Tryz.prog 51 #[.string ⟨s.toArray⟩, .string ⟨pathSet.toArray⟩] w (Ret w (.bool (madeB pathc s))) :=
  uri_made ⟨s.toArray⟩ ⟨pathSet.toArray⟩ pathc (fun c => congrFun pathSet_eq c) w hg hs (by decide)
theorem uri_query (s : Bs) (w : World) (hg : Good w) (hs : s.length ≤ 1000000) : Calls Tryz.prog 51 #[.string ⟨s.toArray⟩, .string ⟨querySet.toArray⟩] w (Ret w (.bool (madeB queryc s))) :=
  uri_made ⟨s.toArray⟩ ⟨querySet.toArray⟩ queryc (fun c => congrFun querySet_eq c) w hg hs (by decide)

set_option maxRecDepth 100000 in
set_option maxHeartbeats 2000000 in
theorem uri_Check_no (u : U) (w : World) (h1 : ¬ u.scheme = http) (h2 : ¬ u.scheme = https) :
    Calls Tryz.prog 16 #[uV u] w (Ret w (.int .i64 (checkB u))) := by
  have HE := Lib.hid (check_bad (bad_scheme h1 h2))
  have HW := Lib.hid ((Below.refl w.heap.size w).alloc (Nat.le_refl _) (.cells #[.string ⟨u.scheme.toArray⟩, .string ⟨u.host.toArray⟩, .int .i64 u.port, .string ⟨u.path.toArray⟩, .string ⟨u.query.toArray⟩, .bool u.hq] 23))
  have g1 : ¬ u.scheme = [104, 116, 116, 112] := h1
  have g2 : (!u.scheme == [104, 116, 116, 112]) = true := by rw [Bool.not_eq_true', beq_eq_false_iff_ne]; exact h1
  have g3 : (!u.scheme == [104, 116, 116, 112, 115]) = true := by rw [Bool.not_eq_true', beq_eq_false_iff_ne]; exact h2
  clear h1 h2
  go_enter Tryz.func16, Tryz.ntmps16
  go_wp2_with fail
  go_ret
  exact ⟨ret_int HE.out.symm, HW.out⟩

end Go.Proofs.YtobhceopfjcmnaaGreatDoor
