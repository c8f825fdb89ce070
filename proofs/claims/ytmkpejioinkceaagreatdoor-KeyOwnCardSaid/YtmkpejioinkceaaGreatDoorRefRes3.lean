/- The walks of the reference's find, scheme, begins and whole. The walks of the reference's whole and Ref. The walk of the reference's Ref. -/
import Derived.Test.YtmkpejioinkceaaGreatDoorRes
import Derived.Test.YtmkpejioinkceaaGreatDoorRefNorm
import Derived.Test.YtmkpejioinkceaaGreatDoorRefUriP
import Derived.Outline
import Derived.IntWalk
namespace Go.Proofs.YtmkpejioinkceaaGreatDoor
open Go.RowKit
set_option linter.unusedVariables false

set_option maxRecDepth 100000 in
theorem ref10_find (s : ByteArray) (c : UInt8) (w : World) (hs : s.size ≤ 100000000) :
    Calls Tryz.prog 62 #[.string s, .int .u8 (c.toNat : Int)] w fun e w' => e = .returned (.int .i64 (lead (· != c) s.data.toList : Nat)) ∧ w = w' := by
  have hle := lead_le (· != c) s.data.toList
  rw [bs_size] at hle
  go_enter Tryz.func62, Tryz.ntmps62
  go_wp2
  go_loop [5] (fun i => ∃ k : Nat, k ≤ s.size ∧ i = .int .i64 k ∧ Hid (k ≤ lead (· != c) s.data.toList)) (fun i => s.size - (intOf i).toNat)
  case atStart => exact ⟨0, Nat.zero_le _, rfl, Lib.hid (Nat.zero_le _)⟩
  case round =>
    obtain ⟨k, hk, rfl, HK⟩ := hrel
    by_cases hlt : k < s.size
    · have i1 : (k : Int) < (s.size : Int) := by omega
      have hget : s.data.toList[k]? = some s[k] := by
        rw [List.getElem?_eq_getElem (by rw [bs_size]; exact hlt)]; rfl
      by_cases hc : s[k] = c
      · have b1 : ((s[k].toNat : Int) == (c.toNat : Int)) = true := by rw [hc]; simp
        have b2 : ((s[k].toNat : Int) != (c.toNat : Int)) = false := by rw [hc]; simp
        have HE := Lib.hid (lead_stop (· != c) s.data.toList k HK.out (fun x hx => by rw [hget] at hx; injection hx with hx; rw [← hx, hc]; simp))
        clear hget hc
        go_wp2
        go_ret
        exact ⟨by rw [← HE.out]; rfl, rfl⟩
      · have hne : ¬ ((s[k].toNat : Int) = (c.toNat : Int)) := fun e => hc (by rw [u8eq]; omega)
        have b1 : ((s[k].toNat : Int) == (c.toNat : Int)) = false := by rw [beq_eq_false_iff_ne]; exact hne
        have b2 : ((s[k].toNat : Int) != (c.toNat : Int)) = true := by rw [bne_iff_ne]; exact hne
        have HE := Lib.hid (lead_step (· != c) s.data.toList k s[k] HK.out hget (by simpa using hc))
        clear hget hc hne
        go_wp2
        go_round
        case rel => exact ⟨k + 1, by omega, by go_num, HE⟩
        case measure => (simp [intOf] <;> omega)
    · have HE := Lib.hid (show k = lead (· != c) s.data.toList by have := HK.out; omega)
      have i1 : (s.size : Int) ≤ (k : Int) := by omega
      go_wp2
      go_ret
      exact ⟨by rw [← HE.out]; rfl, rfl⟩

theorem begins_two (s : Bs) : Lib.hasPrefix s twoSl = match s with | a :: b :: _ => a == 47 && b == 47 | _ => false := by
  unfold Lib.hasPrefix twoSl
  match s with
  | [] => rfl
  | [a] => simp [List.isPrefixOf]
  | a :: b :: r =>
    rw [List.isPrefixOf_cons_cons, List.isPrefixOf_cons_cons, List.isPrefixOf_nil_left, Bool.and_true]
    rw [show (47 == a) = (a == 47) from Bool.beq_comm, show (47 == b) = (b == 47) from Bool.beq_comm]
set_option maxRecDepth 100000 in
theorem ref10_begins (s : Bs) (w : World) (hs : s.length ≤ 100000000) :
    Calls Tryz.prog 64 #[.string ⟨s.toArray⟩] w fun e w' => e = .returned (.bool (Lib.hasPrefix s twoSl)) ∧ w = w' := by
  have HB := Lib.hid (begins_two s)
  generalize Lib.hasPrefix s twoSl = v at *
  match s with
  | [] =>
    have HE := Lib.hid (show v = false from HB.out)
    go_enter Tryz.func64, Tryz.ntmps64
    go_wp2
    go_ret
    exact ⟨by rw [HE.out]; rfl, rfl⟩
  | [a] =>
    have HE := Lib.hid (show v = false from HB.out)
    go_enter Tryz.func64, Tryz.ntmps64
    go_wp2
    go_ret
    exact ⟨by rw [HE.out]; rfl, rfl⟩
  | a :: b :: r =>
    have HE := Lib.hid (show v = (a == 47 && b == 47) from HB.out)
    have x0 : ∀ h, ((⟨(a :: b :: r).toArray⟩ : ByteArray)[0]'h) = a := fun _ => rfl
    have x1 : ∀ h, ((⟨(a :: b :: r).toArray⟩ : ByteArray)[1]'h) = b := fun _ => rfl
    have z1 : (1 : Int) < (r.length : Int) + 1 + 1 := by omega
    clear HB
    by_cases ha : a = 47
    · subst ha
      have hx : ((47 : UInt8).toNat : Int) = 47 := rfl
      by_cases hb : b = 47
      · subst hb
        go_enter Tryz.func64, Tryz.ntmps64
        go_wp2
        go_ret
        exact ⟨by rw [HE.out]; rfl, rfl⟩
      · have hb1 : ((b.toNat : Int) == 47) = false := by
          rw [beq_eq_false_iff_ne]; exact fun e => hb (by rw [u8eq]; show b.toNat = 47; omega)
        have HE2 := Lib.hid (show v = false by rw [HE.out, show (b == 47) = false from by rw [beq_eq_false_iff_ne]; exact hb]; rfl)
        clear hb HE
        go_enter Tryz.func64, Tryz.ntmps64
        go_wp2
        go_ret
        exact ⟨by rw [HE2.out]; rfl, rfl⟩
    · have ha1 : ((a.toNat : Int) == 47) = false := by
        rw [beq_eq_false_iff_ne]; exact fun e => ha (by rw [u8eq]; show a.toNat = 47; omega)
      have HE2 := Lib.hid (show v = false by rw [HE.out, show (a == 47) = false from by rw [beq_eq_false_iff_ne]; exact ha]; rfl)
      clear ha HE
      go_enter Tryz.func64, Tryz.ntmps64
      go_wp2
      go_ret
      exact ⟨by rw [HE2.out]; rfl, rfl⟩

/-- How long a scheme is; 0: there is none. -/
def schN (r : Bs) : Nat := if schB r = true then lead (· != 58) r else 0
theorem alpha_sch {c : UInt8} (h : alphac c = true) : schc c = true := by
  have := of_decide_eq_true (show decide _ = true from h)
  exact decide_eq_true (by omega)
theorem name_snoc {p : Bs} {c : UInt8} (hp : nameOk p = true) (hc : schc c = true) : nameOk (p ++ [c]) = true := by
  cases p with
  | nil => cases hp
  | cons a q =>
    have h := hp
    unfold nameOk at h
    rw [Bool.and_eq_true] at h
    show (alphac a && (a :: q ++ [c]).all schc) = true
    rw [h.1, List.all_append, h.2]
    simp [hc]
theorem name_at {p : Bs} (hp : nameOk p = true) (k : Nat) (c : UInt8) (hc : p[k]? = some c) : schc c = true ∧ (k = 0 → alphac c = true) := by
  cases p with
  | nil => cases hp
  | cons a q =>
    unfold nameOk at hp
    rw [Bool.and_eq_true] at hp
    refine ⟨List.all_eq_true.1 hp.2 c (List.mem_of_getElem? hc), ?_⟩
    rintro rfl
    simp at hc
    rw [← hc]; exact hp.1
theorem schN_end {r : Bs} {k : Nat} (hk : k = lead (· != 58) r) (hlt : k < r.length) (hn : k = 0 ∨ nameOk (r.take k) = true) : schN r = k := by
  have hc : r.contains 58 = true := by
    rw [List.contains_iff_mem]
    have hg := List.getElem_mem hlt
    cases hx : (r[k] == 58)
    · have := lead_step (· != 58) r k r[k] (by omega) (List.getElem?_eq_getElem hlt) (by simpa using hx)
      omega
    · rw [beq_iff_eq] at hx; rwa [hx] at hg
  have hu : upto 58 r = r.take k := by rw [← take_upto, hk]
  unfold schN schB
  rw [hc, hu, Bool.true_and]
  rcases hn with rfl | hn
  · simp [nameOk]
  · rw [if_pos hn, hk]
theorem schN_bad {r : Bs} {k : Nat} {c : UInt8} (hk : k < lead (· != 58) r) (hc : r[k]? = some c) (hb : schc c = false ∨ (k = 0 ∧ alphac c = false)) : schN r = 0 := by
  unfold schN
  rw [if_neg]
  intro h
  unfold schB at h
  rw [Bool.and_eq_true] at h
  have hu : (upto 58 r)[k]? = some c := by rw [← take_upto, List.getElem?_take, if_pos hk]; exact hc
  have := name_at h.2 k c hu
  rcases hb with hb | ⟨h0, hb⟩
  · rw [hb] at this; cases this.1
  · have h2 := this.2 h0; rw [hb] at h2; cases h2
theorem schN_none {r : Bs} (h : lead (· != 58) r = r.length) : schN r = 0 := by
  unfold schN schB
  have hc : r.contains 58 = false := by
    cases hx : r.contains 58
    · rfl
    · have := lead_lt 58 r hx; omega
  rw [hc]; rfl

set_option maxRecDepth 100000 in
set_option maxHeartbeats 1000000 in
theorem ref10_scheme (s : ByteArray) (w : World) (hs : s.size ≤ 100000000) :
    Calls Tryz.prog 63 #[.string s] w fun e w' => e = .returned (.int .i64 (schN s.data.toList : Nat)) ∧ w = w' := by
  have hle := lead_le (· != 58) s.data.toList
  rw [bs_size] at hle
  have HLE := Lib.hid hle
  clear hle
  go_enter Tryz.func63, Tryz.ntmps63
  go_wp2
  go_loop [3] (fun i => ∃ k : Nat, k ≤ s.size ∧ i = .int .i64 k ∧ Hid (k ≤ lead (· != 58) s.data.toList ∧ (k = 0 ∨ nameOk (s.data.toList.take k) = true))) (fun i => s.size - (intOf i).toNat)
  case atStart => exact ⟨0, Nat.zero_le _, rfl, Lib.hid ⟨Nat.zero_le _, .inl rfl⟩⟩
  case round =>
    obtain ⟨k, hk, rfl, HK⟩ := hrel
    by_cases hlt : k < s.size
    · have i1 : (k : Int) < (s.size : Int) := by omega
      have hget : s.data.toList[k]? = some s[k] := by
        rw [List.getElem?_eq_getElem (by rw [bs_size]; exact hlt)]; rfl
      have hts : s.data.toList.take (k + 1) = s.data.toList.take k ++ [s[k]] := by rw [List.take_add_one, hget]; rfl
      have hcl := s[k].toNat_lt
      by_cases hc : s[k] = 58
      · have HE := Lib.hid (schN_end (r := s.data.toList) (k := k) (lead_stop (· != 58) s.data.toList k HK.out.1 (fun x hx => by rw [hget] at hx; injection hx with hx; rw [← hx, hc]; rfl)) (by rw [bs_size]; exact hlt) HK.out.2)
        have h58 : (s[k].toNat : Int) = 58 := by rw [hc]; rfl
        clear hget hts hc hcl
        go_wp2
        go_ret
        exact ⟨by rw [HE.out]; rfl, rfl⟩
      · have hst := lead_step (· != 58) s.data.toList k s[k] HK.out.1 hget (by simpa using hc)
        have h58 : ¬ (s[k].toNat : Int) = 58 := fun e => hc (by rw [u8eq]; show s[k].toNat = 58; omega)
        have b58 : ((s[k].toNat : Int) == 58) = false := by rw [beq_eq_false_iff_ne]; exact h58
        have HST := Lib.hid hst
        have HGT := Lib.hid hget
        have HTS := Lib.hid hts
        have HBad := Lib.hid (fun (h : schc s[k] = false ∨ (k = 0 ∧ alphac s[k] = false)) => schN_bad hst hget h)
        clear hst hget hts hc
        by_cases ha : (65 ≤ (s[k].toNat : Int) ∧ (s[k].toNat : Int) ≤ 90) ∨ (97 ≤ (s[k].toNat : Int) ∧ (s[k].toNat : Int) ≤ 122)
        · have hal : alphac s[k] = true := decide_eq_true (by omega)
          have HR := Lib.hid (show k + 1 ≤ lead (· != 58) s.data.toList ∧ (k + 1 = 0 ∨ nameOk (s.data.toList.take (k + 1)) = true) from ⟨HST.out, .inr (by
            rw [HTS.out]
            rcases HK.out.2 with rfl | h
            · show (alphac s[0] && [s[0]].all schc) = true
              rw [hal, List.all_cons, alpha_sch hal]; rfl
            · exact name_snoc h (alpha_sch hal))⟩)
          clear hal
          rcases ha with ⟨a1, a2⟩ | ⟨a1, a2⟩
          · have a3 : ¬ (97 ≤ (s[k].toNat : Int)) := by omega
            go_wp2
            go_round
            case rel => exact ⟨k + 1, by omega, by go_num, HR⟩
            case measure => (simp [intOf] <;> omega)
          · skip
            go_wp2
            go_round
            case rel => exact ⟨k + 1, by omega, by go_num, HR⟩
            case measure => (simp [intOf] <;> omega)
        · have hna : alphac s[k] = false := decide_eq_false (by omega)
          by_cases hk0 : k = 0
          · subst hk0
            have HE := Lib.hid (HBad.out (.inr ⟨rfl, hna⟩))
            clear hna
            have hcase : (s[0].toNat : Int) < 65 ∨ (90 < (s[0].toNat : Int) ∧ (s[0].toNat : Int) < 97) ∨ 122 < (s[0].toNat : Int) := by omega
            clear ha
            rcases hcase with a1 | ⟨a1, a2⟩ | a1
            · have a3 : ¬ (97 ≤ (s[0].toNat : Int)) := by omega
              have a4 : ¬ (65 ≤ (s[0].toNat : Int)) := by omega
              go_wp2
              go_ret
              exact ⟨by rw [HE.out]; rfl, rfl⟩
            · have a3 : ¬ (97 ≤ (s[0].toNat : Int)) := by omega
              have a4 : 65 ≤ (s[0].toNat : Int) := by omega
              have a5 : ¬ ((s[0].toNat : Int) ≤ 90) := by omega
              go_wp2
              go_ret
              exact ⟨by rw [HE.out]; rfl, rfl⟩
            · have a3 : 97 ≤ (s[0].toNat : Int) := by omega
              have a4 : 65 ≤ (s[0].toNat : Int) := by omega
              have a5 : ¬ ((s[0].toNat : Int) ≤ 90) := by omega
              have a6 : ¬ ((s[0].toNat : Int) ≤ 122) := by omega
              go_wp2
              go_ret
              exact ⟨by rw [HE.out]; rfl, rfl⟩
          · have bk : ((k : Int) == 0) = false := by rw [beq_eq_false_iff_ne]; omega
            have HNm := Lib.hid (HK.out.2.resolve_left hk0)
            clear hna
            by_cases hs1 : schc s[k] = true
            · have HR := Lib.hid (show k + 1 ≤ lead (· != 58) s.data.toList ∧ (k + 1 = 0 ∨ nameOk (s.data.toList.take (k + 1)) = true) from ⟨HST.out, .inr (by rw [HTS.out]; exact name_snoc HNm.out hs1)⟩)
              have hcase : (s[k].toNat : Int) = 43 ∨ (s[k].toNat : Int) = 45 ∨ (s[k].toNat : Int) = 46 ∨ (48 ≤ (s[k].toNat : Int) ∧ (s[k].toNat : Int) ≤ 57) := by
                have := of_decide_eq_true (show decide _ = true from hs1)
                omega
              clear ha hs1 b58 h58
              rcases hcase with a1 | a1 | a1 | ⟨a1, a2⟩
              · skip
                go_wp2
                go_round
                case rel => exact ⟨k + 1, by omega, by go_num, HR⟩
                case measure => (simp [intOf] <;> omega)
              · skip
                go_wp2
                go_round
                case rel => exact ⟨k + 1, by omega, by go_num, HR⟩
                case measure => (simp [intOf] <;> omega)
              · skip
                go_wp2
                go_round
                case rel => exact ⟨k + 1, by omega, by go_num, HR⟩
                case measure => (simp [intOf] <;> omega)
              · have a3 : ¬ (97 ≤ (s[k].toNat : Int)) := by omega
                have a4 : ¬ (65 ≤ (s[k].toNat : Int)) := by omega
                have b58 : ((s[k].toNat : Int) == 58) = false := by rw [beq_eq_false_iff_ne]; omega
                have b43 : ((s[k].toNat : Int) != 43) = true := by rw [bne_iff_ne]; omega
                have b45 : ((s[k].toNat : Int) != 45) = true := by rw [bne_iff_ne]; omega
                have b46 : ((s[k].toNat : Int) != 46) = true := by rw [bne_iff_ne]; omega
                have a5 : ¬ ((s[k].toNat : Int) < 48) := by omega
                have a6 : ¬ (57 < (s[k].toNat : Int)) := by omega
                go_wp2
                go_round
                case rel => exact ⟨k + 1, by omega, by go_num, HR⟩
                case measure => (simp [intOf] <;> omega)
            · have HE := Lib.hid (HBad.out (.inl (by simpa using hs1)))
              have hn : ¬ ((s[k].toNat : Int) = 43) ∧ ¬ ((s[k].toNat : Int) = 45) ∧ ¬ ((s[k].toNat : Int) = 46) ∧ ((s[k].toNat : Int) < 48 ∨ 57 < (s[k].toNat : Int)) := by
                have h1 : schc s[k] = false := by simpa using hs1
                unfold schc at h1
                have h2 := of_decide_eq_false h1
                omega
              obtain ⟨n1, n2, n3, n4⟩ := hn
              have b43 : ((s[k].toNat : Int) != 43) = true := by rw [bne_iff_ne]; exact n1
              have b45 : ((s[k].toNat : Int) != 45) = true := by rw [bne_iff_ne]; exact n2
              have b46 : ((s[k].toNat : Int) != 46) = true := by rw [bne_iff_ne]; exact n3
              have hcase : (s[k].toNat : Int) < 48 ∨ (57 < (s[k].toNat : Int) ∧ (s[k].toNat : Int) < 65) ∨ (90 < (s[k].toNat : Int) ∧ (s[k].toNat : Int) < 97) ∨ 122 < (s[k].toNat : Int) := by omega
              clear hs1 n1 n2 n3 n4 ha h58
              rcases hcase with a1 | ⟨a1, a2⟩ | ⟨a1, a2⟩ | a1
              · have a3 : ¬ (97 ≤ (s[k].toNat : Int)) := by omega
                have a4 : ¬ (65 ≤ (s[k].toNat : Int)) := by omega
                go_wp2
                go_ret
                exact ⟨by rw [HE.out]; rfl, rfl⟩
              · have a3 : ¬ (97 ≤ (s[k].toNat : Int)) := by omega
                have a4 : ¬ (65 ≤ (s[k].toNat : Int)) := by omega
                have a5 : ¬ ((s[k].toNat : Int) < 48) := by omega
                go_wp2
                go_ret
                exact ⟨by rw [HE.out]; rfl, rfl⟩
              · have a3 : ¬ (97 ≤ (s[k].toNat : Int)) := by omega
                have a4 : 65 ≤ (s[k].toNat : Int) := by omega
                have a5 : ¬ ((s[k].toNat : Int) < 48) := by omega
                have a6 : ¬ ((s[k].toNat : Int) ≤ 90) := by omega
                have a7 : 57 < (s[k].toNat : Int) := by omega
                go_wp2
                go_ret
                exact ⟨by rw [HE.out]; rfl, rfl⟩
              · have a3 : 97 ≤ (s[k].toNat : Int) := by omega
                have a4 : 65 ≤ (s[k].toNat : Int) := by omega
                have a5 : ¬ ((s[k].toNat : Int) < 48) := by omega
                have a6 : ¬ ((s[k].toNat : Int) ≤ 90) := by omega
                have a7 : 57 < (s[k].toNat : Int) := by omega
                have a8 : ¬ ((s[k].toNat : Int) ≤ 122) := by omega
                go_wp2
                go_ret
                exact ⟨by rw [HE.out]; rfl, rfl⟩
    · have HE := Lib.hid (schN_none (r := s.data.toList) (by have h1 := HK.out.1; have h2 := HLE.out; rw [bs_size]; omega))
      have i1 : (s.size : Int) ≤ (k : Int) := by omega
      go_wp2
      go_ret
      exact ⟨by rw [HE.out]; rfl, rfl⟩
end Go.Proofs.YtmkpejioinkceaaGreatDoor

namespace Go.Proofs.YtmkpejioinkceaaGreatDoor
open Go.RowKit
set_option linter.unusedVariables false

set_option maxRecDepth 100000 in
set_option maxHeartbeats 1000000 in
theorem ref10_whole (t : ByteArray) (w : World) (hs : t.size ≤ 1000000) :
    Calls Tryz.prog 65 #[.string t] w (Ret w (parseV (wholeB t.data.toList))) := by
  have HW0 := Lib.hid ((Below.refl w.heap.size w).alloc (Nat.le_refl _) (uObj noU))
  have HR0 := Lib.hid (show UBx (w.alloc (.cells #[.string ⟨#[]⟩, .string ⟨#[]⟩, .int .i64 0, .string ⟨#[]⟩, .string ⟨#[]⟩, .bool false] 23)) w.heap.size noU from heap_alloc_new w _)
  go_enter Tryz.func65, Tryz.ntmps65
  go_wp2_with fail
  have HW := Lib.hid (show Below w.heap.size w (w.alloc (.cells #[.string ⟨#[]⟩, .string ⟨#[]⟩, .int .i64 0, .string ⟨#[]⟩, .string ⟨#[]⟩, .bool false] 23)) from HW0.out)
  clear HW0
  generalize w.alloc (.cells #[.string ⟨#[]⟩, .string ⟨#[]⟩, .int .i64 0, .string ⟨#[]⟩, .string ⟨#[]⟩, .bool false] 23) = W0 at *
  refine (ref09_Parse t W0 (by omega)).mono ?_
  rintro e w1 ⟨rfl, hb1⟩
  generalize hpt : parseB t.data.toList = pt at *
  obtain ⟨u9, ec⟩ := pt
  have HPT := Lib.hid hpt
  clear hpt
  have hz := HW.out.size
  have hlt := HR0.out.lt
  have hz1 := hb1.size
  have HR1 := Lib.hid ((HR0.out.next hb1).next ((Below.refl w1.heap.size w1).alloc (Nat.le_refl _) (uObj u9)))
  have HW1 := Lib.hid ((HW.out.trans (hb1.mono hz)).alloc (by omega) (uObj u9))
  have HB1 := Lib.hid (ubx_new w1 u9)
  clear hb1 HR0 HW
  rcases parse_code HPT.out with rfl | ⟨rfl, rfl | rfl⟩
  · have HE := Lib.hid (show wholeB t.data.toList = (normB u9, 0) from whole_ok HPT.out)
    have HOK := Lib.hid (parse_back HPT.out).ok
    obtain ⟨d0, d1, d2, d3, d4, d5⟩ := HB1.out.cells
    go_wp2_with fail
    have HR1 := Lib.hid (show UBx (w1.alloc (.cells #[.string ⟨u9.scheme.toArray⟩, .string ⟨u9.host.toArray⟩, .int .i64 u9.port, .string ⟨u9.path.toArray⟩, .string ⟨u9.query.toArray⟩, .bool u9.hq] 23)) w.heap.size noU from HR1.out)
    have HW1 := Lib.hid (show Below w.heap.size w (w1.alloc (.cells #[.string ⟨u9.scheme.toArray⟩, .string ⟨u9.host.toArray⟩, .int .i64 u9.port, .string ⟨u9.path.toArray⟩, .string ⟨u9.query.toArray⟩, .bool u9.hq] 23)) from HW1.out)
    generalize w1.alloc (.cells #[.string ⟨u9.scheme.toArray⟩, .string ⟨u9.host.toArray⟩, .int .i64 u9.port, .string ⟨u9.path.toArray⟩, .string ⟨u9.query.toArray⟩, .bool u9.hq] 23) = W2 at *
    refine (ref09_Normal u9 W2 (limU_ok HOK.out)).mono ?_
    rintro e w3 ⟨rfl, hb3⟩
    have HR3 := Lib.hid (HR1.out.next hb3)
    have HW3 := Lib.hid (HW1.out.trans (hb3.mono HW1.out.size))
    clear hb3 d0 d1 d2 d3 d4 d5
    generalize normB u9 = un at *
    have HQ := Lib.hid (put6 un HW3.out (Nat.le_refl _) HR3.out)
    have rb := HR3.out.full
    obtain ⟨r0, r1, r2, r3, r4, r5⟩ := rb.c
    have g0 := rb.f0
    have g1 := rb.f1
    have g2 := rb.f2
    have g3 := rb.f3
    have g4 := rb.f4
    have g5 := rb.f5
    clear rb
    go_wp2_with fail
    clear r0 r1 r2 r3 r4 r5 g0 g1 g2 g3 g4 g5
    obtain ⟨k0, k1, k2, k3, k4, k5⟩ := HQ.out.1.cells
    unfold put6w at k0 k1 k2 k3 k4 k5
    refine bodyPost_ret (v := parseV (un, 0)) ?_ rfl ⟨by rw [HE.out], HQ.out.2⟩
    simp [results, Tryz.f65, go_sem, k0, k1, k2, k3, k4, k5]
  · have HE := Lib.hid (show wholeB t.data.toList = (noU, 3) from whole_no HPT.out (by decide))
    have HR1 := Lib.hid (show UBx (w1.alloc (.cells #[.string ⟨noU.scheme.toArray⟩, .string ⟨noU.host.toArray⟩, .int .i64 noU.port, .string ⟨noU.path.toArray⟩, .string ⟨noU.query.toArray⟩, .bool noU.hq] 23)) w.heap.size noU from HR1.out)
    have HW1 := Lib.hid (show Below w.heap.size w (w1.alloc (.cells #[.string ⟨noU.scheme.toArray⟩, .string ⟨noU.host.toArray⟩, .int .i64 noU.port, .string ⟨noU.path.toArray⟩, .string ⟨noU.query.toArray⟩, .bool noU.hq] 23)) from HW1.out)
    go_upto_if 12 with fail
    generalize w1.alloc (.cells #[.string ⟨noU.scheme.toArray⟩, .string ⟨noU.host.toArray⟩, .int .i64 noU.port, .string ⟨noU.path.toArray⟩, .string ⟨noU.query.toArray⟩, .bool noU.hq] 23) = W2 at *
    have HQ := Lib.hid (put6 noU HW1.out (Nat.le_refl _) HR1.out)
    have rb := HR1.out.full
    obtain ⟨r0, r1, r2, r3, r4, r5⟩ := rb.c
    have g0 := rb.f0
    have g1 := rb.f1
    have g2 := rb.f2
    have g3 := rb.f3
    have g4 := rb.f4
    have g5 := rb.f5
    clear rb
    go_wp2_with fail
    clear r0 r1 r2 r3 r4 r5 g0 g1 g2 g3 g4 g5
    obtain ⟨k0, k1, k2, k3, k4, k5⟩ := HQ.out.1.cells
    unfold put6w at k0 k1 k2 k3 k4 k5
    simp only [noU] at k0 k1 k2 k3 k4 k5
    refine bodyPost_ret (v := parseV (noU, 3)) ?_ rfl ⟨by rw [HE.out], HQ.out.2⟩
    simp [results, Tryz.f65, go_sem, k0, k1, k2, k3, k4, k5, noU]
  · have HE := Lib.hid (show wholeB t.data.toList = (noU, 4) from whole_no HPT.out (by decide))
    have HR1 := Lib.hid (show UBx (w1.alloc (.cells #[.string ⟨noU.scheme.toArray⟩, .string ⟨noU.host.toArray⟩, .int .i64 noU.port, .string ⟨noU.path.toArray⟩, .string ⟨noU.query.toArray⟩, .bool noU.hq] 23)) w.heap.size noU from HR1.out)
    have HW1 := Lib.hid (show Below w.heap.size w (w1.alloc (.cells #[.string ⟨noU.scheme.toArray⟩, .string ⟨noU.host.toArray⟩, .int .i64 noU.port, .string ⟨noU.path.toArray⟩, .string ⟨noU.query.toArray⟩, .bool noU.hq] 23)) from HW1.out)
    go_upto_if 12 with fail
    generalize w1.alloc (.cells #[.string ⟨noU.scheme.toArray⟩, .string ⟨noU.host.toArray⟩, .int .i64 noU.port, .string ⟨noU.path.toArray⟩, .string ⟨noU.query.toArray⟩, .bool noU.hq] 23) = W2 at *
    have HQ := Lib.hid (put6 noU HW1.out (Nat.le_refl _) HR1.out)
    have rb := HR1.out.full
    obtain ⟨r0, r1, r2, r3, r4, r5⟩ := rb.c
    have g0 := rb.f0
    have g1 := rb.f1
    have g2 := rb.f2
    have g3 := rb.f3
    have g4 := rb.f4
    have g5 := rb.f5
    clear rb
    go_wp2_with fail
    clear r0 r1 r2 r3 r4 r5 g0 g1 g2 g3 g4 g5
    obtain ⟨k0, k1, k2, k3, k4, k5⟩ := HQ.out.1.cells
    unfold put6w at k0 k1 k2 k3 k4 k5
    simp only [noU] at k0 k1 k2 k3 k4 k5
    refine bodyPost_ret (v := parseV (noU, 4)) ?_ rfl ⟨by rw [HE.out], HQ.out.2⟩
    simp [results, Tryz.f65, go_sem, k0, k1, k2, k3, k4, k5, noU]
end Go.Proofs.YtmkpejioinkceaaGreatDoor

namespace Go.Proofs.YtmkpejioinkceaaGreatDoor
open Go.RowKit
set_option linter.unusedVariables false

theorem schN_yes {r : Bs} (h : schB r = true) : schN r = lead (· != 58) r ∧ 0 < lead (· != 58) r ∧ lead (· != 58) r < r.length := by
  have h2 := h
  unfold schB at h2
  rw [Bool.and_eq_true] at h2
  refine ⟨by unfold schN; rw [if_pos h], ?_, lead_lt 58 r h2.1⟩
  rcases Nat.eq_zero_or_pos (lead (· != 58) r) with h0 | h0
  · have hu : upto 58 r = [] := by rw [← take_upto, h0]; rfl
    rw [hu] at h2; cases h2.2
  · exact h0
theorem schN_no {r : Bs} (h : schB r = false) : schN r = 0 := by unfold schN; rw [if_neg (by rw [h]; decide)]
theorem sch_cut {r : Bs} (h : r.contains 58 = true) : r.drop (lead (· != 58) r) = 58 :: past 58 r := by
  have hl := lead_lt 58 r h
  rw [List.drop_eq_getElem_cons hl, drop_past]
  have e := lead_at h
  rw [List.getElem?_eq_getElem hl, Option.some.injEq] at e
  rw [e]
theorem cat_data (a b : Bs) : ((⟨a.toArray⟩ : ByteArray) ++ ⟨b.toArray⟩).data.toList = a ++ b := by rw [cat_bs]
theorem last_step {B : ByteArray} {k : Nat} (hk : k < B.size) : (Lib.lastIdx B 47 (k + 1)).toNat = if B[k] = 47 then k else (Lib.lastIdx B 47 k).toNat := by
  have e : B.data[k]! = B[k] := by
    rw [getElem!_pos B.data k hk]; rfl
  by_cases h : B[k] = 47
  · rw [if_pos h, Lib.lastIdx_hit _ _ _ (by rw [e, h]; rfl)]; simp
  · rw [if_neg h, Lib.lastIdx_miss _ _ _ (by rw [e]; exact fun q => h (by rw [u8eq]; show B[k].toNat = 47; omega))]
theorem last_lt {l : Bs} : ∀ k, (Lib.lastIdx ⟨l.toArray⟩ 47 k).toNat ≤ k
  | 0 => by simp [Lib.lastIdx]
  | k + 1 => by
    unfold Lib.lastIdx
    split
    · simp
    · have := last_lt (l := l) k; omega

set_option maxRecDepth 100000 in
set_option maxHeartbeats 3000000 in
theorem ref10_Ref (u : U) (s : Bs) (w : World) (hl : LimU u) (hs : s.length ≤ 1000000) :
    Calls Tryz.prog 35 #[uV u, .string ⟨s.toArray⟩] w (Ret w (parseV (refB u s))) := by
  have HN := Lib.hid (na_new w u)
  have HL := Lib.hid hl
  clear hl
  by_cases h1 : 1024 < s.length
  · have hli : (1024 : Int) < (s.length : Int) := by omega
    have HE := Lib.hid (ref_long (b := u) h1)
    clear h1
    go_enter Tryz.func35, Tryz.ntmps35
    go_upto_if 16 with fail
    generalize (w.alloc (.cells #[.string ⟨u.scheme.toArray⟩, .string ⟨u.host.toArray⟩, .int .i64 u.port, .string ⟨u.path.toArray⟩, .string ⟨u.query.toArray⟩, .bool u.hq] 23)).alloc (.cells #[.string ⟨#[]⟩, .string ⟨#[]⟩, .int .i64 0, .string ⟨#[]⟩, .string ⟨#[]⟩, .bool false] 23) = W at *
    have HQ := Lib.hid (put6 noU HN.out.below (Nat.le_succ _) HN.out.res)
    have rb := HN.out.res.full
    obtain ⟨r0, r1, r2, r3, r4, r5⟩ := rb.c
    have g0 := rb.f0
    have g1 := rb.f1
    have g2 := rb.f2
    have g3 := rb.f3
    have g4 := rb.f4
    have g5 := rb.f5
    clear rb
    go_wp2_with fail
    clear r0 r1 r2 r3 r4 r5 g0 g1 g2 g3 g4 g5
    obtain ⟨k0, k1, k2, k3, k4, k5⟩ := HQ.out.1.cells
    unfold put6w at k0 k1 k2 k3 k4 k5
    simp only [noU] at k0 k1 k2 k3 k4 k5
    refine bodyPost_ret (v := parseV (noU, 3)) ?_ rfl ⟨by rw [HE.out], HQ.out.2⟩
    simp [results, Tryz.f35, go_sem, k0, k1, k2, k3, k4, k5, noU]
  · have hli : ¬ ((1024 : Int) < (s.length : Int)) := by omega
    obtain ⟨c0, c1, c2, c3, c4, c5⟩ := HN.out.box.cells
    go_enter Tryz.func35, Tryz.ntmps35
    go_wp2_with fail
    generalize (w.alloc (.cells #[.string ⟨u.scheme.toArray⟩, .string ⟨u.host.toArray⟩, .int .i64 u.port, .string ⟨u.path.toArray⟩, .string ⟨u.query.toArray⟩, .bool u.hq] 23)).alloc (.cells #[.string ⟨#[]⟩, .string ⟨#[]⟩, .int .i64 0, .string ⟨#[]⟩, .string ⟨#[]⟩, .bool false] 23) = W at *
    refine (ref09_Check u W HL.out).mono ?_
    rintro e w1 ⟨rfl, hb1⟩
    have HN1 := Lib.hid (HN.out.next hb1)
    clear hb1 c0 c1 c2 c3 c4 c5 HN
    by_cases hc : checkB u = 0
    · have HE0 := Lib.hid (ref_ok h1 hc)
      have hok := (checkB_ok u).1 hc
      have hform := hok
      unfold okB at hform
      rw [Bool.and_eq_true, form_iff, decide_eq_true_eq] at hform
      have HP7 := Lib.hid (show u.path.contains 47 = true by obtain ⟨pr, hpe, _⟩ := hform.1.path; rw [hpe]; exact slash_in)
      have htl : (textB u).length ≤ 1024 := hform.2
      have hlen := (show u.scheme.length ≤ 1024 ∧ u.path.length ≤ 1024 ∧ u.query.length ≤ 10000 ∧ u.host.length ≤ 10000 by
        have e := text_parts u
        rw [e] at htl
        simp only [List.length_append] at htl
        exact ⟨by omega, by omega, HL.out.query, HL.out.host⟩)
      obtain ⟨l1, l2, l3, l4⟩ := hlen
      rw [hc]
      clear hc hok hform htl
      go_wp2_with fail
      refine (ref10_find ⟨s.toArray⟩ 35 w1 (by show s.length ≤ _; omega)).mono ?_
      rintro e w1' ⟨rfl, rfl⟩
      rw [show (⟨s.toArray⟩ : ByteArray).data.toList = s from rfl]
      have hul := upto_sub 35 s
      have x1 := extU_take s 35
      have y1 := lead_le (· != 35) s
      generalize lead (· != 35) s = K at *
      generalize upto 35 s = r at *
      have hrl : r.length ≤ 1024 := by omega
      have z1 : (K : Int) ≤ (s.length : Int) := by omega
      clear hul
      go_wp2_with fail
      refine (ref10_scheme ⟨r.toArray⟩ w1 (by show r.length ≤ _; omega)).mono ?_
      rintro e w1' ⟨rfl, rfl⟩
      rw [show (⟨r.toArray⟩ : ByteArray).data.toList = r from rfl]
      clear x1 y1 z1
      rcases hsc : schB r with _ | _
      · rw [schN_no hsc]
        have HSC := Lib.hid hsc
        clear hsc
        go_wp2_with fail
        refine (ref10_begins r w1 (by omega)).mono ?_
        rintro e w1' ⟨rfl, rfl⟩
        obtain ⟨c0, c1, c2, c3, c4, c5⟩ := HN1.out.box.cells
        rcases hp : Lib.hasPrefix r twoSl with _ | _
        · have HX := Lib.hid (show refB u s = checkedB (withinB u r) by rw [HE0.out]; exact refC_in HSC.out hp)
          have HWL := Lib.hid (within_lim (u := u) (r := r) (by omega) l4 (by omega) l3 (by omega))
          clear hp
          go_wp2_with fail
          refine (ref10_find ⟨r.toArray⟩ 63 w1 (by show r.length ≤ _; omega)).mono ?_
          rintro e w1' ⟨rfl, rfl⟩
          rw [show (⟨r.toArray⟩ : ByteArray).data.toList = r from rfl]
          have HR4 := Lib.hid (rb_new HN1.out)
          have HWi := Lib.hid (show withinB u r = withPath (withQuery u r) u (upto 63 r) from rfl)
          have HWq := Lib.hid (show withQuery u r = if upto 63 r = [] ∧ r.contains 63 = false then u else { u with query := past 63 r, hq := r.contains 63 } from rfl)
          have hpu := upto_sub 63 r
          have x1 := extU_take r 63
          have x2 := extU_rest r 63 r.length (Nat.le_refl _)
          have y1 := lead_le (· != 63) r
          have HLT := Lib.hid (fun h => lead_lt 63 r h)
          have HAL := Lib.hid (fun h => past_all 63 r h)
          have HUA := Lib.hid (fun h => upto_all 63 r h)
          have HTU := Lib.hid (take_upto 63 r)
          generalize upto 63 r = p at *
          generalize past 63 r = q at *
          generalize withinB u r = u9 at *
          generalize withQuery u r = u8 at *
          generalize lead (· != 63) r = K2 at *
          have z1 : (K2 : Int) ≤ (r.length : Int) := by omega
          go_upto_if 76 with fail
          clear c0 c1 c2 c3 c4 c5 HN1
          have HR4 := Lib.hid (show RB w (w1.alloc (.cells #[.string ⟨u.scheme.toArray⟩, .string ⟨u.host.toArray⟩, .int .i64 u.port, .string ⟨u.path.toArray⟩, .string ⟨u.query.toArray⟩, .bool u.hq] 23)) u u w1.heap.size from HR4.out)
          go_cut [] (fun wx => Hid (RB w wx u u8 w1.heap.size))
          case first =>
            generalize w1.alloc (.cells #[.string ⟨u.scheme.toArray⟩, .string ⟨u.host.toArray⟩, .int .i64 u.port, .string ⟨u.path.toArray⟩, .string ⟨u.query.toArray⟩, .bool u.hq] 23) = W4 at *
            generalize w1.heap.size = b9 at *
            have c4 := HR4.out.box.cells.c4
            have f4 := HR4.out.box.full.f4
            rcases hq : r.contains 63 with _ | _
            · have hpr := HUA.out hq
              have hqn := HAL.out hq
              have hK : K2 = r.length := by
                have h := HTU.out
                rw [hpr] at h
                have h2 := congrArg List.length h
                rw [List.length_take] at h2; omega
              have hKi : ¬ ((K2 : Int) < (r.length : Int)) := by omega
              have HQN := Lib.hid hqn
              clear hqn hpr hK
              rcases hpc : p with _ | ⟨c, t⟩
              · have HU8 := Lib.hid (show u8 = u by rw [HWq.out, hpc, hq]; rfl)
                subst hpc
                clear hq
                go_wp2_with fail
                go_meet
                exact Lib.hid (by rw [HU8.out]; exact HR4.out)
              · have HU8 := Lib.hid (show u8 = { u with query := [], hq := false } by rw [HWq.out, hpc, hq, HQN.out, if_neg (by simp)])
                subst hpc
                have HS1 := Lib.hid (HR4.out.set1 (HR4.out.box.s4 []))
                have c5 := HS1.out.box.cells.c5
                have f5 := HS1.out.box.full.f5
                have HS2 := Lib.hid (HS1.out.set1 (HS1.out.box.s5 false))
                clear hq
                go_wp2_with fail
                go_meet
                exact Lib.hid (by rw [HU8.out]; exact HS2.out)
            · have hKl := HLT.out hq
              have hKi : (K2 : Int) < (r.length : Int) := by omega
              have z4 : ((K2 : Int) + 1).toNat = K2 + 1 := by omega
              have HU8 := Lib.hid (show u8 = { u with query := q, hq := true } by rw [HWq.out, hq, if_neg (by simp)])
              have HS1 := Lib.hid (HR4.out.set1 (HR4.out.box.s4 q))
              have c5 := HS1.out.box.cells.c5
              have f5 := HS1.out.box.full.f5
              have HS2 := Lib.hid (HS1.out.set1 (HS1.out.box.s5 true))
              clear hq
              go_wp2_with fail
              go_meet
              exact Lib.hid (by rw [HU8.out]; exact HS2.out)
          case rest =>
            generalize w1.heap.size = b9 at *
            have HR8 := hcut
            clear hcut HR4 HWq HLT HAL HUA HTU x1 x2 y1 z1
            rcases p with _ | ⟨c, t⟩
            · have HU9 := Lib.hid (show u9 = u8 from HWi.out)
              have HR9 := Lib.hid (show RB w wc u u9 b9 by rw [HU9.out]; exact HR8.out)
              clear HR8 HWi
              obtain ⟨d0, d1, d2, d3, d4, d5⟩ := HR9.out.box.cells
              go_wp2_with fail
              refine (ref09_Check u9 _ ⟨HWL.out.1, HWL.out.2.1, HWL.out.2.2.1, HWL.out.2.2.2⟩).mono ?_
              rintro e w6 ⟨rfl, hb6⟩
              have HR6 := Lib.hid (HR9.out.next hb6)
              clear hb6 d0 d1 d2 d3 d4 d5 HR9
              by_cases hck : checkB u9 = 0
              · have HE := Lib.hid (show refB u s = (normB u9, 0) by rw [HX.out]; exact checked_ok hck)
                have HOK := Lib.hid ((checkB_ok u9).1 hck)
                rw [hck]
                clear hck
                obtain ⟨d0, d1, d2, d3, d4, d5⟩ := HR6.out.box.cells
                go_wp2_with fail
                refine (ref09_Normal u9 _ (limU_ok HOK.out)).mono ?_
                rintro e w9 ⟨rfl, hb9⟩
                have HN9 := Lib.hid (HR6.out.na.next hb9)
                clear hb9 d0 d1 d2 d3 d4 d5
                generalize normB u9 = un at *
                have HQ := Lib.hid (put6 un HN9.out.below (Nat.le_succ _) HN9.out.res)
                have rb := HN9.out.res.full
                obtain ⟨r0, r1, r2, r3, r4, r5⟩ := rb.c
                have g0 := rb.f0
                have g1 := rb.f1
                have g2 := rb.f2
                have g3 := rb.f3
                have g4 := rb.f4
                have g5 := rb.f5
                clear rb
                go_wp2_with fail
                clear r0 r1 r2 r3 r4 r5 g0 g1 g2 g3 g4 g5
                obtain ⟨k0, k1, k2, k3, k4, k5⟩ := HQ.out.1.cells
                unfold put6w at k0 k1 k2 k3 k4 k5
                refine bodyPost_ret (v := parseV (un, 0)) ?_ rfl ⟨by rw [HE.out], HQ.out.2⟩
                simp [results, Tryz.f35, go_sem, k0, k1, k2, k3, k4, k5]
              · have HEx := Lib.hid (checked_no hck)
                rcases check_codes hck with h3 | h3
                · have HE := Lib.hid (show refB u s = (noU, 3) by rw [HX.out, HEx.out, h3])
                  rw [h3]
                  clear hck h3 HEx
                  have HQ := Lib.hid (put6 noU HR6.out.na.below (Nat.le_succ _) HR6.out.na.res)
                  have rb := HR6.out.na.res.full
                  obtain ⟨r0, r1, r2, r3, r4, r5⟩ := rb.c
                  have g0 := rb.f0
                  have g1 := rb.f1
                  have g2 := rb.f2
                  have g3 := rb.f3
                  have g4 := rb.f4
                  have g5 := rb.f5
                  clear rb
                  go_wp2_with fail
                  clear r0 r1 r2 r3 r4 r5 g0 g1 g2 g3 g4 g5
                  obtain ⟨k0, k1, k2, k3, k4, k5⟩ := HQ.out.1.cells
                  unfold put6w at k0 k1 k2 k3 k4 k5
                  simp only [noU] at k0 k1 k2 k3 k4 k5
                  refine bodyPost_ret (v := parseV (noU, 3)) ?_ rfl ⟨by rw [HE.out], HQ.out.2⟩
                  simp [results, Tryz.f35, go_sem, k0, k1, k2, k3, k4, k5, noU]
                · have HE := Lib.hid (show refB u s = (noU, 4) by rw [HX.out, HEx.out, h3])
                  rw [h3]
                  clear hck h3 HEx
                  have HQ := Lib.hid (put6 noU HR6.out.na.below (Nat.le_succ _) HR6.out.na.res)
                  have rb := HR6.out.na.res.full
                  obtain ⟨r0, r1, r2, r3, r4, r5⟩ := rb.c
                  have g0 := rb.f0
                  have g1 := rb.f1
                  have g2 := rb.f2
                  have g3 := rb.f3
                  have g4 := rb.f4
                  have g5 := rb.f5
                  clear rb
                  go_wp2_with fail
                  clear r0 r1 r2 r3 r4 r5 g0 g1 g2 g3 g4 g5
                  obtain ⟨k0, k1, k2, k3, k4, k5⟩ := HQ.out.1.cells
                  unfold put6w at k0 k1 k2 k3 k4 k5
                  simp only [noU] at k0 k1 k2 k3 k4 k5
                  refine bodyPost_ret (v := parseV (noU, 4)) ?_ rfl ⟨by rw [HE.out], HQ.out.2⟩
                  simp [results, Tryz.f35, go_sem, k0, k1, k2, k3, k4, k5, noU]
            · have hx : ∀ h, ((⟨(c :: t).toArray⟩ : ByteArray)[0]'h) = c := fun _ => rfl
              have d3 := HR8.out.box.cells.c3
              have f3 := HR8.out.box.full.f3
              by_cases hc : c = 47
              · subst hc
                have hx47 : ((47 : UInt8).toNat : Int) = 47 := rfl
                have HU9 := Lib.hid (show u9 = { u8 with path := 47 :: t } by rw [HWi.out]; rfl)
                have HR9 := Lib.hid (show RB w _ u u9 b9 by rw [HU9.out]; exact HR8.out.set1 (HR8.out.box.s3 (47 :: t)))
                go_upto_region 33 with fail
                generalize wc.setCell ⟨b9, 3, none⟩ (.string ⟨(47 :: t).toArray⟩) = W9 at *
                clear d3 f3 HR8 HWi
                obtain ⟨d0, d1, d2, d3, d4, d5⟩ := HR9.out.box.cells
                go_wp2_with fail
                refine (ref09_Check u9 _ ⟨HWL.out.1, HWL.out.2.1, HWL.out.2.2.1, HWL.out.2.2.2⟩).mono ?_
                rintro e w6 ⟨rfl, hb6⟩
                have HR6 := Lib.hid (HR9.out.next hb6)
                clear hb6 d0 d1 d2 d3 d4 d5 HR9
                by_cases hck : checkB u9 = 0
                · have HE := Lib.hid (show refB u s = (normB u9, 0) by rw [HX.out]; exact checked_ok hck)
                  have HOK := Lib.hid ((checkB_ok u9).1 hck)
                  rw [hck]
                  clear hck
                  obtain ⟨d0, d1, d2, d3, d4, d5⟩ := HR6.out.box.cells
                  go_wp2_with fail
                  refine (ref09_Normal u9 _ (limU_ok HOK.out)).mono ?_
                  rintro e w9 ⟨rfl, hb9⟩
                  have HN9 := Lib.hid (HR6.out.na.next hb9)
                  clear hb9 d0 d1 d2 d3 d4 d5
                  generalize normB u9 = un at *
                  have HQ := Lib.hid (put6 un HN9.out.below (Nat.le_succ _) HN9.out.res)
                  have rb := HN9.out.res.full
                  obtain ⟨r0, r1, r2, r3, r4, r5⟩ := rb.c
                  have g0 := rb.f0
                  have g1 := rb.f1
                  have g2 := rb.f2
                  have g3 := rb.f3
                  have g4 := rb.f4
                  have g5 := rb.f5
                  clear rb
                  go_wp2_with fail
                  clear r0 r1 r2 r3 r4 r5 g0 g1 g2 g3 g4 g5
                  obtain ⟨k0, k1, k2, k3, k4, k5⟩ := HQ.out.1.cells
                  unfold put6w at k0 k1 k2 k3 k4 k5
                  refine bodyPost_ret (v := parseV (un, 0)) ?_ rfl ⟨by rw [HE.out], HQ.out.2⟩
                  simp [results, Tryz.f35, go_sem, k0, k1, k2, k3, k4, k5]
                · have HEx := Lib.hid (checked_no hck)
                  rcases check_codes hck with h3 | h3
                  · have HE := Lib.hid (show refB u s = (noU, 3) by rw [HX.out, HEx.out, h3])
                    rw [h3]
                    clear hck h3 HEx
                    have HQ := Lib.hid (put6 noU HR6.out.na.below (Nat.le_succ _) HR6.out.na.res)
                    have rb := HR6.out.na.res.full
                    obtain ⟨r0, r1, r2, r3, r4, r5⟩ := rb.c
                    have g0 := rb.f0
                    have g1 := rb.f1
                    have g2 := rb.f2
                    have g3 := rb.f3
                    have g4 := rb.f4
                    have g5 := rb.f5
                    clear rb
                    go_wp2_with fail
                    clear r0 r1 r2 r3 r4 r5 g0 g1 g2 g3 g4 g5
                    obtain ⟨k0, k1, k2, k3, k4, k5⟩ := HQ.out.1.cells
                    unfold put6w at k0 k1 k2 k3 k4 k5
                    simp only [noU] at k0 k1 k2 k3 k4 k5
                    refine bodyPost_ret (v := parseV (noU, 3)) ?_ rfl ⟨by rw [HE.out], HQ.out.2⟩
                    simp [results, Tryz.f35, go_sem, k0, k1, k2, k3, k4, k5, noU]
                  · have HE := Lib.hid (show refB u s = (noU, 4) by rw [HX.out, HEx.out, h3])
                    rw [h3]
                    clear hck h3 HEx
                    have HQ := Lib.hid (put6 noU HR6.out.na.below (Nat.le_succ _) HR6.out.na.res)
                    have rb := HR6.out.na.res.full
                    obtain ⟨r0, r1, r2, r3, r4, r5⟩ := rb.c
                    have g0 := rb.f0
                    have g1 := rb.f1
                    have g2 := rb.f2
                    have g3 := rb.f3
                    have g4 := rb.f4
                    have g5 := rb.f5
                    clear rb
                    go_wp2_with fail
                    clear r0 r1 r2 r3 r4 r5 g0 g1 g2 g3 g4 g5
                    obtain ⟨k0, k1, k2, k3, k4, k5⟩ := HQ.out.1.cells
                    unfold put6w at k0 k1 k2 k3 k4 k5
                    simp only [noU] at k0 k1 k2 k3 k4 k5
                    refine bodyPost_ret (v := parseV (noU, 4)) ?_ rfl ⟨by rw [HE.out], HQ.out.2⟩
                    simp [results, Tryz.f35, go_sem, k0, k1, k2, k3, k4, k5, noU]
              · have hci : ((c.toNat : Int) == 47) = false := by
                  rw [beq_eq_false_iff_ne]; exact fun e => hc (by rw [u8eq]; show c.toNat = 47; omega)
                have HU9 := Lib.hid (show u9 = { u8 with path := u.path.take (lastAt u.path + 1) ++ (c :: t) } by rw [HWi.out]; show (if c = 47 then _ else _) = _; rw [if_neg hc])
                have hpos := Lib.hid (last_some HP7.out).2
                have c3 := HR8.out.na.box.cells.c3
                clear hc HWi
                obtain ⟨L, hL⟩ : ∃ L : Bs, L = u.path := ⟨_, rfl⟩
                rw [← hL] at c3 l2 HU9 hpos
                have HLA := Lib.hid (show (lastAt L : Nat) = (Lib.lastIdx ⟨L.toArray⟩ 47 L.length).toNat from rfl)
                clear hL
                have hBs : (⟨L.toArray⟩ : ByteArray).size = L.length := rfl
                have HEX := Lib.hid (fun n => show (⟨L.toArray⟩ : ByteArray).extract 0 n = ⟨(L.take n).toArray⟩ from bs_ext (by rw [ext_data]; simp))
                generalize (⟨L.toArray⟩ : ByteArray) = B at *
                have HBS := Lib.hid hBs
                have hBl : B.size ≤ 1024 := by omega
                clear hBs
                go_wp2_with fail
                go_loop [11, 12] (fun l i => ∃ k : Nat, k ≤ B.size ∧ i = .int .i64 k ∧ l = .int .i64 ((Lib.lastIdx B 47 k).toNat : Int)) (fun _ i => B.size - (intOf i).toNat)
                case atStart => exact ⟨0, Nat.zero_le _, rfl, rfl⟩
                case round =>
                  obtain ⟨k, hk, rfl, rfl⟩ := hrel
                  by_cases hlt : k < B.size
                  · have i1 : (k : Int) < (B.size : Int) := by omega
                    have HST := Lib.hid (last_step hlt)
                    by_cases hy47 : B[k] = 47
                    · have b1 : ((B[k].toNat : Int) == 47) = true := by rw [hy47]; rfl
                      have HY := Lib.hid hy47
                      clear hy47
                      go_wp2_with fail
                      go_round
                      case rel => exact ⟨k + 1, by omega, by go_num, by rw [HST.out, if_pos HY.out]⟩
                      case measure => (simp [intOf] <;> omega)
                    · have b1 : ((B[k].toNat : Int) == 47) = false := by
                        rw [beq_eq_false_iff_ne]; exact fun e => hy47 (by rw [u8eq]; show B[k].toNat = 47; omega)
                      have HY := Lib.hid hy47
                      clear hy47
                      go_wp2_with fail
                      go_round
                      case rel => exact ⟨k + 1, by omega, by go_num, by rw [HST.out, if_neg HY.out]⟩
                      case measure => (simp [intOf] <;> omega)
                  · have hKk : (Lib.lastIdx B 47 k).toNat = lastAt L := by rw [HLA.out, show k = L.length by have := HBS.out; omega]
                    have i1 : (B.size : Int) ≤ (k : Int) := by omega
                    have hll := hpos.out
                    have hBs := HBS.out
                    rw [hKk]
                    clear hKk HLA
                    generalize lastAt L = K9 at *
                    have z1 : (K9 : Int) + 1 ≤ (B.size : Int) := by omega
                    clear hBs
                    have z2 : (0 : Int) ≤ (K9 : Int) + 1 := by omega
                    have z3 : ((K9 : Int) + 1).toNat = K9 + 1 := by omega
                    have hex : B.extract 0 (K9 + 1) = ⟨(L.take (K9 + 1)).toArray⟩ := HEX.out (K9 + 1)
                    have hst : ∀ W, (Op.stringOp .add ⟨(L.take (K9 + 1)).toArray⟩ ⟨(c :: t).toArray⟩).run Tryz.prog W = .ok (.string ⟨(L.take (K9 + 1) ++ c :: t).toArray⟩) W := by
                      intro W
                      have := run_string_add_sum (P := Tryz.prog) W ⟨(L.take (K9 + 1)).toArray⟩ ⟨(c :: t).toArray⟩ (by show (L.take (K9 + 1)).length + (c :: t).length ≤ _; simp at hpu ⊢; omega)
                      rw [cat_bs] at this; exact this
                    generalize L.take (K9 + 1) ++ c :: t = np at *
                    generalize L.take (K9 + 1) = tk at *
                    have HR9 := Lib.hid (show RB w _ u u9 b9 by rw [HU9.out]; exact HR8.out.set1 (HR8.out.box.s3 np))
                    go_upto_region 33 with fail
                    generalize wc.setCell ⟨b9, 3, none⟩ (.string ⟨np.toArray⟩) = W9 at *
                    clear d3 f3 c3 HR8 hst hex
                    obtain ⟨d0, d1, d2, d3, d4, d5⟩ := HR9.out.box.cells
                    go_wp2_with fail
                    refine (ref09_Check u9 _ ⟨HWL.out.1, HWL.out.2.1, HWL.out.2.2.1, HWL.out.2.2.2⟩).mono ?_
                    rintro e w6 ⟨rfl, hb6⟩
                    have HR6 := Lib.hid (HR9.out.next hb6)
                    clear hb6 d0 d1 d2 d3 d4 d5 HR9
                    by_cases hck : checkB u9 = 0
                    · have HE := Lib.hid (show refB u s = (normB u9, 0) by rw [HX.out]; exact checked_ok hck)
                      have HOK := Lib.hid ((checkB_ok u9).1 hck)
                      rw [hck]
                      clear hck
                      obtain ⟨d0, d1, d2, d3, d4, d5⟩ := HR6.out.box.cells
                      go_wp2_with fail
                      refine (ref09_Normal u9 _ (limU_ok HOK.out)).mono ?_
                      rintro e w9 ⟨rfl, hb9⟩
                      have HN9 := Lib.hid (HR6.out.na.next hb9)
                      clear hb9 d0 d1 d2 d3 d4 d5
                      generalize normB u9 = un at *
                      have HQ := Lib.hid (put6 un HN9.out.below (Nat.le_succ _) HN9.out.res)
                      have rb := HN9.out.res.full
                      obtain ⟨r0, r1, r2, r3, r4, r5⟩ := rb.c
                      have g0 := rb.f0
                      have g1 := rb.f1
                      have g2 := rb.f2
                      have g3 := rb.f3
                      have g4 := rb.f4
                      have g5 := rb.f5
                      clear rb
                      go_wp2_with fail
                      clear r0 r1 r2 r3 r4 r5 g0 g1 g2 g3 g4 g5
                      obtain ⟨k0, k1, k2, k3, k4, k5⟩ := HQ.out.1.cells
                      unfold put6w at k0 k1 k2 k3 k4 k5
                      refine bodyPost_ret (v := parseV (un, 0)) ?_ rfl ⟨by rw [HE.out], HQ.out.2⟩
                      simp [results, Tryz.f35, go_sem, k0, k1, k2, k3, k4, k5]
                    · have HEx := Lib.hid (checked_no hck)
                      rcases check_codes hck with h3 | h3
                      · have HE := Lib.hid (show refB u s = (noU, 3) by rw [HX.out, HEx.out, h3])
                        rw [h3]
                        clear hck h3 HEx
                        have HQ := Lib.hid (put6 noU HR6.out.na.below (Nat.le_succ _) HR6.out.na.res)
                        have rb := HR6.out.na.res.full
                        obtain ⟨r0, r1, r2, r3, r4, r5⟩ := rb.c
                        have g0 := rb.f0
                        have g1 := rb.f1
                        have g2 := rb.f2
                        have g3 := rb.f3
                        have g4 := rb.f4
                        have g5 := rb.f5
                        clear rb
                        go_wp2_with fail
                        clear r0 r1 r2 r3 r4 r5 g0 g1 g2 g3 g4 g5
                        obtain ⟨k0, k1, k2, k3, k4, k5⟩ := HQ.out.1.cells
                        unfold put6w at k0 k1 k2 k3 k4 k5
                        simp only [noU] at k0 k1 k2 k3 k4 k5
                        refine bodyPost_ret (v := parseV (noU, 3)) ?_ rfl ⟨by rw [HE.out], HQ.out.2⟩
                        simp [results, Tryz.f35, go_sem, k0, k1, k2, k3, k4, k5, noU]
                      · have HE := Lib.hid (show refB u s = (noU, 4) by rw [HX.out, HEx.out, h3])
                        rw [h3]
                        clear hck h3 HEx
                        have HQ := Lib.hid (put6 noU HR6.out.na.below (Nat.le_succ _) HR6.out.na.res)
                        have rb := HR6.out.na.res.full
                        obtain ⟨r0, r1, r2, r3, r4, r5⟩ := rb.c
                        have g0 := rb.f0
                        have g1 := rb.f1
                        have g2 := rb.f2
                        have g3 := rb.f3
                        have g4 := rb.f4
                        have g5 := rb.f5
                        clear rb
                        go_wp2_with fail
                        clear r0 r1 r2 r3 r4 r5 g0 g1 g2 g3 g4 g5
                        obtain ⟨k0, k1, k2, k3, k4, k5⟩ := HQ.out.1.cells
                        unfold put6w at k0 k1 k2 k3 k4 k5
                        simp only [noU] at k0 k1 k2 k3 k4 k5
                        refine bodyPost_ret (v := parseV (noU, 4)) ?_ rfl ⟨by rw [HE.out], HQ.out.2⟩
                        simp [results, Tryz.f35, go_sem, k0, k1, k2, k3, k4, k5, noU]
        · have HX := Lib.hid (show refB u s = wholeB (u.scheme ++ 58 :: r) by rw [HE0.out]; exact refC_two HSC.out hp)
          clear hp
          go_wp2_with fail
          clear c0 c1 c2 c3 c4 c5
          refine (ref10_whole _ _ (by rw [← bs_size, cat58]; try (simp <;> omega))).mono ?_
          rintro e w8 ⟨rfl, hb8⟩
          rw [cat58]
          have HN8 := Lib.hid (HN1.out.next hb8)
          clear hb8
          generalize hwt : wholeB (u.scheme ++ 58 :: r) = wt at *
          obtain ⟨un, ec⟩ := wt
          have HE := Lib.hid (show refB u s = (un, ec) by first | exact HX.out | (rw [HX.out]; exact hwt))
          clear hwt HX
          have HQ := Lib.hid (put6 un HN8.out.below (Nat.le_succ _) HN8.out.res)
          have rb := HN8.out.res.full
          obtain ⟨r0, r1, r2, r3, r4, r5⟩ := rb.c
          have g0 := rb.f0
          have g1 := rb.f1
          have g2 := rb.f2
          have g3 := rb.f3
          have g4 := rb.f4
          have g5 := rb.f5
          clear rb
          go_wp2_with fail
          clear r0 r1 r2 r3 r4 r5 g0 g1 g2 g3 g4 g5
          obtain ⟨k0, k1, k2, k3, k4, k5⟩ := HQ.out.1.cells
          unfold put6w at k0 k1 k2 k3 k4 k5
          refine bodyPost_ret (v := parseV (un, ec)) ?_ rfl ⟨by rw [HE.out], HQ.out.2⟩
          simp [results, Tryz.f35, go_sem, k0, k1, k2, k3, k4, k5]
      · obtain ⟨e1, e2, e3⟩ := schN_yes hsc
        rw [e1]
        have hl1 : (lower (upto 58 r)).length ≤ 1024 := by have := upto_sub 58 r; simp [lower]; omega
        have hl2 : (past 58 r).length ≤ 1024 := by have := past_sub 58 r; omega
        have hl3 : (upto 58 r).length ≤ 1024 := by have := upto_sub 58 r; omega
        have HC1 := Lib.hid (fun a b => refC_sch (b := u) hsc a b)
        have HC2 := Lib.hid (fun a => refC_bad (b := u) hsc a)
        have x1 := extU_take r 58
        have x2 := extU_rest r 58 r.length (Nat.le_refl _)
        have hsc2 := hsc
        unfold schB at hsc2
        rw [Bool.and_eq_true] at hsc2
        have x3 : (⟨r.toArray⟩ : ByteArray).extract (lead (· != 58) r) r.length = ⟨(58 :: past 58 r).toArray⟩ := bs_ext (by
          rw [ext_data]
          show (r.drop (lead (· != 58) r)).take (r.length - lead (· != 58) r) = 58 :: past 58 r
          rw [List.take_of_length_le (by rw [List.length_drop]; omega), sch_cut hsc2.1])
        clear hsc hsc2 e1
        generalize hup : upto 58 r = up at *
        generalize past 58 r = rest at *
        generalize lead (· != 58) r = K2 at *
        have z1 : (0 : Int) < (K2 : Int) := by omega
        have z2 : (K2 : Int) ≤ (r.length : Int) := by omega
        have z3 : (K2 : Int) + 1 ≤ (r.length : Int) := by omega
        have z4 : ((K2 : Int) + 1).toNat = K2 + 1 := by omega
        go_wp2_with fail
        refine (ref01_Lower ⟨up.toArray⟩ w1 (by show up.length ≤ _; omega)).mono ?_
        rintro e w4 ⟨rfl, hb4⟩
        rw [show (⟨up.toArray⟩ : ByteArray).data.toList = up from rfl]
        have HN4 := Lib.hid (HN1.out.next hb4)
        clear hb4 HN1 hup x1
        generalize lower up = nm at *
        by_cases hn : nm = http ∨ nm = https
        · rcases hn with rfl | rfl
          all_goals
            unfold http https at *
            go_wp2_with fail
            refine (ref10_begins rest w4 (by omega)).mono ?_
            rintro e w4' ⟨rfl, rfl⟩
            rcases hp : Lib.hasPrefix rest twoSl with _ | _
            · have HE := Lib.hid (show refB u s = (noU, 4) by rw [HE0.out]; exact HC2.out (fun h => by have := h.2; rw [hp] at this; cases this))
              clear hp
              have HQ := Lib.hid (put6 noU HN4.out.below (Nat.le_succ _) HN4.out.res)
              have rb := HN4.out.res.full
              obtain ⟨r0, r1, r2, r3, r4, r5⟩ := rb.c
              have g0 := rb.f0
              have g1 := rb.f1
              have g2 := rb.f2
              have g3 := rb.f3
              have g4 := rb.f4
              have g5 := rb.f5
              clear rb
              go_wp2_with fail
              clear r0 r1 r2 r3 r4 r5 g0 g1 g2 g3 g4 g5
              obtain ⟨k0, k1, k2, k3, k4, k5⟩ := HQ.out.1.cells
              unfold put6w at k0 k1 k2 k3 k4 k5
              simp only [noU] at k0 k1 k2 k3 k4 k5
              refine bodyPost_ret (v := parseV (noU, 4)) ?_ rfl ⟨by rw [HE.out], HQ.out.2⟩
              simp [results, Tryz.f35, go_sem, k0, k1, k2, k3, k4, k5, noU]
            · have HX := Lib.hid (show refB u s = wholeB (_ ++ 58 :: rest) by rw [HE0.out]; exact HC1.out (by simp) hp)
              clear hp
              go_wp2_with fail
              refine (ref10_whole _ _ (by rw [← bs_size, cat_data]; try (simp <;> omega))).mono ?_
              rintro e w8 ⟨rfl, hb8⟩
              rw [cat_data]
              have HN8 := Lib.hid (HN4.out.next hb8)
              clear hb8
              generalize hwt : wholeB (_ ++ 58 :: rest) = wt at *
              obtain ⟨un, ec⟩ := wt
              have HE := Lib.hid (show refB u s = (un, ec) by first | exact HX.out | (rw [HX.out]; exact hwt))
              clear hwt HX
              have HQ := Lib.hid (put6 un HN8.out.below (Nat.le_succ _) HN8.out.res)
              have rb := HN8.out.res.full
              obtain ⟨r0, r1, r2, r3, r4, r5⟩ := rb.c
              have g0 := rb.f0
              have g1 := rb.f1
              have g2 := rb.f2
              have g3 := rb.f3
              have g4 := rb.f4
              have g5 := rb.f5
              clear rb
              go_wp2_with fail
              clear r0 r1 r2 r3 r4 r5 g0 g1 g2 g3 g4 g5
              obtain ⟨k0, k1, k2, k3, k4, k5⟩ := HQ.out.1.cells
              unfold put6w at k0 k1 k2 k3 k4 k5
              refine bodyPost_ret (v := parseV (un, ec)) ?_ rfl ⟨by rw [HE.out], HQ.out.2⟩
              simp [results, Tryz.f35, go_sem, k0, k1, k2, k3, k4, k5]
        · have n1 := fun h => hn (.inl h)
          have n2 := fun h => hn (.inr h)
          have HE := Lib.hid (show refB u s = (noU, 4) by rw [HE0.out]; exact HC2.out (fun h => hn h.1))
          unfold http https at *
          clear hn
          have HQ := Lib.hid (put6 noU HN4.out.below (Nat.le_succ _) HN4.out.res)
          have rb := HN4.out.res.full
          obtain ⟨r0, r1, r2, r3, r4, r5⟩ := rb.c
          have g0 := rb.f0
          have g1 := rb.f1
          have g2 := rb.f2
          have g3 := rb.f3
          have g4 := rb.f4
          have g5 := rb.f5
          clear rb
          go_wp2_with fail
          clear r0 r1 r2 r3 r4 r5 g0 g1 g2 g3 g4 g5
          obtain ⟨k0, k1, k2, k3, k4, k5⟩ := HQ.out.1.cells
          unfold put6w at k0 k1 k2 k3 k4 k5
          simp only [noU] at k0 k1 k2 k3 k4 k5
          refine bodyPost_ret (v := parseV (noU, 4)) ?_ rfl ⟨by rw [HE.out], HQ.out.2⟩
          simp [results, Tryz.f35, go_sem, k0, k1, k2, k3, k4, k5, noU]
    · have HE := Lib.hid (ref_arg h1 hc)
      rcases check_codes hc with h3 | h3
      all_goals
        rw [h3]
        clear hc h3
        have HQ := Lib.hid (put6 noU HN1.out.below (Nat.le_succ _) HN1.out.res)
        have rb := HN1.out.res.full
        obtain ⟨r0, r1, r2, r3, r4, r5⟩ := rb.c
        have g0 := rb.f0
        have g1 := rb.f1
        have g2 := rb.f2
        have g3 := rb.f3
        have g4 := rb.f4
        have g5 := rb.f5
        clear rb
        go_wp2_with fail
        clear r0 r1 r2 r3 r4 r5 g0 g1 g2 g3 g4 g5
        obtain ⟨k0, k1, k2, k3, k4, k5⟩ := HQ.out.1.cells
        unfold put6w at k0 k1 k2 k3 k4 k5
        simp only [noU] at k0 k1 k2 k3 k4 k5
        refine bodyPost_ret (v := parseV (noU, 2)) ?_ rfl ⟨by rw [HE.out], HQ.out.2⟩
        simp [results, Tryz.f35, go_sem, k0, k1, k2, k3, k4, k5, noU]
end Go.Proofs.YtmkpejioinkceaaGreatDoor
