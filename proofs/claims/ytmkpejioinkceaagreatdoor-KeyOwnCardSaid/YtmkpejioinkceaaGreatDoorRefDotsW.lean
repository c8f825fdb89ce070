/- The walk of the reference's Dots. The walk of the reference's Dots: the loops. -/
import Derived.Test.YtmkpejioinkceaaGreatDoorUriAtoi
import Derived.Test.YtmkpejioinkceaaGreatDoorUriN
namespace Go.Proofs.YtmkpejioinkceaaGreatDoor
open Go.RowKit
set_option linter.unusedVariables false

def strSize : Value → Nat
  | .string s => s.size
  | _ => 0
/-- What is known of the first piece in a list of bytes. -/
structure First (B : ByteArray) (p : Bs) (l : List Bs) : Prop where
  size : B.size = 1 + p.length + (catB l).length
  mid : ∀ k (h : k < B.size), 1 ≤ k → k < 1 + p.length → B[k] ≠ 47
  fin : ∀ (h : 1 + p.length < B.size), B[1 + p.length] = 47
  seg : B.extract 0 (1 + p.length) = ⟨(47 :: p).toArray⟩
  rest : B.extract (1 + p.length) B.size = ⟨(catB l).toArray⟩
theorem first_of {p : Bs} {l : List Bs} (h : p.contains 47 = false) : First ⟨(catB (p :: l)).toArray⟩ p l := by
  have e : catB (p :: l) = 47 :: p ++ catB l := catB_cons p l
  have hsz : (⟨(catB (p :: l)).toArray⟩ : ByteArray).size = 1 + p.length + (catB l).length := by rw [← bs_size]; simp [e]; omega
  refine ⟨hsz, ?_, ?_, ?_, ?_⟩
  · intro k hk h1 h2 he
    have hget := bs_get _ k hk
    rw [he] at hget
    have : (47 :: p ++ catB l)[k]? = some 47 := by rw [← e]; exact hget
    rw [List.getElem?_append_left (by simp; omega)] at this
    obtain ⟨j, rfl⟩ : ∃ j, k = j + 1 := ⟨k - 1, by omega⟩
    rw [List.getElem?_cons_succ] at this
    have := List.mem_of_getElem? this
    rw [← List.contains_iff_mem, h] at this; cases this
  · intro hk
    have hget := bs_get _ _ hk
    have h2 : (47 :: p ++ catB l)[1 + p.length]? = (catB l)[0]? := by
      rw [List.getElem?_append_right (by simp; omega)]; congr 1; simp; omega
    rw [show (⟨(catB (p :: l)).toArray⟩ : ByteArray).data.toList = 47 :: p ++ catB l from e, h2] at hget
    cases l with
    | nil => rw [hsz] at hk; simp [catB_nil] at hk
    | cons a b => rw [catB_cons] at hget; simpa using hget.symm
  · exact bs_ext (by rw [ext_data, e]; simp [Nat.add_comm])
  · exact bs_ext (by rw [ext_data, hsz, e]; simp [Nat.add_comm, List.drop_append])
/-- What is known of the last piece that is kept. -/
structure Prev (O : ByteArray) (kept : List Bs) (m : Nat) : Prop where
  le : m ≤ O.size
  stop : ∀ (h : m - 1 < O.size), 0 < m → O[m - 1] = 47
  mid : ∀ j (h : j - 1 < O.size), m < j → O[j - 1] ≠ 47
  cut : 0 < m → O.extract 0 (m - 1) = ⟨(catB kept.dropLast).toArray⟩
  zero : m = 0 → kept = [] ∧ O.size = 0
theorem prev_of (kept : List Bs) (h : ∀ p ∈ kept, p.contains 47 = false) : ∃ m, Prev ⟨(catB kept).toArray⟩ kept m := by
  by_cases hk : kept = []
  · subst hk
    have h0 : (⟨(catB []).toArray⟩ : ByteArray).size = 0 := by rw [← bs_size]; rfl
    exact ⟨0, Nat.zero_le _, fun _ h => absurd h (by omega), fun j hj => by omega, fun h => absurd h (by omega), fun _ => ⟨rfl, h0⟩⟩
  · obtain ⟨ks, p, rfl⟩ : ∃ ks p, kept = ks ++ [p] := ⟨_, _, (List.dropLast_concat_getLast hk).symm⟩
    have hf := h p (by simp)
    have e : catB (ks ++ [p]) = catB ks ++ 47 :: p := catB_snoc ks p
    have hsz : (⟨(catB (ks ++ [p])).toArray⟩ : ByteArray).size = (catB ks).length + 1 + p.length := by rw [← bs_size]; simp [e]; omega
    refine ⟨(catB ks).length + 1, by omega, ?_, ?_, ?_, fun h => absurd h (by omega)⟩
    · intro hk _
      have hget := bs_get _ _ hk
      have h2 : (⟨(catB (ks ++ [p])).toArray⟩ : ByteArray).data.toList[(catB ks).length + 1 - 1]? = some 47 := by
        rw [show (⟨(catB (ks ++ [p])).toArray⟩ : ByteArray).data.toList = catB ks ++ 47 :: p from e, Nat.add_sub_cancel, List.getElem?_append_right (Nat.le_refl _), Nat.sub_self]; rfl
      exact Option.some.inj (hget.symm.trans h2)
    · intro j hj hm he
      have hget := bs_get _ _ hj
      rw [he, show (⟨(catB (ks ++ [p])).toArray⟩ : ByteArray).data.toList = catB ks ++ 47 :: p from e] at hget
      have hb := free_rev p hf (catB ks) (j - 1 - ((catB ks).length + 1)) (by omega)
      rw [show (catB ks).length + 1 + (j - 1 - ((catB ks).length + 1)) = j - 1 by omega] at hb
      exact hb hget
    · intro _
      rw [List.dropLast_concat]
      exact bs_ext (by rw [ext_data, e]; simp)

theorem dots_goR (r : Bs) : dotsB (47 :: r) = catB (goR (pieces 47 r) []) := by
  rw [goR_dots _ _ (pieces_ne 47 r)]; rfl
theorem goR_dot1 (l kept : List Bs) : goR (dot1 :: l) kept = if l = [] then goR [[]] kept else goR l kept := by
  conv => lhs; unfold goR
  rw [if_pos rfl]; rfl
theorem goR_dot2 (l kept : List Bs) : goR (dot2 :: l) kept = if l = [] then goR [[]] kept.dropLast else goR l kept.dropLast := by
  conv => lhs; unfold goR
  rw [if_neg dot12, if_pos rfl]; rfl
theorem goR_other {p : Bs} (h1 : p ≠ dot1) (h2 : p ≠ dot2) (l kept : List Bs) : goR (p :: l) kept = goR l (kept ++ [p]) := by
  conv => lhs; unfold goR
  rw [if_neg h1, if_neg h2]
/-- What the reference's loop holds to. -/
structure RD (T : Bs) (n : Nat) (l kept : List Bs) : Prop where
  free : ∀ p ∈ l, p.contains 47 = false
  kfree : ∀ p ∈ kept, p.contains 47 = false
  ans : catB (goR l kept) = T
  len : (catB l).length + (catB kept).length ≤ n
theorem RD.other {T : Bs} {n : Nat} {p : Bs} {l kept : List Bs} (h : RD T n (p :: l) kept) (h1 : p ≠ dot1) (h2 : p ≠ dot2) : RD T n l (kept ++ [p]) := by
  refine ⟨fun q hq => h.free q (List.mem_cons_of_mem _ hq), fun q hq => ?_, by rw [← goR_other h1 h2]; exact h.ans, ?_⟩
  · rcases List.mem_append.1 hq with hq | hq
    · exact h.kfree q hq
    · obtain rfl : q = p := by simpa using hq
      exact h.free q List.mem_cons_self
  · have := h.len
    rw [catB_cons] at this
    rw [catB_snoc]
    simp at this ⊢; omega
theorem free_nil : ∀ p ∈ ([[]] : List Bs), p.contains 47 = false := by 
  intro p hp
  obtain rfl : p = [] := by simpa using hp
  rfl
theorem RD.one {T : Bs} {n : Nat} {l kept : List Bs} (h : RD T n (dot1 :: l) kept) : RD T n (if l = [] then [[]] else l) kept := by
  have ha := h.ans
  have hl := h.len
  rw [goR_dot1] at ha
  rw [catB_cons] at hl
  by_cases h0 : l = []
  · subst h0
    rw [if_pos rfl] at ha ⊢
    exact ⟨free_nil, h.kfree, ha, by simp [dot1, catB_nil, catB_cons] at hl ⊢; omega⟩
  · rw [if_neg h0] at ha ⊢
    exact ⟨fun q hq => h.free q (List.mem_cons_of_mem _ hq), h.kfree, ha, by simp at hl; omega⟩
theorem cat_less (l : List Bs) : (catB l.dropLast).length ≤ (catB l).length := by
  by_cases h : l = []
  · subst h; exact Nat.le_refl _
  · conv => rhs; rw [← List.dropLast_concat_getLast h, catB_snoc]
    simp
theorem RD.two {T : Bs} {n : Nat} {l kept : List Bs} (h : RD T n (dot2 :: l) kept) : RD T n (if l = [] then [[]] else l) kept.dropLast := by
  have ha := h.ans
  have hl := h.len
  have hc := cat_less kept
  rw [goR_dot2] at ha
  rw [catB_cons] at hl
  by_cases h0 : l = []
  · subst h0
    rw [if_pos rfl] at ha ⊢
    exact ⟨free_nil, fun q hq => h.kfree q (List.dropLast_subset _ hq), ha, by simp [dot2, catB_nil, catB_cons] at hl ⊢; omega⟩
  · rw [if_neg h0] at ha ⊢
    exact ⟨fun q hq => h.free q (List.mem_cons_of_mem _ hq), fun q hq => h.kfree q (List.dropLast_subset _ hq), ha, by simp at hl; omega⟩
theorem RD.start (r : Bs) : RD (dotsB (47 :: r)) (r.length + 1) (pieces 47 r) [] :=
  ⟨fun p hp => pieces_free 47 r p hp, (fun p hp => absurd hp (List.not_mem_nil)), (dots_goR r).symm, by rw [pieces_cat, catB_nil]; simp⟩

end Go.Proofs.YtmkpejioinkceaaGreatDoor

namespace Go.Proofs.YtmkpejioinkceaaGreatDoor
open Go.RowKit
set_option linter.unusedVariables false

theorem cat_ne {l : List Bs} (h : l ≠ []) : catB l ≠ [] := by
  cases l with
  | nil => exact (h rfl).elim
  | cons a b => rw [catB_cons]; simp
set_option maxRecDepth 100000 in
set_option maxHeartbeats 2000000 in
theorem ref09_Dots_yes (r : Bs) (w : World) (hs : r.length ≤ 100000) :
    Calls Tryz.prog 60 #[.string ⟨(47 :: r).toArray⟩] w fun e w' => e = .returned (.string ⟨(dotsB (47 :: r)).toArray⟩) ∧ w = w' := by
  have hR := RD.start r
  have hc := pieces_cat r
  generalize dotsB (47 :: r) = T at *
  have HR := Lib.hid hR
  have HC := Lib.hid (show (⟨(47 :: r).toArray⟩ : ByteArray) = ⟨(catB (pieces 47 r)).toArray⟩ by rw [hc])
  clear hR hc
  have hx : ∀ h, (⟨(47 :: r).toArray⟩ : ByteArray)[0]'h = 47 := fun _ => rfl
  go_enter Tryz.func60, Tryz.ntmps60
  go_wp2_with fail
  clear hx
  go_loop [3, 4] (fun i o => ∃ (l kept : List Bs), i = .string ⟨(catB l).toArray⟩ ∧ o = .string ⟨(catB kept).toArray⟩ ∧ Hid (RD T (r.length + 1) l kept)) (fun i _ => strSize i)
  case atStart => exact ⟨pieces 47 r, [], by rw [HC.out], rfl, HR⟩
  case round =>
    obtain ⟨l, kept, rfl, rfl, HI⟩ := hrel
    clear HR HC
    cases l with
    | nil =>
      have HE := Lib.hid (show catB kept = T from HI.out.ans)
      have h0 : (⟨(catB []).toArray⟩ : ByteArray).size = 0 := rfl
      go_wp2_with fail
      go_ret
      exact ⟨by rw [HE.out]; rfl, rfl⟩
    | cons p l =>
      have HF := Lib.hid (first_of (l := l) (HI.out.free p List.mem_cons_self))
      have hsz := HF.out.size
      have hlen := HI.out.len
      rw [catB_cons] at hlen
      generalize (⟨(catB (p :: l)).toArray⟩ : ByteArray) = B at *
      have hb0 : (0 : Int) < (B.size : Int) := by omega
      have hbl : B.size ≤ 100002 := by simp at hlen; omega
      go_wp2_with fail
      go_loop [5] (fun i5 => ∃ k : Nat, 1 ≤ k ∧ k ≤ 1 + p.length ∧ i5 = .int .i64 k) (fun i5 => 1 + p.length - (intOf i5).toNat)
      case atStart => exact ⟨1, Nat.le_refl _, by omega, rfl⟩
      case round =>
        obtain ⟨k, h1, h2, rfl⟩ := hrel
        by_cases hk : k < 1 + p.length
        · have hkB : k < B.size := by omega
          have i1 : (k : Int) < (B.size : Int) := by omega
          have hne := HF.out.mid k hkB h1 hk
          have hcb : ((B[k].toNat : Int) == 47) = false := by rw [beq_eq_false_iff_ne]; exact fun e => hne (UInt8.toNat_inj.1 (by have : (47 : UInt8).toNat = 47 := rfl; omega))
          clear hne
          go_wp2_with fail
          go_round
          case rel => exact ⟨k + 1, by omega, by omega, by go_num⟩
          case measure => (simp [intOf] <;> omega)
        · have hkp : k = 1 + p.length := by omega
          have hseg : B.extract 0 k = ⟨(47 :: p).toArray⟩ := by rw [hkp]; exact HF.out.seg
          have hrest : B.extract k B.size = ⟨(catB l).toArray⟩ := by rw [hkp]; exact HF.out.rest
          have HS := Lib.hid (show strSize (.string B) = B.size from rfl)
          have hL : (catB l).length + 1 + p.length = B.size := by omega
          have hfin : ∀ h : k < B.size, B[k] = 47 := by subst hkp; exact HF.out.fin
          have hcat : (catB l).length + k = B.size := by omega
          by_cases d1 : p = dot1
          · obtain rfl := d1
            obtain rfl : k = 2 := hkp
            have HR := Lib.hid HI.out.one
            rcases Decidable.em (l = []) with rfl | hl
            · have HN : catB ([] : List Bs) = [] := rfl
              have i1 : B.size = 2 := by rw [HN] at hL; simpa [dot1] using hL.symm
              have g1 : B.extract 0 2 = ⟨#[47, 46]⟩ := hseg
              have g2 : B.extract 2 B.size = ⟨#[]⟩ := hrest
              rw [i1] at g2
              clear hseg hrest hL hlen hsz hfin hcat
              unfold dot1 at *
              go_wp2_with fail
              go_round
              case rel => exact ⟨_, _, rfl, rfl, HR⟩
              case measure => show (1 : Nat) < B.size; omega
            · have HRr := HR
              replace HRr := HRr.out
              rw [if_neg hl] at HRr
              have hne := cat_ne hl
              have hneb : (catB l == []) = false := by rw [beq_eq_false_iff_ne]; exact hne
              have g1 : B.extract 0 2 = ⟨#[47, 46]⟩ := hseg
              have g2 : B.extract 2 B.size = ⟨(catB l).toArray⟩ := hrest
              have g3 : (catB l).length + 2 = B.size := hL
              have g4 : (2 : Int) ≤ (B.size : Int) := by omega
              have h2 : 2 < B.size := by have := List.length_pos_iff.2 hne; omega
              have i2 : (2 : Int) < (B.size : Int) := by omega
              have hb : ((B[2].toNat : Int) == 47) = true := by rw [show B[2] = 47 from hfin h2]; rfl
              have HM := Lib.hid (show (catB l).length < B.size by omega)
              clear hseg hrest hL hlen hsz g3 HR hfin hcat
              unfold dot1 at *
              go_wp2_with fail
              go_round
              case rel => exact ⟨_, _, rfl, rfl, Lib.hid HRr⟩
              case measure => show (⟨(catB l).toArray⟩ : ByteArray).size < B.size; rw [← bs_size]; exact HM.out
          · by_cases d2 : p = dot2
            · obtain rfl := d2
              obtain rfl : k = 3 := hkp
              have HR := Lib.hid HI.out.two
              obtain ⟨m, hP⟩ := prev_of kept HI.out.kfree
              obtain ⟨O, hO⟩ : ∃ O : ByteArray, (⟨(catB kept).toArray⟩ : ByteArray) = O := ⟨_, rfl⟩
              rw [hO] at hP
              have HP := Lib.hid hP
              have HO := Lib.hid hO
              have hOs : O.size ≤ 100002 := by rw [← hO, ← bs_size]; simp at hlen ⊢; omega
              rw [hO]
              clear hP hO d1
              have g1 : B.extract 0 3 = ⟨#[47, 46, 46]⟩ := hseg
              rcases Decidable.em (l = []) with rfl | hl
              · have HN : catB ([] : List Bs) = [] := rfl
                have i1 : B.size = 3 := by rw [HN] at hL; simpa [dot2] using hL.symm
                have g2 : B.extract 3 B.size = ⟨#[]⟩ := hrest
                rw [i1] at g2
                clear hseg hrest hL hlen hsz hfin hcat
                unfold dot2 at *
                have t9 : True := trivial
                go_wp2_with fail
                go_loop [7] (fun i7 => ∃ j : Nat, m ≤ j ∧ j ≤ O.size ∧ i7 = .int .i64 j) (fun i7 => (intOf i7).toNat)
                case atStart => exact ⟨O.size, HP.out.le, Nat.le_refl _, rfl⟩
                case round =>
                  obtain ⟨j, j1, j2, rfl⟩ := hrel
                  by_cases hj : m < j
                  · have y0 : (0 : Int) < (j : Int) := by omega
                    have y1 : j - 1 < O.size := by omega
                    have y2 : ((j : Int) - 1).toNat = j - 1 := by omega
                    have y3 : (j : Int) - 1 < (O.size : Int) := by omega
                    have hb7 : ((O[j - 1].toNat : Int) == 47) = false := by rw [beq_eq_false_iff_ne]; exact fun e => HP.out.mid j y1 hj (UInt8.toNat_inj.1 (by have : (47 : UInt8).toNat = 47 := rfl; omega))
                    go_wp2_with fail
                    go_round
                    case rel => exact ⟨j - 1, by omega, by omega, by go_num⟩
                    case measure => (simp [intOf] <;> omega)
                  · obtain rfl : j = m := by omega
                    by_cases hj0 : j = 0
                    · subst hj0
                      obtain ⟨z1, z2⟩ := HP.out.zero rfl
                      have HO2 := Lib.hid (show O = ⟨(catB kept.dropLast).toArray⟩ by rw [← HO.out, z1]; rfl)
                      clear z1
                      go_wp2_with fail
                      go_round
                      case rel => exact ⟨_, _, rfl, by rw [HO2.out], HR⟩
                      case measure => show (1 : Nat) < B.size; omega
                    · have y0 : (0 : Int) < (j : Int) := by omega
                      have y1 : j - 1 < O.size := by omega
                      have y2 : ((j : Int) - 1).toNat = j - 1 := by omega
                      have y3 : (j : Int) - 1 < (O.size : Int) := by omega
                      have hb7 : ((O[j - 1].toNat : Int) == 47) = true := by rw [HP.out.stop y1 (by omega)]; rfl
                      have hcut := HP.out.cut (by omega)
                      go_wp2_with fail
                      go_round
                      case rel => exact ⟨_, _, rfl, rfl, HR⟩
                      case measure => show (1 : Nat) < B.size; omega
              · have HR := HR.out
                rw [if_neg hl] at HR
                replace HR := Lib.hid HR
                have hne := cat_ne hl
                have hneb : (catB l == []) = false := by rw [beq_eq_false_iff_ne]; exact hne
                have g2 : B.extract 3 B.size = ⟨(catB l).toArray⟩ := hrest
                have g3 : (catB l).length + 3 = B.size := hL
                have h2 : 3 < B.size := by have := List.length_pos_iff.2 hne; omega
                have g4 : (3 : Int) ≤ (B.size : Int) := by omega
                have i2 : (3 : Int) < (B.size : Int) := by omega
                have hb : ((B[3].toNat : Int) == 47) = true := by rw [show B[3] = 47 from hfin h2]; rfl
                have HM := Lib.hid (show (catB l).length < B.size by omega)
                clear hseg hrest hL hlen hsz g3 hfin hcat
                unfold dot2 at *
                have t9 : True := trivial
                go_wp2_with fail
                go_loop [7] (fun i7 => ∃ j : Nat, m ≤ j ∧ j ≤ O.size ∧ i7 = .int .i64 j) (fun i7 => (intOf i7).toNat)
                case atStart => exact ⟨O.size, HP.out.le, Nat.le_refl _, rfl⟩
                case round =>
                  obtain ⟨j, j1, j2, rfl⟩ := hrel
                  by_cases hj : m < j
                  · have y0 : (0 : Int) < (j : Int) := by omega
                    have y1 : j - 1 < O.size := by omega
                    have y2 : ((j : Int) - 1).toNat = j - 1 := by omega
                    have y3 : (j : Int) - 1 < (O.size : Int) := by omega
                    have hb7 : ((O[j - 1].toNat : Int) == 47) = false := by rw [beq_eq_false_iff_ne]; exact fun e => HP.out.mid j y1 hj (UInt8.toNat_inj.1 (by have : (47 : UInt8).toNat = 47 := rfl; omega))
                    go_wp2_with fail
                    go_round
                    case rel => exact ⟨j - 1, by omega, by omega, by go_num⟩
                    case measure => (simp [intOf] <;> omega)
                  · obtain rfl : j = m := by omega
                    by_cases hj0 : j = 0
                    · subst hj0
                      obtain ⟨z1, z2⟩ := HP.out.zero rfl
                      have HO2 := Lib.hid (show O = ⟨(catB kept.dropLast).toArray⟩ by rw [← HO.out, z1]; rfl)
                      clear z1
                      go_wp2_with fail
                      go_round
                      case rel => exact ⟨_, _, rfl, by rw [HO2.out], HR⟩
                      case measure => show (⟨(catB l).toArray⟩ : ByteArray).size < B.size; rw [← bs_size]; exact HM.out
                    · have y0 : (0 : Int) < (j : Int) := by omega
                      have y1 : j - 1 < O.size := by omega
                      have y2 : ((j : Int) - 1).toNat = j - 1 := by omega
                      have y3 : (j : Int) - 1 < (O.size : Int) := by omega
                      have hb7 : ((O[j - 1].toNat : Int) == 47) = true := by rw [HP.out.stop y1 (by omega)]; rfl
                      have hcut := HP.out.cut (by omega)
                      go_wp2_with fail
                      go_round
                      case rel => exact ⟨_, _, rfl, rfl, HR⟩
                      case measure => show (⟨(catB l).toArray⟩ : ByteArray).size < B.size; rw [← bs_size]; exact HM.out
            · have HR := Lib.hid (HI.out.other d1 d2)
              have g3 : (catB kept).length + B.size ≤ 100002 := by simp at hlen; omega
              have g5 : (⟨(catB kept).toArray⟩ : ByteArray) ++ ⟨(47 :: p).toArray⟩ = ⟨(catB (kept ++ [p])).toArray⟩ := by rw [catB_snoc]; exact bs_ext (by simp)
              have f1 : ¬ (p = [46]) := d1
              have f2 : ¬ (p = [46, 46]) := d2
              have f3 : (p == [46]) = false := by rw [beq_eq_false_iff_ne]; exact d1
              have f4 : (p == [46, 46]) = false := by rw [beq_eq_false_iff_ne]; exact d2
              have HM := Lib.hid (show (catB l).length < B.size by omega)
              have i1 : (k : Int) ≤ (B.size : Int) := by omega
              rcases Nat.lt_or_ge k B.size with h2 | h2
              · have i2 : (k : Int) < (B.size : Int) := by omega
                have hb : ((B[k].toNat : Int) == 47) = true := by rw [hfin h2]; rfl
                clear hL hlen hsz hfin hcat hkp d1 d2
                go_wp2_with fail
                go_round
                case rel => exact ⟨_, _, rfl, rfl, HR⟩
                case measure => show (⟨(catB l).toArray⟩ : ByteArray).size < B.size; rw [← bs_size]; exact HM.out
              · have i2 : (B.size : Int) ≤ (k : Int) := by omega
                clear hL hlen hsz hfin hcat hkp d1 d2
                go_wp2_with fail
                go_round
                case rel => exact ⟨_, _, rfl, rfl, HR⟩
                case measure => show (⟨(catB l).toArray⟩ : ByteArray).size < B.size; rw [← bs_size]; exact HM.out

set_option maxRecDepth 100000 in
theorem ref09_Dots (s : Bs) (w : World) (hs : s.length ≤ 100000) :
    Calls Tryz.prog 60 #[.string ⟨s.toArray⟩] w fun e w' => e = .returned (.string ⟨(dotsB s).toArray⟩) ∧ w = w' := by
  cases s with
  | nil =>
    have HE := Lib.hid (show dotsB [] = [] from rfl)
    go_enter Tryz.func60, Tryz.ntmps60
    go_wp2_with fail
    go_ret
    exact ⟨by rw [HE.out]; rfl, rfl⟩
  | cons c r =>
    by_cases hc : c = 47
    · subst hc
      exact ref09_Dots_yes r w (by simp at hs; omega)
    · have HE := Lib.hid (show dotsB (c :: r) = [] by
        unfold dotsB
        have : Lib.hasPrefix (c :: r) [47] = false := by
          cases h : Lib.hasPrefix (c :: r) [47]
          · rfl
          · unfold Lib.hasPrefix at h
            obtain ⟨q, hq⟩ := List.isPrefixOf_iff_prefix.1 h
            exact (hc (List.cons.inj hq).1.symm).elim
        rw [this]; rfl)
      have hx : ∀ h, (⟨(c :: r).toArray⟩ : ByteArray)[0]'h = c := fun _ => rfl
      have hcb : ((c.toNat : Int) == 47) = false := by rw [beq_eq_false_iff_ne]; exact fun e => hc (UInt8.toNat_inj.1 (by have : (47 : UInt8).toNat = 47 := rfl; omega))
      have hcn : ¬ ((c.toNat : Int) = 47) := by simpa using hcb
      go_enter Tryz.func60, Tryz.ntmps60
      go_wp2_with fail
      go_ret
      exact ⟨by rw [HE.out]; rfl, rfl⟩
end Go.Proofs.YtmkpejioinkceaaGreatDoor
