/- The reference's Parse. -/
import Derived.Test.YtmkpejioinkceaaGreatDoorRefUriC
import Derived.Deep.DeepCutAuto
import Derived.Deep.CutBlock
namespace Go.Proofs.YtmkpejioinkceaaGreatDoor
open Go.RowKit
set_option linter.unusedVariables false

/-! Where a text is parted -/
theorem sep_at {s : ByteArray} {k : Nat} (h : k + 3 ≤ s.size) : Lib.occAt s.data.toList sep3 k = ((s.extract k (k + 3)).data.toList == sep3) := by
  rw [Lib.occAt_iff_take _ _ _ (by rw [bs_size]; exact h), ext_data, show k + 3 - k = 3 by omega]; rfl
theorem sep_found {s : Bs} {k : Nat} (hk : k + 3 ≤ s.length) (hn : ∀ j, j < k → Lib.occAt s sep3 j = false) (ho : Lib.occAt s sep3 k = true) : Lib.cut s sep3 = (s.take k, s.drop (k + 3), true) := by
  have hi := Lib.index_first (s := s) (sub := sep3) (i := k) (by omega) ho hn
  unfold Lib.cut
  rw [hi, if_pos (by omega), Int.toNat_natCast]; rfl
theorem sep_none {s : Bs} {k : Nat} (hk : s.length < k + 3) (hn : ∀ j, j < k → Lib.occAt s sep3 j = false) : Lib.cut s sep3 = (s, [], false) := by
  have hi : Lib.index s sep3 = -1 := Lib.index_none (fun j hj => by
    by_cases h : j < k
    · exact hn j h
    · cases ho : Lib.occAt s sep3 j
      · rfl
      · rcases Lib.occAt_room ho with h2 | h2
        · have : sep3.length = 3 := rfl
          omega
        · cases h2)
  unfold Lib.cut
  rw [hi, if_neg (by decide)]
theorem parse_nosep {s : Bs} (h : (Lib.cut s sep3).2.1 = []) : parseT (rawB s) = (noU, 4) := by
  have hr : rawB s = ⟨(Lib.cut s sep3).1, [], 0, [47], [], false⟩ := by unfold rawB; rw [h]; rfl
  rw [hr, parseT_none rfl]
  have hc : checkB ⟨(Lib.cut s sep3).1, [], 0, [47], [], false⟩ = 4 := check_bad (bad_host (by show ¬ (1 ≤ ([] : Bs).length ∧ _); simp))
  rw [hc, if_neg (by decide)]
def hostEnd (c : UInt8) : Bool := c != 47 && c != 63
theorem tw_two : ∀ l : Bs, (l.takeWhile (· != 63)).takeWhile (· != 47) = l.takeWhile hostEnd
  | [] => rfl
  | c :: l => by
    have ih := tw_two l
    by_cases h63 : c = 63
    · subst h63; rfl
    · have h1 : (c != 63) = true := by simpa using h63
      rw [List.takeWhile_cons_of_pos (p := fun x => x != 63) h1]
      by_cases h47 : c = 47
      · subst h47; rfl
      · have h2 : (c != 47) = true := by simpa using h47
        rw [List.takeWhile_cons_of_pos (p := fun x => x != 47) h2, List.takeWhile_cons_of_pos (p := hostEnd) (by unfold hostEnd; rw [h1, h2]; rfl), ih]
/-- The parts behind the scheme, by places. -/
theorem raw_at (t : Bs) : (upto 63 t).takeWhile (· != 47) = t.take (lead hostEnd t) ∧ (upto 63 t).dropWhile (· != 47) = (t.drop (lead hostEnd t)).take (lead (· != 63) t - lead hostEnd t) ∧ past 63 t = t.drop (lead (· != 63) t + 1) ∧ t.contains 63 = decide (lead (· != 63) t < t.length) ∧ lead hostEnd t ≤ lead (· != 63) t ∧ lead (· != 63) t ≤ t.length := by
  have h2 := tw_two t
  have hu : upto 63 t = t.take (lead (· != 63) t) := (take_upto 63 t).symm
  have hl : lead (· != 47) (upto 63 t) = lead hostEnd t := by unfold lead; exact congrArg List.length h2
  refine ⟨?_, ?_, (drop_past 63 t).symm, ?_, ?_, lead_le _ _⟩
  · rw [show (upto 63 t).takeWhile (· != 47) = t.takeWhile hostEnd from h2, ← take_lead]
  · rw [← drop_lead, hl, hu, List.drop_take]
  · cases h : t.contains 63
    · have := upto_all 63 t h
      rw [hu] at this
      have hlen := congrArg List.length this
      rw [List.length_take] at hlen
      exact (decide_eq_false (by omega)).symm
    · exact (decide_eq_true (lead_lt 63 t h)).symm
  · rw [← hl]
    have := lead_le (· != 47) (upto 63 t)
    have h3 : (upto 63 t).length = lead (· != 63) t := rfl
    omega
theorem extU_take (r : Bs) (c : UInt8) : (⟨r.toArray⟩ : ByteArray).extract 0 (lead (· != c) r) = ⟨(upto c r).toArray⟩ := bs_ext (by rw [Lib.extract_data, ← take_upto]; simp)
theorem extU_rest (r : Bs) (c : UInt8) (n : Nat) (hn : r.length ≤ n) : (⟨r.toArray⟩ : ByteArray).extract (lead (· != c) r + 1) n = ⟨(past c r).toArray⟩ := bs_ext (ext_past r c n hn)

set_option maxRecDepth 100000 in
set_option maxHeartbeats 4000000 in
theorem ref09_Parse (s : ByteArray) (w : World) (hs : s.size ≤ 100000000) :
    Calls Tryz.prog 96 #[.string s] w (Ret w (parseV (parseB s.data.toList))) := by
  by_cases hl : s.size ≤ 1024
  · have hli : (s.size : Int) ≤ 1024 := by omega
    have HP := Lib.hid (pa_new w)
    have HE := Lib.hid (parse_short (s := s.data.toList) (by rw [bs_size]; exact hl))
    go_enter Tryz.func96, Tryz.ntmps96
    go_wp2_with fail
    generalize (w.alloc (.cells #[.string ⟨#[]⟩, .string ⟨#[]⟩, .int .i64 0, .string ⟨#[]⟩, .string ⟨#[]⟩, .bool false] 23)).alloc (.cells #[.string ⟨#[]⟩, .string ⟨#[]⟩, .int .i64 0, .string ⟨#[]⟩, .string ⟨#[]⟩, .bool false] 23) = W0 at *
    go_loop [5] (fun i => ∃ k : Nat, k ≤ s.size ∧ i = .int .i64 k ∧ Hid (∀ j, j < k → Lib.occAt s.data.toList sep3 j = false)) (fun i => s.size - (intOf i).toNat)
    case atStart => exact ⟨0, Nat.zero_le _, rfl, Lib.hid (fun j h => by omega)⟩
    case round =>
      obtain ⟨k, hk, rfl, HN⟩ := hrel
      by_cases hk3 : k + 3 ≤ s.size
      · have i1 : (k : Int) + 3 ≤ (s.size : Int) := by omega
        rcases ho : Lib.occAt s.data.toList sep3 k with _ | _
        · have hne := ho
          rw [sep_at hk3] at hne
          have HN2 := Lib.hid (show ∀ j, j < k + 1 → Lib.occAt s.data.toList sep3 j = false from fun j hj => by
            by_cases e : j = k
            · rw [e]; exact ho
            · exact HN.out j (by omega))
          generalize hx : s.extract k (k + 3) = x at *
          have hneb : (x.toList == [58, 47, 47]) = false := by rw [Lib.toList_data]; exact hne
          have t1 : ((k : Int) + 3).toNat = k + 3 := by omega
          clear ho hne
          go_wp2_with fail
          go_roundw
          case rel => exact ⟨k + 1, by omega, by go_num, HN2⟩
          case measure => (simp [intOf] <;> omega)
        · have HC := Lib.hid (sep_found (by rw [bs_size]; exact hk3) HN.out ho)
          have hye := ho
          rw [sep_at hk3] at hye
          generalize hx : s.extract k (k + 3) = x at *
          have hneb : (x.toList == [58, 47, 47]) = true := by rw [Lib.toList_data]; exact hye
          have t1 : ((k : Int) + 3).toNat = k + 3 := by omega
          have i2 : ¬ ((s.size : Int) < (k : Int) + 3) := by omega
          obtain ⟨T, hT⟩ : ∃ T, s.extract (k + 3) s.size = T := ⟨_, rfl⟩
          have hTl : T.data.toList = s.data.toList.drop (k + 3) := by rw [← hT, ext_data]; exact List.take_of_length_le (by rw [List.length_drop, bs_size]; omega)
          have hTs : T.size ≤ 1024 := by rw [← bs_size, hTl, List.length_drop, bs_size]; omega
          obtain ⟨sc, hsc⟩ : ∃ sc : Bs, s.data.toList.take k = sc := ⟨_, rfl⟩
          have hSC : s.extract 0 k = ⟨sc.toArray⟩ := bs_ext (by rw [ext_data, ← hsc]; simp)
          have hscl : sc.length ≤ 1024 := by rw [← hsc, List.length_take]; omega
          have HR := Lib.hid (show rawB s.data.toList = ⟨sc, (upto 63 T.data.toList).takeWhile (· != 47), 0, if (upto 63 T.data.toList).dropWhile (· != 47) = [] then [47] else (upto 63 T.data.toList).dropWhile (· != 47), past 63 T.data.toList, T.data.toList.contains 63⟩ by unfold rawB; rw [HC.out, hTl, ← hsc])
          have hb := HP.out.box.full
          have c0 := hb.c.c0
          have f0 := hb.f0
          clear ho hye hsc hTl hb HC HN
          go_upto_block 2 with fail
          have HP1 := Lib.hid (HP.out.s0 sc)
          generalize W0.setCell ⟨w.heap.size + 1, 0, none⟩ (.string ⟨sc.toArray⟩) = W1 at *
          clear c0 f0 HP hneb hx hT hSC i1 i2 t1 hk3 hk
          have HT := Lib.hid (raw_at T.data.toList)
          have hL1 := HT.out.2.2.2.2.1
          have hL2 := HT.out.2.2.2.2.2
          rw [bs_size] at hL2
          go_cut [6] (fun s6 wx => W1 = wx ∧ s6 = .int .i64 (lead hostEnd T.data.toList : Nat))
          case first =>
            go_wp2_with fail
            go_loopg [6] T.size (fun g s6 wx => W1 = wx ∧ ∃ j : Nat, j ≤ T.size ∧ g = T.size - j ∧ s6 = .int .i64 j ∧ Hid (j ≤ lead hostEnd T.data.toList))
            case atStart => exact ⟨rfl, 0, Nat.zero_le _, rfl, rfl, Lib.hid (Nat.zero_le _)⟩
            case round =>
              obtain ⟨rfl, j, hj, rfl, rfl, HJ⟩ := hrel
              by_cases hlt : j < T.size
              · have i1 : (j : Int) < (T.size : Int) := by omega
                have hget := bs_get T j hlt
                rcases hc : hostEnd T[j] with _ | _
                · have HEq := Lib.hid (lead_stop hostEnd _ j HJ.out (fun x hx => by rw [hget] at hx; obtain rfl := Option.some.inj hx; exact hc))
                  by_cases h47 : T[j] = 47
                  · have z1 : ((T[j].toNat : Int) != 47) = false := by rw [h47]; rfl
                    clear hget hc h47
                    go_wp2_with fail
                    go_meet
                    exact ⟨rfl, by rw [← HEq.out]⟩
                  · have z1 : ((T[j].toNat : Int) != 47) = true := by rw [bne_iff_ne]; exact fun e => h47 (by rw [u8eq]; show T[j].toNat = 47; omega)
                    have z2 : ((T[j].toNat : Int) != 63) = false := by
                      unfold hostEnd at hc
                      rw [Bool.and_eq_false_iff] at hc
                      rcases hc with hc | hc
                      · exact (h47 (by simpa using hc)).elim
                      · have : T[j] = 63 := by simpa using hc
                        rw [this]; rfl
                    clear hget hc h47
                    go_wp2_with fail
                    go_meet
                    exact ⟨rfl, by rw [← HEq.out]⟩
                · have HS := Lib.hid (lead_step hostEnd _ j T[j] HJ.out hget hc)
                  unfold hostEnd at hc
                  rw [Bool.and_eq_true, bne_iff_ne, bne_iff_ne] at hc
                  have z1 : ((T[j].toNat : Int) != 47) = true := by rw [bne_iff_ne]; exact fun e => hc.1 (by rw [u8eq]; show T[j].toNat = 47; omega)
                  have z2 : ((T[j].toNat : Int) != 63) = true := by rw [bne_iff_ne]; exact fun e => hc.2 (by rw [u8eq]; show T[j].toNat = 63; omega)
                  clear hget hc
                  go_wp2_with fail
                  go_roundg (T.size - (j + 1))
                  case measure => omega
                  case rel => exact ⟨rfl, j + 1, by omega, rfl, by go_num, HS⟩
              · have i1 : (T.size : Int) ≤ (j : Int) := by omega
                have HEq := Lib.hid (show lead hostEnd T.data.toList = j by have := HJ.out; have := lead_le hostEnd T.data.toList; rw [bs_size] at this; omega)
                go_wp2_with fail
                go_meet
                exact ⟨rfl, by rw [HEq.out]⟩
          case rest =>
            obtain ⟨rfl, rfl⟩ := hcut
            obtain ⟨I, hI⟩ : ∃ I, lead hostEnd T.data.toList = I := ⟨_, rfl⟩
            obtain ⟨K, hK⟩ : ∃ K, lead (· != 63) T.data.toList = K := ⟨_, rfl⟩
            have HK := Lib.hid hK
            obtain ⟨r1, r2, r3, r4, _, _⟩ := HT.out
            rw [r1, r2, r3, r4, hI, hK, bs_size] at HR
            rw [hI, hK] at hL1
            rw [hK] at hL2
            rw [hI]
            have hse : T.extract 0 I = ⟨(T.data.toList.take I).toArray⟩ := bs_ext (by rw [ext_data]; simp)
            have hpe : T.extract I K = ⟨((T.data.toList.drop I).take (K - I)).toArray⟩ := bs_ext (by rw [ext_data])
            have hqe : T.extract (K + 1) T.size = ⟨(T.data.toList.drop (K + 1)).toArray⟩ := bs_ext (by rw [ext_data]; exact List.take_of_length_le (by rw [List.length_drop, bs_size]; exact Nat.le_refl _))
            have hhl : (T.data.toList.take I).length ≤ 1024 := by rw [List.length_take]; omega
            have hpl : ((T.data.toList.drop I).take (K - I)).length ≤ 1024 := by rw [List.length_take]; omega
            have hql : (T.data.toList.drop (K + 1)).length ≤ 1024 := by rw [List.length_drop, bs_size]; omega
            have hq0 : ¬ K < T.size → T.data.toList.drop (K + 1) = [] := fun h => List.drop_eq_nil_of_le (by rw [bs_size]; omega)
            generalize T.data.toList.take I = h at *
            generalize (T.data.toList.drop I).take (K - I) = P at *
            generalize T.data.toList.drop (K + 1) = q0 at *
            clear r1 r2 r3 r4 hI hK HT
            have HQE := Lib.hid hqe
            have HPE := Lib.hid hpe
            clear hqe hpe
            have hb := HP1.out.box.full
            have c1 := hb.c.c1
            have f1 := hb.f1
            clear hb
            go_upto_block 4 with fail
            have HP2 := Lib.hid (HP1.out.s1 h)
            generalize W1.setCell ⟨w.heap.size + 1, 1, none⟩ (.string ⟨h.toArray⟩) = W2 at *
            clear c1 f1 HP1 hse
            go_cut [7] (fun s7 wx => W2 = wx ∧ s7 = .int .i64 (K : Nat))
            case first =>
              go_wp2_with fail
              go_loopg [7] (T.size - I) (fun g s7 wx => W2 = wx ∧ ∃ j : Nat, I ≤ j ∧ j ≤ T.size ∧ g = T.size - j ∧ s7 = .int .i64 j ∧ Hid (j ≤ K))
              case atStart => exact ⟨rfl, I, Nat.le_refl _, by omega, rfl, rfl, Lib.hid hL1⟩
              case round =>
                obtain ⟨rfl, j, hIj, hj, rfl, rfl, HJ⟩ := hrel
                by_cases hlt : j < T.size
                · have i1 : (j : Int) < (T.size : Int) := by omega
                  have hget := bs_get T j hlt
                  by_cases h63 : T[j] = 63
                  · have HEq := Lib.hid (show j = K by rw [← HK.out]; exact lead_stop (· != 63) _ j (by rw [HK.out]; exact HJ.out) (fun x hx => by rw [hget] at hx; obtain rfl := Option.some.inj hx; simp [h63]))
                    have z1 : ((T[j].toNat : Int) != 63) = false := by rw [h63]; rfl
                    clear hget h63
                    go_wp2_with fail
                    go_meet
                    exact ⟨rfl, by rw [← HEq.out]⟩
                  · have HS := Lib.hid (show j + 1 ≤ K by rw [← HK.out]; exact lead_step (· != 63) _ j T[j] (by rw [HK.out]; exact HJ.out) hget (by simpa using h63))
                    have z1 : ((T[j].toNat : Int) != 63) = true := by rw [bne_iff_ne]; exact fun e => h63 (by rw [u8eq]; show T[j].toNat = 63; omega)
                    clear hget h63
                    go_wp2_with fail
                    go_roundg (T.size - (j + 1))
                    case measure => omega
                    case rel => exact ⟨rfl, j + 1, by omega, by omega, rfl, by go_num, HS⟩
                · have i1 : (T.size : Int) ≤ (j : Int) := by omega
                  have HEq := Lib.hid (show j = K by have := HJ.out; omega)
                  go_wp2_with fail
                  go_meet
                  exact ⟨rfl, by rw [← HEq.out]⟩
            case rest =>
              obtain ⟨rfl, rfl⟩ := hcut
              have hb := HP2.out.box.full
              have c3 := hb.c.c3
              have f3 := hb.f3
              have f5 := hb.f5
              have f4 := hb.f4
              have c4 := hb.c.c4
              have c5 := hb.c.c5
              have hpe := HPE.out
              have z1 : (I : Int) ≤ (K : Int) := by omega
              have z2 : (K : Int) ≤ (T.size : Int) := by omega
              clear hb
              go_upto_if 87 with fail
              go_cut [] (fun wx => Hid (PA w wx ⟨sc, h, 0, P, if K < T.size then q0 else [], decide (K < T.size)⟩))
              case first =>
                have HP3 := Lib.hid (HP2.out.s3 P)
                by_cases hKT : K < T.size
                · have z3 : (K : Int) < (T.size : Int) := by omega
                  have hqe := HQE.out
                  have t1 : ((K : Int) + 1).toNat = K + 1 := by omega
                  have z4 : (K : Int) + 1 ≤ (T.size : Int) := by omega
                  have HP5 := Lib.hid ((HP3.out.s5 true).s4 q0)
                  go_wp2_with fail
                  go_meet
                  rw [if_pos hKT, decide_eq_true hKT]
                  exact HP5
                · have z3 : (T.size : Int) ≤ (K : Int) := by omega
                  go_wp2_with fail
                  go_meet
                  rw [if_neg hKT, decide_eq_false hKT]
                  exact HP3
              case rest =>
                have HP5 := hcut
                have HQ0 := Lib.hid (show (if K < T.size then q0 else []) = q0 by
                  by_cases hKT : K < T.size
                  · rw [if_pos hKT]
                  · rw [if_neg hKT, hq0 hKT])
                rw [HQ0.out] at HP5
                generalize decide (K < T.size) = hqb at *
                clear hcut c3 f3 f5 f4 c4 c5 hpe z1 z2 HP2 HPE HQE HQ0 hq0 HK hL1 hL2
                obtain ⟨path, hpath⟩ : ∃ path, (if P = [] then [47] else P) = path := ⟨_, rfl⟩
                have hpathl : path.length ≤ 1024 := by
                  rw [← hpath]
                  by_cases e : P = []
                  · rw [if_pos e]; decide
                  · rw [if_neg e]; exact hpl
                rw [hpath] at HR
                have hb := HP5.out.box.full
                have c3 := hb.c.c3
                have f3 := hb.f3
                simp only at c3
                clear hb
                go_upto_if 96 with fail
                go_cut [] (fun wx => Hid (PA w wx ⟨sc, h, 0, path, q0, hqb⟩))
                case first =>
                  by_cases hP : P = []
                  · subst hP
                    obtain rfl : [47] = path := hpath
                    have HP6 := Lib.hid (HP5.out.s3 [47])
                    go_wp2_with fail
                    go_meet
                    exact HP6
                  · obtain rfl : P = path := by rw [← hpath, if_neg hP]
                    have hPe : P.isEmpty = false := by cases P with | nil => exact (hP rfl).elim | cons a b => rfl
                    have hPe2 : ¬ (P.isEmpty = true) := by rw [hPe]; simp
                    go_wp2_with fail
                    go_meet
                    exact HP5
                case rest =>
                  have HP6 := hcut
                  clear hcut c3 f3 HP5
                  have HT := Lib.hid (show parseB s.data.toList = parseT ⟨sc, h, 0, path, q0, hqb⟩ by rw [HE.out, HR.out])
                  go_wp2_with fail
                  go_loopw [8] (fun i8 wr => ∃ (j : Nat) (u' : U), i8 = .int .i64 j ∧ j ≤ 1025 ∧ Hid (PA w wr u') ∧ Hid (LimU u') ∧ ((j ≤ lead (· != 58) h ∧ j ≤ h.length ∧ u' = ⟨sc, h, 0, path, q0, hqb⟩) ∨ (u'.host.length < j ∧ Hid (parseB s.data.toList = if checkB u' = 0 then (u', 0) else (noU, checkB u'))))) (fun i8 _ => 2000 - (intOf i8).toNat)
                  case atStart => exact ⟨0, _, rfl, by omega, HP6, Lib.hid ⟨by show sc.length ≤ _; omega, by show h.length ≤ _; omega, by show path.length ≤ _; omega, by show q0.length ≤ _; omega⟩, .inl ⟨Nat.zero_le _, Nat.zero_le _, rfl⟩⟩
                  case round =>
                    obtain ⟨j, u', rfl, hj, HPr, HLu, hdis⟩ := hrel
                    by_cases hlt : j < u'.host.length
                    · have hd : j ≤ lead (· != 58) h ∧ j ≤ h.length ∧ u' = ⟨sc, h, 0, path, q0, hqb⟩ := by
                        rcases hdis with h | ⟨h, _⟩
                        · exact h
                        · omega
                      obtain ⟨hjl, hjh, rfl⟩ := hd
                      simp only at hlt
                      clear hdis
                      have hx : ∀ hh, ((⟨h.toArray⟩ : ByteArray)[j]'hh) = h[j] := fun _ => rfl
                      have i0 : (0 : Int) ≤ (j : Int) := by omega
                      have i1 : (j : Int) < (h.length : Int) := by omega
                      have hb := HPr.out.box.full
                      have c1 := hb.c.c1
                      simp only at c1
                      by_cases hc : h[j] = 58
                      · have hjL : j = lead (· != 58) h := lead_stop (· != 58) h j hjl (fun x hx' => by rw [List.getElem?_eq_getElem hlt] at hx'; obtain rfl := Option.some.inj hx'; simp [hc])
                        have h58 : h.contains 58 = true := List.contains_iff_mem.2 (by rw [← hc]; exact List.getElem_mem hlt)
                        have hcb : ((h[j].toNat : Int) == 58) = true := by rw [hc]; rfl
                        have e1 : (⟨h.toArray⟩ : ByteArray).extract (j + 1) h.length = ⟨(past 58 h).toArray⟩ := by rw [hjL]; exact extU_rest h 58 h.length (Nat.le_refl _)
                        have e2 : (⟨h.toArray⟩ : ByteArray).extract 0 j = ⟨(upto 58 h).toArray⟩ := by rw [hjL]; exact extU_take h 58
                        have t1 : ((j : Int) + 1).toNat = j + 1 := by omega
                        have hpl7 := past_len 58 h
                        have hul7 := upto_len 58 h
                        have hulen : (upto 58 h).length = j := by unfold upto; rw [← take_lead, List.length_take, ← hjL]; omega
                        have c2 := hb.c.c2
                        have f1 := hb.f1
                        have f2 := hb.f2
                        simp only at c2
                        clear hb hc
                        have H58 := Lib.hid h58
                        have HUL := Lib.hid hulen
                        clear hjL h58 hulen
                        go_wp2_with fail
                        refine (ref09_number ⟨(past 58 h).toArray⟩ wr (by show (past 58 h).length ≤ _; omega)).mono ?_
                        rintro e w2 ⟨rfl, rfl⟩
                        rw [show (⟨(past 58 h).toArray⟩ : ByteArray).data.toList = past 58 h from rfl]
                        by_cases hp : portB (past 58 h) = 0
                        · have HE7 := Lib.hid (show parseB s.data.toList = (noU, 4) by rw [HT.out]; exact parseT_bad H58.out hp)
                          rw [hp]
                          have HP8 := Lib.hid ((HPr.out.s2 0).s1 (upto 58 h))
                          have c2' := ((HPr.out.s2 0).s1 (upto 58 h)).box.cells.c2
                          simp only at c2'
                          clear hp
                          go_upto_if 124 with fail
                          clear c1 c2 f1 f2 c2'
                          generalize (wr.setCell ⟨w.heap.size + 1, 2, none⟩ (.int .i64 0)).setCell ⟨w.heap.size + 1, 1, none⟩ (.string ⟨(upto 58 h).toArray⟩) = W8 at *
                          have HQ := Lib.hid (put6 noU HP8.out.below (Nat.le_refl _) HP8.out.res)
                          have rb := HP8.out.res.full
                          obtain ⟨r0, r1, r2, r3, r4, r5⟩ := rb.c
                          have g0 := rb.f0
                          have g1 := rb.f1
                          have g2 := rb.f2
                          have g3 := rb.f3
                          have g4 := rb.f4
                          have g5 := rb.f5
                          clear rb
                          go_wp2_with fail
                          clear r0 r1 r2 r3 r4 r5 g0 g1 g2 g3 g4 g5
                          obtain ⟨k0, k1, k2, k3, k4, k5⟩ := HQ.out.1.cells
                          unfold put6w at k0 k1 k2 k3 k4 k5
                          simp only [noU] at k0 k1 k2 k3 k4 k5
                          refine bodyPost_ret (v := parseV (noU, 4)) ?_ rfl ⟨by rw [HE7.out], HQ.out.2⟩
                          simp [results, Tryz.f96, go_sem, k0, k1, k2, k3, k4, k5, noU]
                        · have HE7 := Lib.hid (show parseB s.data.toList = if checkB ⟨sc, upto 58 h, portB (past 58 h), path, q0, hqb⟩ = 0 then (⟨sc, upto 58 h, portB (past 58 h), path, q0, hqb⟩, 0) else (noU, checkB ⟨sc, upto 58 h, portB (past 58 h), path, q0, hqb⟩) by rw [HT.out]; exact parseT_has H58.out hp)
                          have hpb : (portB (past 58 h) == 0) = false := by rw [beq_eq_false_iff_ne]; exact hp
                          have HP8 := Lib.hid ((HPr.out.s2 (portB (past 58 h))).s1 (upto 58 h))
                          generalize portB (past 58 h) = pn at *
                          go_wp2_with fail
                          go_roundw
                          case rel => exact ⟨j + 1, ⟨sc, upto 58 h, pn, path, q0, hqb⟩, by go_num, by omega, HP8, Lib.hid ⟨by show sc.length ≤ _; omega, by show (upto 58 h).length ≤ _; omega, by show path.length ≤ _; omega, by show q0.length ≤ _; omega⟩, .inr ⟨by show (upto 58 h).length < j + 1; rw [HUL.out]; omega, HE7⟩⟩
                          case measure => (simp [intOf] <;> omega)
                      · have HS := Lib.hid (lead_step (· != 58) h j h[j] hjl (List.getElem?_eq_getElem hlt) (by simpa using hc))
                        have hcb : ((h[j].toNat : Int) == 58) = false := by rw [beq_eq_false_iff_ne]; exact fun e => hc (by rw [u8eq]; show h[j].toNat = 58; omega)
                        clear hb hc
                        go_wp2_with fail
                        go_roundw
                        case rel => exact ⟨j + 1, _, by go_num, by omega, HPr, HLu, .inl ⟨HS.out, by omega, rfl⟩⟩
                        case measure => (simp [intOf] <;> omega)
                    · have HE7 := Lib.hid (show parseB s.data.toList = if checkB u' = 0 then (u', 0) else (noU, checkB u') by
                        rcases hdis with ⟨h1, h2, rfl⟩ | ⟨_, h⟩
                        · rw [HT.out]
                          refine parseT_none ?_
                          cases hcon : h.contains 58
                          · rfl
                          · have := lead_lt 58 h hcon
                            simp only at hlt; omega
                        · exact h.out)
                      have i1 : (u'.host.length : Int) ≤ (j : Int) := by omega
                      clear hdis hlt
                      have b1 := HPr.out.box.full
                      obtain ⟨c0, c1, c2, c3, c4, c5⟩ := b1.c
                      clear b1
                      go_wp2_with fail
                      refine (ref09_Check u' _ HLu.out).mono ?_
                      rintro e w9 ⟨rfl, hb9⟩
                      have HP9 := Lib.hid (HPr.out.next hb9)
                      clear hb9 c0 c1 c2 c3 c4 c5
                      by_cases hc : checkB u' = 0
                      · rw [hc]
                        have HE9 := Lib.hid (show parseB s.data.toList = (u', 0) by rw [HE7.out, if_pos hc])
                        have HQ := Lib.hid (put6 u' HP9.out.below (Nat.le_refl _) HP9.out.res)
                        have rb := HP9.out.res.full
                        obtain ⟨r0, r1, r2, r3, r4, r5⟩ := rb.c
                        have g0 := rb.f0
                        have g1 := rb.f1
                        have g2 := rb.f2
                        have g3 := rb.f3
                        have g4 := rb.f4
                        have g5 := rb.f5
                        obtain ⟨c0, c1, c2, c3, c4, c5⟩ := HP9.out.box.cells
                        clear rb hc
                        go_wp2_with fail
                        clear r0 r1 r2 r3 r4 r5 g0 g1 g2 g3 g4 g5 c0 c1 c2 c3 c4 c5
                        obtain ⟨k0, k1, k2, k3, k4, k5⟩ := HQ.out.1.cells
                        unfold put6w at k0 k1 k2 k3 k4 k5
                        refine bodyPost_ret (v := parseV (u', 0)) ?_ rfl ⟨by rw [HE9.out], HQ.out.2⟩
                        simp [results, Tryz.f96, go_sem, k0, k1, k2, k3, k4, k5]
                      · have HE9 := Lib.hid (show parseB s.data.toList = (noU, checkB u') by rw [HE7.out, if_neg hc])
                        generalize checkB u' = er at *
                        have HQ := Lib.hid (put6 noU HP9.out.below (Nat.le_refl _) HP9.out.res)
                        have rb := HP9.out.res.full
                        obtain ⟨r0, r1, r2, r3, r4, r5⟩ := rb.c
                        have g0 := rb.f0
                        have g1 := rb.f1
                        have g2 := rb.f2
                        have g3 := rb.f3
                        have g4 := rb.f4
                        have g5 := rb.f5
                        clear rb
                        go_wp2_with fail
                        clear r0 r1 r2 r3 r4 r5 g0 g1 g2 g3 g4 g5
                        obtain ⟨k0, k1, k2, k3, k4, k5⟩ := HQ.out.1.cells
                        unfold put6w at k0 k1 k2 k3 k4 k5
                        simp only [noU] at k0 k1 k2 k3 k4 k5
                        refine bodyPost_ret (v := parseV (noU, er)) ?_ rfl ⟨by rw [HE9.out], HQ.out.2⟩
                        simp [results, Tryz.f96, go_sem, k0, k1, k2, k3, k4, k5, noU]
      · have HC := Lib.hid (sep_none (s := s.data.toList) (k := k) (by rw [bs_size]; omega) HN.out)
        have HE7 := Lib.hid (show parseB s.data.toList = (noU, 4) by rw [HE.out]; exact parse_nosep (by rw [HC.out]))
        have i1 : (s.size : Int) < (k : Int) + 3 := by omega
        obtain ⟨c0, c1, c2, c3, c4, c5⟩ := HP.out.box.cells
        simp only [noU] at c0 c1 c2 c3 c4 c5
        have HQ := Lib.hid (put6 noU HP.out.below (Nat.le_refl _) HP.out.res)
        have rb := HP.out.res.full
        obtain ⟨r0, r1, r2, r3, r4, r5⟩ := rb.c
        have g0 := rb.f0
        have g1 := rb.f1
        have g2 := rb.f2
        have g3 := rb.f3
        have g4 := rb.f4
        have g5 := rb.f5
        clear rb
        go_wp2_with fail
        clear r0 r1 r2 r3 r4 r5 g0 g1 g2 g3 g4 g5
        obtain ⟨k0, k1, k2, k3, k4, k5⟩ := HQ.out.1.cells
        unfold put6w at k0 k1 k2 k3 k4 k5
        simp only [noU] at k0 k1 k2 k3 k4 k5
        refine bodyPost_ret (v := parseV (noU, 4)) ?_ rfl ⟨by rw [HE7.out], HQ.out.2⟩
        simp [results, Tryz.f96, go_sem, k0, k1, k2, k3, k4, k5, noU]
  · have hli : (1024 : Int) < (s.size : Int) := by omega
    have HE := Lib.hid (parse_long (s := s.data.toList) (by rw [bs_size]; omega))
    have HU0 := Lib.hid (show UBx (w.alloc (.cells #[.string ⟨#[]⟩, .string ⟨#[]⟩, .int .i64 0, .string ⟨#[]⟩, .string ⟨#[]⟩, .bool false] 23)) w.heap.size noU from heap_alloc_new w _)
    have HW0 := Lib.hid ((Below.refl w.heap.size w).alloc (Nat.le_refl _) (.cells #[.string ⟨#[]⟩, .string ⟨#[]⟩, .int .i64 0, .string ⟨#[]⟩, .string ⟨#[]⟩, .bool false] 23))
    go_enter Tryz.func96, Tryz.ntmps96
    go_wp2_with fail
    obtain ⟨k0, k1, k2, k3, k4, k5⟩ := HU0.out.cells
    simp only [noU] at k0 k1 k2 k3 k4 k5
    refine bodyPost_ret (v := parseV (noU, 3)) ?_ rfl ⟨by rw [HE.out], HW0.out⟩
    simp [results, Tryz.f96, go_sem, k0, k1, k2, k3, k4, k5, noU]
end Go.Proofs.YtmkpejioinkceaaGreatDoor
