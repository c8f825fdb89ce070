/- A row of bytes that came in. -/
import Derived.Test.YtobhceopfjcmnaaGreatDoorOpen0
import Derived.ChangeSlices
import Derived.Test.YtobhceopfjcmnaaGreatDoorUriTwW
namespace Go.Proofs.YtobhceopfjcmnaaGreatDoor
open Go.RowKit Go.ChangeShapes Go.WideShapes
variable {H : Type} {enc : TypeId × Value → H} {W : World} {held : Bool}
set_option linter.unusedVariables false

set_option maxRecDepth 100000 in
theorem open_how {r : Reach} {b0 : Nat} {v : Value} {d : DataW H} {p : List MemPlace} (hv : Value.okWide Tryz.prog W r b0 31 v) (h : DataW.Trod enc Tryz.prog W 0 (fun _ => true) held 31 v d p) (hL : Light 31 d) :
    ∃ how : Bs, How W v how := by
  obtain ⟨fuel, hf⟩ := h
  have hc : Tryz.prog.cellsOf 5 = 1 := by kernel_rfl
  obtain ⟨a1, n1, c1, rfl⟩ := okWide_slice u31 hv
  rcases open_ints u31 u5 hc hf with ⟨h1, _⟩ | ⟨a, len, cap, zs, h1, _, hl, hm, hz, hx, hcell, hw⟩
  · simp only [Value.cells, List.cons.injEq, and_true, Value.slice.injEq] at h1
    obtain ⟨rfl, rfl, rfl⟩ := h1
    exact ⟨[], .inl ⟨rfl, none, 0, rfl⟩⟩
  · simp only [Value.cells, List.cons.injEq, and_true, Value.slice.injEq] at h1
    obtain ⟨rfl, rfl, rfl⟩ := h1
    simp only [if_true] at hz
    by_cases h0 : n1 = 0
    · subst h0; exact ⟨[], .inl ⟨rfl, _, _, rfl⟩⟩
    · obtain ⟨b, o, spot⟩ := a
      have hspot : spot = none := by
        have := hcell 0 (by omega)
        simpa [Addr.add] using World.cell?_spot this
      subst hspot
      have hn1 : n1 ≤ zs.length := by omega
      refine ⟨(zs.take n1).map fun z => UInt8.ofNat z.toNat, .inr ⟨b, o, c1, ?_, ?_, ?_, ?_, ?_⟩⟩
      · rw [List.length_map, List.length_take, Nat.min_eq_left (by omega)]
      · rw [List.length_map, List.length_take]; omega
      · rw [List.length_map, List.length_take]
        have hd := congrArg Prod.fst hx
        simp only at hd
        rw [hd] at hL
        have := light_slice u31 hL
        rw [show Tryz.prog.bytesOf 5 = 1 by kernel_rfl] at this
        simp only [lits, List.length_map, List.length_take, List.length_drop, reachBytes] at this
        omega
      · have := hcell 0 (by omega)
        exact cell_lt this
      · intro j hj
        rw [List.length_map, List.length_take] at hj
        have hc1 := hcell j (by omega)
        have hmem : zs.getD j 0 ∈ zs := by
          rw [List.getD_eq_getElem?_getD, List.getElem?_eq_getElem (show j < zs.length by omega)]
          exact List.getElem_mem _
        have hwf := hw _ hmem
        have hb : 0 ≤ zs.getD j 0 ∧ zs.getD j 0 < 256 := by
          simp only [Lit.wf, Bool.and_eq_true] at hwf
          have h1 := of_decide_eq_true hwf.1
          have h2 := of_decide_eq_true hwf.2
          have e1 : IntKind.u8.min = 0 := rfl
          have e2 : IntKind.u8.max = 255 := rfl
          omega
        have he : (((zs.take n1).map fun z => UInt8.ofNat z.toNat)[j]'(by rw [List.length_map, List.length_take]; omega)).toNat = (zs.getD j 0).toNat := by
          rw [List.getElem_map, List.getElem_take, UInt8.toNat_ofNat_of_lt' (by
            have : zs[j]'(by omega) = zs.getD j 0 := by rw [List.getD_eq_getElem?_getD, List.getElem?_eq_getElem (show j < zs.length by omega)]; rfl
            rw [this]; show _ < 256; omega)]
          rw [List.getD_eq_getElem?_getD, List.getElem?_eq_getElem (show j < zs.length by omega)]; rfl
        rw [he, Int.toNat_of_nonneg hb.1]
        have ha : (⟨b, o, none⟩ : Addr).add j = ⟨b, o + j, none⟩ := by simp [Addr.add]
        rw [ha] at hc1
        exact hc1
end Go.Proofs.YtobhceopfjcmnaaGreatDoor
