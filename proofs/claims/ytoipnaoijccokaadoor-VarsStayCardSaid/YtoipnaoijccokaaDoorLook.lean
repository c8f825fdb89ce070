/- Looking a name up in the table of variables; what is known, and where it comes from. -/
import Derived.Test.YtoipnaoijccokaaDoorRules
import Derived.Test.YtoipnaoijccokaaDoorPlain
import Derived.Laws.EntriesVeiled
namespace Go.Proofs.YtoipnaoijccokaaDoor
open Go.RowKit
set_option linter.unusedVariables false

theorem zinfo : Tryd.t46.zero = some (.agg #[.string ⟨#[]⟩, .nilFunc, .nilFunc]) := by kernel_rfl
theorem zrule (W : World) : (zeroValue 46).run Tryd.prog W = .ok (.agg #[.string ⟨#[]⟩, .nilFunc, .nilFunc]) W := by
  simp [zeroValue, go_sem, zinfo]
theorem fld0 (x y z : Value) (W : World) : (Instr.field 46 (.agg #[x, y, z]) 0).run Tryd.prog W = .ok x W := by kernel_rfl
theorem name_cases (name : Bs) : name = nHost ∨ name = nReferer ∨ name = nAgent ∨ name = nCookie ∨ name = nQuery ∨ name = nLang ∨ vknown name = false := by
  by_cases h1 : name = nHost
  · exact .inl h1
  by_cases h2 : name = nReferer
  · exact .inr (.inl h2)
  by_cases h3 : name = nAgent
  · exact .inr (.inr (.inl h3))
  by_cases h4 : name = nCookie
  · exact .inr (.inr (.inr (.inl h4)))
  by_cases h5 : name = nQuery
  · exact .inr (.inr (.inr (.inr (.inl h5))))
  by_cases h6 : name = nLang
  · exact .inr (.inr (.inr (.inr (.inr (.inl h6)))))
  refine .inr (.inr (.inr (.inr (.inr (.inr ?_)))))
  unfold vknown names tab
  simp only [List.map_cons, List.map_nil, List.any_cons, List.any_nil, beq_eq_false_iff_ne.2 (Ne.symm h1), beq_eq_false_iff_ne.2 (Ne.symm h2), beq_eq_false_iff_ne.2 (Ne.symm h3), beq_eq_false_iff_ne.2 (Ne.symm h4), beq_eq_false_iff_ne.2 (Ne.symm h5), beq_eq_false_iff_ne.2 (Ne.symm h6), Bool.or_false]
theorem none_ne {name n : Bs} (h : vknown name = false) (hn : n ∈ names) : (n == name) = false := by
  unfold vknown at h
  rw [List.any_eq_false] at h
  simpa using h n hn
theorem assoc_none {name : Bs} (h : vknown name = false) (p1 p2 p3 : Nat) : assoc (ruleL p1 p2 p3) name = none := by
  unfold assoc ruleL
  simp only [List.find?_cons, none_ne h (n := nHost) (by decide), none_ne h (n := nReferer) (by decide), none_ne h (n := nAgent) (by decide), none_ne h (n := nCookie) (by decide), none_ne h (n := nQuery) (by decide), none_ne h (n := nLang) (by decide)]
  rfl
theorem vsrc_none {name : Bs} (h : vknown name = false) : vsrc name = [] := by
  unfold vsrc tab
  simp only [List.find?_cons, none_ne h (n := nHost) (by decide), none_ne h (n := nReferer) (by decide), none_ne h (n := nAgent) (by decide), none_ne h (n := nCookie) (by decide), none_ne h (n := nQuery) (by decide), none_ne h (n := nLang) (by decide)]
  rfl
theorem name_lit {name : ByteArray} {l : Bs} (h : name.data.toList = l) : name = ⟨l.toArray⟩ := bs_ext h

theorem look2_0 {W : World} {b p1 p2 p3 : Nat} (h : RulesAt W b p1 p2 p3) :
    (Instr.lookup 48 (.map (some b)) (.string ⟨nHost.toArray⟩) true).run Tryd.prog W = .ok (.tuple #[.agg #[.string ⟨[104, 111, 115, 116].toArray⟩, (.func (.func 24) #[] #[]), (.func (.func 25) #[] #[])], .bool true]) W := map_get h.map _ _ urules _ (zrule W) _ _

theorem look2_1 {W : World} {b p1 p2 p3 : Nat} (h : RulesAt W b p1 p2 p3) :
    (Instr.lookup 48 (.map (some b)) (.string ⟨nReferer.toArray⟩) true).run Tryd.prog W = .ok (.tuple #[.agg #[.string ⟨refererName.toArray⟩, (.func (.func 39) #[] #[.pointer (some ⟨p1, 0, none⟩)]), (.func (.func 25) #[] #[])], .bool true]) W := map_get h.map _ _ urules _ (zrule W) _ _

theorem look2_2 {W : World} {b p1 p2 p3 : Nat} (h : RulesAt W b p1 p2 p3) :
    (Instr.lookup 48 (.map (some b)) (.string ⟨nAgent.toArray⟩) true).run Tryd.prog W = .ok (.tuple #[.agg #[.string ⟨agentName.toArray⟩, (.func (.func 39) #[] #[.pointer (some ⟨p2, 0, none⟩)]), (.func (.func 27) #[] #[])], .bool true]) W := map_get h.map _ _ urules _ (zrule W) _ _

theorem look2_3 {W : World} {b p1 p2 p3 : Nat} (h : RulesAt W b p1 p2 p3) :
    (Instr.lookup 48 (.map (some b)) (.string ⟨nCookie.toArray⟩) true).run Tryd.prog W = .ok (.tuple #[.agg #[.string ⟨cookieName.toArray⟩, (.func (.func 28) #[] #[]), (.func (.func 29) #[] #[])], .bool true]) W := map_get h.map _ _ urules _ (zrule W) _ _

theorem look2_4 {W : World} {b p1 p2 p3 : Nat} (h : RulesAt W b p1 p2 p3) :
    (Instr.lookup 48 (.map (some b)) (.string ⟨nQuery.toArray⟩) true).run Tryd.prog W = .ok (.tuple #[.agg #[.string ⟨#[]⟩, (.func (.func 30) #[] #[]), (.func (.func 31) #[] #[])], .bool true]) W := map_get h.map _ _ urules _ (zrule W) _ _

theorem look2_5 {W : World} {b p1 p2 p3 : Nat} (h : RulesAt W b p1 p2 p3) :
    (Instr.lookup 48 (.map (some b)) (.string ⟨nLang.toArray⟩) true).run Tryd.prog W = .ok (.tuple #[.agg #[.string ⟨langName.toArray⟩, (.func (.func 39) #[] #[.pointer (some ⟨p3, 0, none⟩)]), (.func (.func 32) #[] #[])], .bool true]) W := map_get h.map _ _ urules _ (zrule W) _ _

theorem look2_6 {W : World} {b p1 p2 p3 : Nat} (h : RulesAt W b p1 p2 p3) {name : ByteArray} (hn : vknown name.data.toList = false) :
    (Instr.lookup 48 (.map (some b)) (.string name) true).run Tryd.prog W = .ok (.tuple #[.agg #[.string ⟨#[]⟩, .nilFunc, .nilFunc], .bool false]) W := by
  have := map_get h.map _ _ urules _ (zrule W) name true
  rw [assoc_none hn] at this
  exact this

theorem look1_0 {W : World} {b p1 p2 p3 : Nat} (h : RulesAt W b p1 p2 p3) :
    (Instr.lookup 48 (.map (some b)) (.string ⟨nHost.toArray⟩) false).run Tryd.prog W = .ok ((.agg #[.string ⟨[104, 111, 115, 116].toArray⟩, (.func (.func 24) #[] #[]), (.func (.func 25) #[] #[])])) W := map_get h.map _ _ urules _ (zrule W) _ _

theorem look1_1 {W : World} {b p1 p2 p3 : Nat} (h : RulesAt W b p1 p2 p3) :
    (Instr.lookup 48 (.map (some b)) (.string ⟨nReferer.toArray⟩) false).run Tryd.prog W = .ok ((.agg #[.string ⟨refererName.toArray⟩, (.func (.func 39) #[] #[.pointer (some ⟨p1, 0, none⟩)]), (.func (.func 25) #[] #[])])) W := map_get h.map _ _ urules _ (zrule W) _ _

theorem look1_2 {W : World} {b p1 p2 p3 : Nat} (h : RulesAt W b p1 p2 p3) :
    (Instr.lookup 48 (.map (some b)) (.string ⟨nAgent.toArray⟩) false).run Tryd.prog W = .ok ((.agg #[.string ⟨agentName.toArray⟩, (.func (.func 39) #[] #[.pointer (some ⟨p2, 0, none⟩)]), (.func (.func 27) #[] #[])])) W := map_get h.map _ _ urules _ (zrule W) _ _

theorem look1_3 {W : World} {b p1 p2 p3 : Nat} (h : RulesAt W b p1 p2 p3) :
    (Instr.lookup 48 (.map (some b)) (.string ⟨nCookie.toArray⟩) false).run Tryd.prog W = .ok ((.agg #[.string ⟨cookieName.toArray⟩, (.func (.func 28) #[] #[]), (.func (.func 29) #[] #[])])) W := map_get h.map _ _ urules _ (zrule W) _ _

theorem look1_4 {W : World} {b p1 p2 p3 : Nat} (h : RulesAt W b p1 p2 p3) :
    (Instr.lookup 48 (.map (some b)) (.string ⟨nQuery.toArray⟩) false).run Tryd.prog W = .ok ((.agg #[.string ⟨#[]⟩, (.func (.func 30) #[] #[]), (.func (.func 31) #[] #[])])) W := map_get h.map _ _ urules _ (zrule W) _ _

theorem look1_5 {W : World} {b p1 p2 p3 : Nat} (h : RulesAt W b p1 p2 p3) :
    (Instr.lookup 48 (.map (some b)) (.string ⟨nLang.toArray⟩) false).run Tryd.prog W = .ok ((.agg #[.string ⟨langName.toArray⟩, (.func (.func 39) #[] #[.pointer (some ⟨p3, 0, none⟩)]), (.func (.func 32) #[] #[])])) W := map_get h.map _ _ urules _ (zrule W) _ _

theorem look1_6 {W : World} {b p1 p2 p3 : Nat} (h : RulesAt W b p1 p2 p3) {name : ByteArray} (hn : vknown name.data.toList = false) :
    (Instr.lookup 48 (.map (some b)) (.string name) false).run Tryd.prog W = .ok (.agg #[.string ⟨#[]⟩, .nilFunc, .nilFunc]) W := by
  have := map_get h.map _ _ urules _ (zrule W) name false
  rw [assoc_none hn] at this
  exact this


theorem vars_host (h t : ByteArray) (a : Option Addr) (n c : Nat) (w : World) :
    Calls Tryd.prog 24 #[.agg #[.string h, .string t, .slice a n c]] w (Ret w (.tuple #[.string h, .bool (!h.data.toList.isEmpty)])) := by
  have HE := Lib.hid (Lib.toList_data h)
  go_enter Tryd.func24, Tryd.ntmps24
  go_wp2_with fail
  go_region
  all_goals
    go_wp2
    go_ret2
    exact ⟨by rw [HE.out]; rfl, ((Below.refl _ _).alloc (Nat.le_refl _) _).drew⟩

end Go.Proofs.YtoipnaoijccokaaDoor
