/- What a world holds of the library's variables for this family; contracts of numerals. -/
import Derived.Test.YtobhceopfjcmnaaDoorUriEsc
import Derived.Test.YtobhceopfjcmnaaDoorTwo
import Derived.FnData
import Derived.Lib.AppendIntMem
namespace Go.Proofs.YtobhceopfjcmnaaDoor
open Go.RowKit
set_option linter.unusedVariables false

theorem g_pow : Tryd.prog.globalNamed "internal/strconv.uint64pow10" = some 3 := by kernel_rfl
theorem g_syn : Tryd.prog.globalNamed "strconv.ErrSyntax" = some 1 := by kernel_rfl
theorem g_rng : Tryd.prog.globalNamed "strconv.ErrRange" = some 2 := by kernel_rfl
/-- What the library's variables hold. -/
structure GX (w : World) : Prop where
  good : Good w
  tab : Lib.TabIs Tryd.prog w "internal/strconv.uint64pow10" .u64 Lib.pow10Tab
  syn : ∃ tp p, w.var? Tryd.prog "strconv.ErrSyntax" = some #[.iface tp p]
  rng : ∃ tp p, w.var? Tryd.prog "strconv.ErrRange" = some #[.iface tp p]
theorem var_next {w w' : World} {n : String} {g : Nat} {cs : Array Value} (hg : Tryd.prog.globalNamed n = some g) (h : w.var? Tryd.prog n = some cs) (h0 : 0 < cs.size) (hb : Below w.heap.size w w') : w'.var? Tryd.prog n = some cs := by
  have hc := World.var?_cell hg h 0
  rw [Array.getElem?_eq_getElem h0] at hc
  exact var?_below hb hg (cell_lt hc) h
theorem GX.next {w w' : World} (h : GX w) (hb : Below w.heap.size w w') : GX w' := by
  obtain ⟨t1, p1, h1⟩ := h.syn
  obtain ⟨t2, p2, h2⟩ := h.rng
  exact ⟨h.good.next hb, var_next g_pow h.tab (by decide) hb, ⟨t1, p1, var_next g_syn h1 Nat.zero_lt_one hb⟩, ⟨t2, p2, var_next g_rng h2 Nat.zero_lt_one hb⟩⟩
theorem lib_Itoa (n : Nat) (w : World) (hg : GX w) (hn : n < 1000000) :
    Calls Tryd.prog 19 #[.int .i64 (n : Int)] w (Ret w (.string ⟨(numB n).toArray⟩)) := by
  refine (Tryd.strconv_Itoa n (by omega) (by omega) w hg.tab).mono ?_
  rintro e w' ⟨rfl, k, os, rfl⟩
  refine ⟨by rw [numB_itoa n hn], ?_⟩
  exact Lib.below_grow _ w (Nat.le_refl _) k os

end Go.Proofs.YtobhceopfjcmnaaDoor
