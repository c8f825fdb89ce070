/- What a world holds of the library's variables for this family; contracts of numerals. -/
import Derived.Test.YtobhceopfjcmnaaGreatDoorUriEsc
import Derived.Test.YtobhceopfjcmnaaGreatDoorTwo
import Derived.FnData
import Derived.Lib.AppendIntMem
namespace Go.Proofs.YtobhceopfjcmnaaGreatDoor
open Go.RowKit
set_option linter.unusedVariables false

theorem g_pow : Tryz.prog.globalNamed "internal/strconv.uint64pow10" = some 6 := by kernel_rfl
theorem g_syn : Tryz.prog.globalNamed "strconv.ErrSyntax" = some 4 := by kernel_rfl
theorem g_rng : Tryz.prog.globalNamed "strconv.ErrRange" = some 5 := by kernel_rfl
/-- What the library's variables hold. -/
structure GX (w : World) : Prop where
  good : Good w
  tab : Lib.TabIs Tryz.prog w "internal/strconv.uint64pow10" .u64 Lib.pow10Tab
  syn : ∃ tp p, w.var? Tryz.prog "strconv.ErrSyntax" = some #[.iface tp p]
  rng : ∃ tp p, w.var? Tryz.prog "strconv.ErrRange" = some #[.iface tp p]
theorem var_next {w w' : World} {n : String} {g : Nat} {cs : Array Value} (hg : Tryz.prog.globalNamed n = some g) (h : w.var? Tryz.prog n = some cs) (h0 : 0 < cs.size) (hb : Below w.heap.size w w') : w'.var? Tryz.prog n = some cs := by
  have hc := World.var?_cell hg h 0
  rw [Array.getElem?_eq_getElem h0] at hc
  exact var?_below hb hg (cell_lt hc) h
theorem GX.next {w w' : World} (h : GX w) (hb : Below w.heap.size w w') : GX w' := by
  obtain ⟨t1, p1, h1⟩ := h.syn
  obtain ⟨t2, p2, h2⟩ := h.rng
  exact ⟨h.good.next hb, var_next g_pow h.tab (by decide) hb, ⟨t1, p1, var_next g_syn h1 Nat.zero_lt_one hb⟩, ⟨t2, p2, var_next g_rng h2 Nat.zero_lt_one hb⟩⟩
theorem lib_Itoa (n : Nat) (w : World) (hg : GX w) (hn : n < 1000000) :
    Calls Tryz.prog 72 #[.int .i64 (n : Int)] w (Ret w (.string ⟨(numB n).toArray⟩)) := by
  refine (Tryz.strconv_Itoa n (by omega) (by omega) w hg.tab).mono ?_
  rintro e w' ⟨rfl, k, os, rfl⟩
  refine ⟨by rw [numB_itoa n hn], ?_⟩
  exact Lib.below_grow _ w (Nat.le_refl _) k os

theorem conv_one (w : World) (b : UInt8) (v : Int) (hv : v = (b.toNat : Int)) : (convert 31 9 (.slice (some ⟨w.heap.size, 0, none⟩) 1 1)).run Tryz.prog (w.alloc (.cells #[.int .u8 v] 5)) = .ok (.string ⟨[b].toArray⟩) (w.alloc (.cells #[.int .u8 v] 5)) := by
  subst hv
  have := run_convert_bytes_back (P := Tryz.prog) (w.alloc (.cells #[.int .u8 (b.toNat : Int)] 5)) 31 9 5 ⟨w.heap.size, 0, none⟩ 1 [b] u31 u5 u9 (fun j hj => by
    have hj0 : j = 0 := by simpa using hj
    subst hj0
    have : ((⟨w.heap.size, 0, none⟩ : Addr).add 0) = ⟨w.heap.size, 0, none⟩ := rfl
    rw [this]
    exact cell_new w _ _ 0 _ rfl)
  exact this
end Go.Proofs.YtobhceopfjcmnaaGreatDoor
