/- What a world holds of the library's variables for this family; contracts of numerals. The walk of a URI's text. -/
import Derived.Test.YtmkpejioinkceaaGreatDoorUriEscM
import Derived.Test.YtmkpejioinkceaaGreatDoorBase
import Derived.FnData
import Derived.Lib.AppendIntMem
import Derived.Test.YtmkpejioinkceaaGreatDoorUriN
namespace Go.Proofs.YtmkpejioinkceaaGreatDoor
open Go.RowKit
set_option linter.unusedVariables false

theorem g_pow : Tryz.prog.globalNamed "internal/strconv.uint64pow10" = some 5 := by kernel_rfl
theorem g_syn : Tryz.prog.globalNamed "strconv.ErrSyntax" = some 1 := by kernel_rfl
theorem g_rng : Tryz.prog.globalNamed "strconv.ErrRange" = some 2 := by kernel_rfl
/-- What the library's variables hold. -/
structure GX (w : World) : Prop where
  good : Good w
  tab : Lib.TabIs Tryz.prog w "internal/strconv.uint64pow10" .u64 Lib.pow10Tab
  syn : ∃ tp p, w.var? Tryz.prog "strconv.ErrSyntax" = some #[.iface tp p]
  rng : ∃ tp p, w.var? Tryz.prog "strconv.ErrRange" = some #[.iface tp p]
theorem var_next {w w' : World} {n : String} {g : Nat} {cs : Array Value} (hg : Tryz.prog.globalNamed n = some g) (h : w.var? Tryz.prog n = some cs) (h0 : 0 < cs.size) (hb : Below w.heap.size w w') : w'.var? Tryz.prog n = some cs := by
  have hc := World.var?_cell hg h 0
  rw [Array.getElem?_eq_getElem h0] at hc
  exact var?_below hb hg (cell_lt hc) h
theorem GX.next {w w' : World} (h : GX w) (hb : Below w.heap.size w w') : GX w' := by
  obtain ⟨t1, p1, h1⟩ := h.syn
  obtain ⟨t2, p2, h2⟩ := h.rng
  exact ⟨h.good.next hb, var_next g_pow h.tab (by decide) hb, ⟨t1, p1, var_next g_syn h1 Nat.zero_lt_one hb⟩, ⟨t2, p2, var_next g_rng h2 Nat.zero_lt_one hb⟩⟩
theorem lib_Itoa (n : Nat) (w : World) (hg : GX w) (hn : n < 1000000) :
    Calls Tryz.prog 43 #[.int .i64 (n : Int)] w (Ret w (.string ⟨(numB n).toArray⟩)) := by
  refine (Tryz.strconv_Itoa n (by omega) (by omega) w hg.tab).mono ?_
  rintro e w' ⟨rfl, k, os, rfl⟩
  refine ⟨by rw [numB_itoa n hn], ?_⟩
  exact Lib.below_grow _ w (Nat.le_refl _) k os

theorem conv_one (w : World) (b : UInt8) (v : Int) (hv : v = (b.toNat : Int)) : (convert 71 9 (.slice (some ⟨w.heap.size, 0, none⟩) 1 1)).run Tryz.prog (w.alloc (.cells #[.int .u8 v] 5)) = .ok (.string ⟨[b].toArray⟩) (w.alloc (.cells #[.int .u8 v] 5)) := by
  subst hv
  have := run_convert_bytes_back (P := Tryz.prog) (w.alloc (.cells #[.int .u8 (b.toNat : Int)] 5)) 71 9 5 ⟨w.heap.size, 0, none⟩ 1 [b] u71 u5 u9 (fun j hj => by
    have hj0 : j = 0 := by simpa using hj
    subst hj0
    have : ((⟨w.heap.size, 0, none⟩ : Addr).add 0) = ⟨w.heap.size, 0, none⟩ := rfl
    rw [this]
    exact cell_new w _ _ 0 _ rfl)
  exact this
end Go.Proofs.YtmkpejioinkceaaGreatDoor

namespace Go.Proofs.YtmkpejioinkceaaGreatDoor
open Go.RowKit
set_option linter.unusedVariables false

/-- A URI as a value. -/
abbrev uV (u : U) : Value := .agg #[.string ⟨u.scheme.toArray⟩, .string ⟨u.host.toArray⟩, .int .i64 u.port, .string ⟨u.path.toArray⟩, .string ⟨u.query.toArray⟩, .bool u.hq]
/-- The box of a URI. -/
def UBx (W : World) (b : Nat) (u : U) : Prop := W.heap[b]? = some (.cells #[.string ⟨u.scheme.toArray⟩, .string ⟨u.host.toArray⟩, .int .i64 u.port, .string ⟨u.path.toArray⟩, .string ⟨u.query.toArray⟩, .bool u.hq] 23)
theorem UBx.lt {W : World} {b : Nat} {u : U} (h : UBx W b u) : b < W.heap.size := (Array.getElem?_eq_some_iff.1 h).1
theorem UBx.next {W W' : World} {b : Nat} {u : U} (h : UBx W b u) (hb : Below W.heap.size W W') : UBx W' b u := (hb.block _ h.lt).trans h
structure UCells (W : World) (b : Nat) (u : U) : Prop where
  c0 : W.cell? ⟨b, 0, none⟩ = some (.string ⟨u.scheme.toArray⟩)
  c1 : W.cell? ⟨b, 1, none⟩ = some (.string ⟨u.host.toArray⟩)
  c2 : W.cell? ⟨b, 2, none⟩ = some (.int .i64 u.port)
  c3 : W.cell? ⟨b, 3, none⟩ = some (.string ⟨u.path.toArray⟩)
  c4 : W.cell? ⟨b, 4, none⟩ = some (.string ⟨u.query.toArray⟩)
  c5 : W.cell? ⟨b, 5, none⟩ = some (.bool u.hq)
theorem UBx.cells {W : World} {b : Nat} {u : U} (h : UBx W b u) : UCells W b u :=
  ⟨cell_of_row _ _ 0 _ _ _ h, cell_of_row _ _ 1 _ _ _ h, cell_of_row _ _ 2 _ _ _ h, cell_of_row _ _ 3 _ _ _ h, cell_of_row _ _ 4 _ _ _ h, cell_of_row _ _ 5 _ _ _ h⟩
theorem ubx_new (w : World) (u : U) : UBx (w.alloc (.cells #[.string ⟨u.scheme.toArray⟩, .string ⟨u.host.toArray⟩, .int .i64 u.port, .string ⟨u.path.toArray⟩, .string ⟨u.query.toArray⟩, .bool u.hq] 23)) w.heap.size u := heap_alloc_new w _
/-- A URI of no more bytes than may be gone through. -/
structure LimU (u : U) : Prop where
  scheme : u.scheme.length ≤ 10000
  host : u.host.length ≤ 10000
  path : u.path.length ≤ 10000
  query : u.query.length ≤ 10000
theorem cat_bs (a b : Bs) : (⟨a.toArray⟩ : ByteArray) ++ ⟨b.toArray⟩ = ⟨(a ++ b).toArray⟩ := by apply ByteArray.ext; simp
theorem text_parts (u : U) : textB u = u.scheme ++ [58, 47, 47] ++ u.host ++ (bif u.port == 0 then [] else [58] ++ numB u.port.toNat) ++ u.path ++ (bif u.hq then [63] ++ u.query else []) := rfl

set_option maxRecDepth 100000 in
theorem uri_put (u : U) (w : World) (hg : GX w) (hl : LimU u) (hp : 0 ≤ u.port ∧ u.port ≤ 65535) :
    Calls Tryz.prog 40 #[uV u] w (Ret w (.string ⟨(textB u).toArray⟩)) := by
  obtain ⟨sc, ho, po, pa, qu, hq⟩ := u
  obtain ⟨l1, l2, l3, l4⟩ := hl
  obtain ⟨p1, p2⟩ := hp
  simp only at l1 l2 l3 l4 p1 p2
  have HT := Lib.hid (text_parts ⟨sc, ho, po, pa, qu, hq⟩)
  have HB := Lib.hid (ubx_new w ⟨sc, ho, po, pa, qu, hq⟩)
  have HW := Lib.hid ((Below.refl w.heap.size w).alloc (Nat.le_refl _) (.cells #[.string ⟨sc.toArray⟩, .string ⟨ho.toArray⟩, .int .i64 po, .string ⟨pa.toArray⟩, .string ⟨qu.toArray⟩, .bool hq] 23))
  have HG := Lib.hid hg
  clear hg
  by_cases hp0 : po = 0
  · subst hp0
    go_enter Tryz.func40, Tryz.ntmps40
    cases hq
    all_goals
      go_wp2_with fail
      go_ret
      exact ⟨ret_str (by rw [HT.out]; simp), HW.out⟩
  · obtain ⟨n, rfl⟩ : ∃ n : Nat, po = n := ⟨po.toNat, by omega⟩
    have hn0 : ((n : Int) == 0) = false := by rw [beq_eq_false_iff_ne]; exact hp0
    have hn1 : ((n : Int) != 0) = true := by rw [bne_iff_ne]; exact hp0
    have hn2 := numK_len 6 5 n (by omega) (by omega)
    have HE := Lib.hid hn0
    clear hn0
    go_enter Tryz.func40, Tryz.ntmps40
    go_wp2_with fail
    generalize w.alloc (.cells #[.string ⟨sc.toArray⟩, .string ⟨ho.toArray⟩, .int .i64 (n : Int), .string ⟨pa.toArray⟩, .string ⟨qu.toArray⟩, .bool hq] 23) = W at *
    refine (lib_Itoa n W (HG.out.next HW.out) (by omega)).mono ?_
    rintro e w1 ⟨rfl, hb1⟩
    obtain ⟨c0, c1, c2, c3, c4, c5⟩ := (HB.out.next hb1).cells
    have HW1 := Lib.hid (HW.out.trans (hb1.mono HW.out.size))
    clear hb1
    simp only at c0 c1 c2 c3 c4 c5
    have hnb : (numB n).length ≤ 5 := hn2
    generalize hB : numB n = nb at *
    have HNB := Lib.hid hB
    clear hB hn2
    cases hq
    all_goals
      go_wp2_with fail
      go_ret
      exact ⟨ret_str (by rw [HT.out, HE.out, Int.toNat_natCast, HNB.out]; simp), HW1.out⟩
end Go.Proofs.YtmkpejioinkceaaGreatDoor
