/- The walk of the reference's Gone. -/
import Derived.Test.YtmkpejioinkceaaGreatDoorKeyLawP
import Derived.Test.YtmkpejioinkceaaGreatDoorKeyGone
import Derived.Test.YtmkpejioinkceaaGreatDoorRefKey
import Derived.Test.YtmkpejioinkceaaGreatDoorRefRes3
import Derived.Test.YtmkpejioinkceaaGreatDoorValsR
import Derived.Test.YtmkpejioinkceaaGreatDoorCopyS
import Derived.Test.YtmkpejioinkceaaGreatDoorKeyAdd
import Derived.Deep.RegionHeld3
import Derived.Laws.OwnMore
namespace Go.Proofs.YtmkpejioinkceaaGreatDoor
open Go.RowKit
set_option linter.unusedVariables false

/-- A list that grows: what was there at W0 is there still, but for the block in which it began. -/
structure RK (W0 W : World) (row : Option Nat) (base : Nat) (v : Value) (xs : List Bs) : Prop where
  own : W.ownsRow base 9 1 v xs.length (scells xs)
  keep : W0.grownBy W row
  fresh : v.ownBlock = row ∨ ∀ g, v.ownBlock = some g → W0.heap.size ≤ g
theorem RK.next {W0 W W' : World} {row : Option Nat} {base : Nat} {v : Value} {xs : List Bs} (h : RK W0 W row base v xs) (hb : Below W.heap.size W W') : RK W0 W' row base v xs :=
  ⟨own_below h.own hb, ⟨hb.os.trans h.keep.os, hb.tape.trans h.keep.tape, hb.output.trans h.keep.output, Nat.le_trans h.keep.size hb.size, fun k hk hn => (hb.block k (Nat.lt_of_lt_of_le hk h.keep.size)).trans (h.keep.block k hk hn)⟩, h.fresh⟩
theorem RK.append {W0 W W' : World} {row : Option Nat} {base n c g cap : Nat} {a : Option Addr} {xs l : List Bs} {o : Obj} (h : RK W0 W row base (.slice a n c) xs)
    (hr : W'.ownsRow base 9 1 (.slice (some ⟨g, 0, none⟩) (n + 1) cap) l.length (scells l)) (hg : (W.alloc o).grownBy W' (Value.slice a n c).ownBlock) (hf : (Value.slice a n c).ownBlock = some g ∨ W.heap.size < g) :
    RK W0 W' row base (.slice (some ⟨g, 0, none⟩) (n + 1) cap) l := by
  refine ⟨hr, ⟨hg.os.trans h.keep.os, hg.tape.trans h.keep.tape, hg.output.trans h.keep.output, ?_, ?_⟩, ?_⟩
  · have h1 := hg.size
    have h2 := h.keep.size
    rw [World.size_alloc] at h1; omega
  · intro k hk hn
    have h2 := h.keep.size
    refine (hg.block k (by rw [World.size_alloc]; omega) fun e => ?_).trans ((heap_alloc_old W o (r := k) (by omega)).trans (h.keep.block k hk hn))
    rcases h.fresh with hv | hv
    · exact hn (e.trans hv)
    · have := hv k e.symm; omega
  · rcases hf with hf | hf
    · rcases h.fresh with hv | hv
      · exact .inl (hf.symm.trans hv)
      · exact .inr fun k hk => by
          simp only [Value.ownBlock, Option.some.injEq] at hk
          exact hk ▸ hv g hf
    · exact .inr fun k hk => by
        simp only [Value.ownBlock, Option.some.injEq] at hk
        have := h.keep.size; omega
/-- What the loop reads, beside the list that grows. -/
structure RE (w W : World) (u : U) (bn : Nat) (lv : Value) (l : List Bs) : Prop where
  below : Below w.heap.size w W
  bu : UBx W w.heap.size u
  bn : UBx W bn (normB u)
  bl : StrsAt W lv l
theorem StrsAt.grown {W W' : World} {row : Option Nat} {v : Value} {ls : List Bs} (h : StrsAt W v ls) (hg : W.grownBy W' row) (hne : ∀ g, v.ownBlock = some g → some g ≠ row) : StrsAt W' v ls := by
  rcases h with h | ⟨b, o, c, rfl, hc, hlt, hcell⟩
  · exact .inl h
  · refine .inr ⟨b, o, c, rfl, hc, Nat.lt_of_lt_of_le hlt hg.size, fun j l hl => ?_⟩
    rw [cell_same (hg.block b hlt (hne b rfl))]
    exact hcell j l hl
/-- The blocks that the loop reads are none that the list began in. -/
structure RN (w W0 : World) (bn : Nat) (lv : Value) (row : Option Nat) : Prop where
  nu : some w.heap.size ≠ row
  nn : some bn ≠ row
  nl : ∀ g, lv.ownBlock = some g → some g ≠ row
  nw : ∀ g, row = some g → w.heap.size ≤ g
theorem RK.env {w W0 W : World} {u : U} {bn base : Nat} {lv v : Value} {l xs : List Bs} {row : Option Nat} (h : RK W0 W row base v xs) (he : RE w W0 u bn lv l) (hn : RN w W0 bn lv row) : RE w W u bn lv l :=
  ⟨he.below.grown h.keep he.below.size hn.nw, (h.keep.block _ he.bu.lt hn.nu).trans he.bu, (h.keep.block _ he.bn.lt hn.nn).trans he.bn, he.bl.grown h.keep hn.nl⟩
/-- The candidate's address was made. -/
def GotX (W0 W : World) (row : Option Nat) (base : Nat) (v : Value) (xs : List Bs) (x : U) (ec : Int) (t t2 : Value) : Prop := ∃ bx, t = .pointer (some ⟨bx, 0, none⟩) ∧ t2 = .int .i64 ec ∧ UBx W bx x ∧ RK W0 W row base v xs
theorem gotx_a {W0 W : World} {row : Option Nat} {base : Nat} {v : Value} {xs : List Bs} (h : RK W0 W row base v xs) (x : U) (ec : Int) : GotX W0 (W.alloc (.cells #[.string ⟨x.scheme.toArray⟩, .string ⟨x.host.toArray⟩, .int .i64 x.port, .string ⟨x.path.toArray⟩, .string ⟨x.query.toArray⟩, .bool x.hq] 23)) row base v xs x ec (.pointer (some ⟨W.heap.size, 0, none⟩)) (.int .i64 ec) :=
  ⟨_, rfl, rfl, ubx_new W x, h.next ((Below.refl _ _).alloc (Nat.le_refl _) _)⟩
theorem gotx_b {W0 W W9 : World} {row : Option Nat} {base b : Nat} {v : Value} {xs : List Bs} {x0 : U} (h : RK W0 W row base v xs) (hb : Below W.heap.size W W9) (hle : W.heap.size ≤ b) (hx : UBx W9 b x0) (x : U) (ec : Int) : GotX W0 (put6w W9 b x) row base v xs x ec (.pointer (some ⟨b, 0, none⟩)) (.int .i64 ec) := by
  obtain ⟨h1, h2⟩ := put6 x hb hle hx
  exact ⟨_, rfl, rfl, h1, h.next h2⟩
/-- What region 10 reads. -/
abbrev Seen7 (bu : Nat) (u : U) (lb k : Nat) (v : Bs) (w' : World) : Prop := SixU bu u w' ∧ w'.cell? ⟨lb, k, none⟩ = some (.string ⟨v.toArray⟩)
theorem seen7 {w W : World} {u : U} {bn lb lo lc j : Nat} {l : List Bs} {v : Bs} (h : RE w W u bn (.slice (some ⟨lb, lo, none⟩) l.length lc) l) (hv : l[j]? = some v) : Seen7 w.heap.size u lb (lo + j) v W := by
  refine ⟨h.bu.six, ?_⟩
  rcases h.bl with ⟨a, c, he, rfl⟩ | ⟨b, o, c, he, hc, hlt, hcell⟩
  · rw [List.getElem?_nil] at hv; cases hv
  · injection he with h1 _ _
    injection h1 with h1
    injection h1 with h1 h2
    subst h1; subst h2
    exact hcell j v hv
theorem take_has (l : List Bs) (k : Nat) (x y : Bs) (h : l[k]? = some x) : (l.take (k + 1)).contains y = ((l.take k).contains y || (x == y)) := by
  rw [List.take_add_one, h, Bool.eq_iff_iff, List.contains_iff_mem, Bool.or_eq_true, List.contains_iff_mem, beq_iff_eq, List.mem_append]
  simp only [Option.toList_some, List.mem_singleton]
  exact or_congr Iff.rfl ⟨Eq.symm, Eq.symm⟩
theorem who_eq {x u : U} : whoB x = whoB u ↔ (normB x).scheme = (normB u).scheme ∧ (normB x).host = (normB u).host ∧ (normB x).port = (normB u).port := by
  unfold whoB; simp only [Prod.mk.injEq]

theorem cands_lim {fs : List Fld} (hl : Lim fs) {v : Bs} {j : Nat} (h : (cands fs)[j]? = some v) : v.length ≤ 100000 := by
  unfold cands at h
  rw [List.getElem?_append] at h
  split at h
  · exact value_lim hl h
  · exact value_lim hl h
abbrev noObj : Obj := .cells #[.string ⟨#[]⟩, .string ⟨#[]⟩, .int .i64 0, .string ⟨#[]⟩, .string ⟨#[]⟩, .bool false] 23
theorem ubx_zero (W : World) : UBx (W.alloc noObj) W.heap.size noU := heap_alloc_new W _
theorem seenY {W0 W1 W : World} {row : Option Nat} {base bx ob oo k n c : Nat} {x : U} {y : Bs} {out : List Bs} (hx : UBx W1 bx x) (hk : RK W0 W1 row base (.slice (some ⟨ob, oo, none⟩) n c) out) (hb : Below W1.heap.size W1 W) (hy : out[k]? = some y) :
    SixU bx x W ∧ W.cell? ⟨ob, oo + k, none⟩ = some (.string ⟨y.toArray⟩) := by
  obtain ⟨_, b, o, e, _, _, h⟩ := strs_at ((StrsAt.of_own hk.own).below hb) hy
  cases e
  exact ⟨(hx.next hb).six, h⟩
set_option maxRecDepth 100000 in
theorem ref17_Gone_no (u : U) (st mn : Int) (m bd : ByteArray) (a : Option Addr) (n c : Nat) (w : World) (hl : LimU u) (hno : goneOk u st = false) :
    Calls Tryz.prog 17 #[uV u, .agg #[.int .i64 st, .string m, .int .i64 mn, .slice a n c, .string bd]] w (RetStrs w []) := by
  have HL := Lib.hid hl
  have HT := two_new w (.cells #[.string ⟨u.scheme.toArray⟩, .string ⟨u.host.toArray⟩, .int .i64 u.port, .string ⟨u.path.toArray⟩, .string ⟨u.query.toArray⟩, .bool u.hq] 23) (.cells #[.int .i64 st, .string m, .int .i64 mn, .slice a n c, .string bd] 31)
  have HB := Lib.hid (show UBx _ w.heap.size u from HT.b1)
  have HR := Lib.hid HT.b2
  have HW := Lib.hid HT.below
  clear HT hl
  obtain ⟨c0, c1, c2, c3, c4, c5⟩ := HB.out.cells
  go_enter Tryz.func17, Tryz.ntmps17
  go_wp2_with fail
  generalize (w.alloc (.cells #[.string ⟨u.scheme.toArray⟩, .string ⟨u.host.toArray⟩, .int .i64 u.port, .string ⟨u.path.toArray⟩, .string ⟨u.query.toArray⟩, .bool u.hq] 23)).alloc (.cells #[.int .i64 st, .string m, .int .i64 mn, .slice a n c, .string bd] 31) = W at *
  refine (ref09_Check u W HL.out).mono ?_
  rintro e w1 ⟨rfl, hb1⟩
  have HW1 := Lib.hid (HW.out.trans (hb1.mono HW.out.size))
  have r0 := cell_of_row w1 _ 0 _ _ _ ((hb1.block _ (lt_of_at HR.out)).trans HR.out)
  clear hb1 c0 c1 c2 c3 c4 c5
  rcases goneOk_no hno with h1 | ⟨h1, h2⟩ | ⟨h1, h2, h3⟩
  · have hx : (checkB u == 0) = false := beq_eq_false_iff_ne.2 h1
    generalize checkB u = k at *
    go_wp2_with fail
    go_ret
    exact ⟨_, rfl, World.ownsRow_nil _ _ _ _, HW1.out⟩
  · rw [h1]
    go_wp2_with fail
    go_ret
    exact ⟨_, rfl, World.ownsRow_nil _ _ _ _, HW1.out⟩
  · rw [h1]
    go_wp2_with fail
    go_ret
    exact ⟨_, rfl, World.ownsRow_nil _ _ _ _, HW1.out⟩

set_option maxRecDepth 100000 in
set_option maxHeartbeats 4000000 in
theorem ref17_Gone_yes (u : U) (st mn : Int) (m bd : ByteArray) (a : Option Addr) (n c : Nat) (fs : List Fld) (w : World) (hl : LimU u) (hF : FieldsAt w (.slice a n c) fs) (hlim : Lim fs) (hok : goneOk u st = true) :
    Calls Tryz.prog 17 #[uV u, .agg #[.int .i64 st, .string m, .int .i64 mn, .slice a n c, .string bd]] w (RetStrs w (goneB u st fs)) := by
  have HL := Lib.hid hl
  have HM := Lib.hid hlim
  have HF := Lib.hid hF
  have HEnd := Lib.hid (refG_end (fs := fs) hok)
  obtain ⟨k1, k2, k3⟩ := goneOk_yes hok
  have HT := two_new w (.cells #[.string ⟨u.scheme.toArray⟩, .string ⟨u.host.toArray⟩, .int .i64 u.port, .string ⟨u.path.toArray⟩, .string ⟨u.query.toArray⟩, .bool u.hq] 23) (.cells #[.int .i64 st, .string m, .int .i64 mn, .slice a n c, .string bd] 31)
  have HB := Lib.hid (show UBx _ w.heap.size u from HT.b1)
  have HR := Lib.hid HT.b2
  have HW := Lib.hid HT.below
  clear HT hl hlim hF
  obtain ⟨c0, c1, c2, c3, c4, c5⟩ := HB.out.cells
  go_enter Tryz.func17, Tryz.ntmps17
  go_wp2_with fail
  generalize (w.alloc (.cells #[.string ⟨u.scheme.toArray⟩, .string ⟨u.host.toArray⟩, .int .i64 u.port, .string ⟨u.path.toArray⟩, .string ⟨u.query.toArray⟩, .bool u.hq] 23)).alloc (.cells #[.int .i64 st, .string m, .int .i64 mn, .slice a n c, .string bd] 31) = W at *
  refine (ref09_Check u W HL.out).mono ?_
  rintro e w1 ⟨rfl, hb1⟩
  have HW1 := Lib.hid (HW.out.trans (hb1.mono HW.out.size))
  have HR1 := Lib.hid ((hb1.block _ (lt_of_at HR.out)).trans HR.out)
  have HB1 := Lib.hid (HB.out.next hb1)
  have r0 := cell_of_row w1 _ 0 _ _ _ HR1.out
  clear hb1 c0 c1 c2 c3 c4 c5 HR HB HW
  rw [k1]
  obtain ⟨c0, c1, c2, c3, c4, c5⟩ := HB1.out.cells
  go_wp2_with fail
  refine (ref09_Normal u w1 HL.out).mono ?_
  rintro e w2 ⟨rfl, hb2⟩
  clear c0 c1 c2 c3 c4 c5 r0 k2 k3
  have hb3 := hb2.alloc hb2.size (.cells #[.string ⟨(normB u).scheme.toArray⟩, .string ⟨(normB u).host.toArray⟩, .int .i64 (normB u).port, .string ⟨(normB u).path.toArray⟩, .string ⟨(normB u).query.toArray⟩, .bool (normB u).hq] 23)
  have HW3 := Lib.hid (HW1.out.trans (hb3.mono HW1.out.size))
  have HR3 := Lib.hid ((hb3.block _ (lt_of_at HR1.out)).trans HR1.out)
  have HB3 := Lib.hid (HB1.out.next hb3)
  have HN3 := Lib.hid (ubx_new w2 (normB u))
  clear hb2 hb3 HW1 HR1 HB1
  obtain ⟨c0, c1, c2, c3, c4, c5⟩ := HB3.out.cells
  go_wp2_with fail
  generalize w2.alloc (.cells #[.string ⟨(normB u).scheme.toArray⟩, .string ⟨(normB u).host.toArray⟩, .int .i64 (normB u).port, .string ⟨(normB u).path.toArray⟩, .string ⟨(normB u).query.toArray⟩, .bool (normB u).hq] 23) = w3 at *
  generalize w2.heap.size = bn at *
  refine (ref17_Key u w3 HL.out).mono ?_
  rintro e w4 ⟨rfl, hb4⟩
  clear c0 c1 c2 c3 c4 c5
  have hb5 := hb4.alloc hb4.size (.cells #[.string ⟨(keyB u).toArray⟩] 9)
  have HW5 := Lib.hid (HW3.out.trans (hb5.mono HW3.out.size))
  have HR5 := Lib.hid ((hb5.block _ (lt_of_at HR3.out)).trans HR3.out)
  have HB5 := Lib.hid (HB3.out.next hb5)
  have HN5 := Lib.hid (HN3.out.next hb5)
  have HO5 := Lib.hid (show (w4.alloc (.cells #[.string ⟨(keyB u).toArray⟩] 9)).ownsRow w4.heap.size 9 1 (.slice (some ⟨w4.heap.size, 0, none⟩) 1 1) ([keyB u] : List Bs).length (scells [keyB u]) from World.ownsRow_lit (size := 1) w4 _ 1 (Nat.le_refl _) (by unfold maxLen; omega) rfl)
  have HZ := Lib.hid (show w3.heap.size ≤ w4.heap.size ∧ w4.heap.size < (w4.alloc (.cells #[.string ⟨(keyB u).toArray⟩] 9)).heap.size from ⟨hb4.size, by rw [World.size_alloc]; omega⟩)
  clear hb4 hb5
  have r3 := cell_of_row _ _ 3 _ _ _ HR5.out
  go_wp2_with fail
  generalize w4.alloc (.cells #[.string ⟨(keyB u).toArray⟩] 9) = w5 at *
  generalize w4.heap.size = b4 at *
  have hF5 := HF.out.below HW5.out
  refine (ref04_Values fs (.slice a n c) ⟨#[108, 111, 99, 97, 116, 105, 111, 110]⟩ w5 hF5 HM.out (by decide)).mono ?_
  rintro e w6 ⟨v1, rfl, hown1, hb6⟩
  have HO1 := Lib.hid (show w6.ownsRow w5.heap.size 9 1 v1 (values fs locName).length (scells (values fs locName)) from hown1)
  have HB6 := Lib.hid hb6
  have HF6 := Lib.hid (hF5.below hb6)
  have HR6 := Lib.hid ((hb6.block _ (lt_of_at HR5.out)).trans HR5.out)
  clear hown1 hb6 hF5 r3
  have r3 := cell_of_row _ _ 3 _ _ _ HR6.out
  go_wp2_with fail
  refine (ref04_Values fs (.slice a n c) ⟨#[99, 111, 110, 116, 101, 110, 116, 45, 108, 111, 99, 97, 116, 105, 111, 110]⟩ w6 HF6.out HM.out (by decide)).mono ?_
  rintro e w7 ⟨v2, rfl, hown2, hb7⟩
  have HO2 := Lib.hid (StrsAt.of_own (show w7.ownsRow w6.heap.size 9 1 v2 (values fs clocName).length (scells (values fs clocName)) from hown2))
  have HO17 := Lib.hid (own_below HO1.out hb7)
  have HB7 := Lib.hid (HB6.out.trans (hb7.mono HB6.out.size))
  have HS5 := Lib.hid (show w5.heap.size ≤ w7.heap.size from HB7.out.size)
  have hlen : (values fs locName).length + (values fs clocName).length ≤ 100000 := by
    have h1 := values_len fs locName
    have h2 := values_len fs clocName
    have h3 := HM.out.many
    omega
  clear hown2 hb7 r3
  go_wp2_with (at_builtin; refine wpList_copyS rfl _ _ rfl v1 v2 (values fs clocName) (values fs locName) w5.heap.size rfl rfl HO2.out HO17.out hlen HS5.out ?_; intro va vc w8 hown8 hg8)
  have HO8 := Lib.hid (show w8.ownsRow w5.heap.size 9 1 (.slice va (cands fs).length vc) (cands fs).length (scells (cands fs)) from hown8)
  have HB8 := Lib.hid (HB7.out.grown hg8 HB7.out.size (fun k hk => (HO17.out.lt k hk).1))
  have HLV := Lib.hid (fun (j : Nat) (v : Bs) (h : (cands fs)[j]? = some v) => cands_lim HM.out h)
  have HLL := Lib.hid (show (cands fs).length ≤ 1000 from Nat.le_trans (cands_len fs) HM.out.many)
  clear hown8 hg8 hlen
  rw [show (values fs locName).length + (values fs clocName).length = (cands fs).length from by unfold cands; rw [List.length_append]]
  generalize cands fs = l at *
  have HRE := Lib.hid (show RE w w8 u bn (.slice va l.length vc) l from ⟨HW5.out.trans (HB8.out.mono HW5.out.size), HB5.out.next HB8.out, HN5.out.next HB8.out, StrsAt.of_own HO8.out⟩)
  have HRN := Lib.hid (show RN w w8 bn (.slice va l.length vc) (some b4) from ⟨fun e => by have := HW3.out.size; have := HZ.out.1; have := HB3.out.lt; cases e; omega, fun e => by have := HN3.out.lt; have := HZ.out.1; cases e; omega, fun g hg e => by have := (HO8.out.lt g hg).1; have := HZ.out.2; cases e; omega, fun g e => by have := HW3.out.size; have := HZ.out.1; cases e; omega⟩)
  have HB48 := Lib.hid (show b4 ≤ w8.heap.size by have := (HO5.out.lt b4 rfl).2; have := HB8.out.size; omega)
  have HRK := Lib.hid (show RK w8 w8 (some b4) b4 (.slice (some ⟨b4, 0, none⟩) 1 1) (refS u l 0) from ⟨own_below HO5.out HB8.out, World.grownBy.refl _ _, .inl rfl⟩)
  clear HO5 HO1 HO2 HO17 HB6 HB7 HB8 HF6 HR6 HR5 HB5 HN5 HW5 HS5 HO8 HB3 HN3 HW3 HR3 HZ
  go_loopw [6, 8] (fun o i wr => ∃ (j c6 : Nat) (a6 : Option Addr), j ≤ l.length ∧ i = .int .i64 j ∧ o = .slice a6 (refS u l j).length c6 ∧ Hid (RK w8 wr (some b4) b4 (.slice a6 (refS u l j).length c6) (refS u l j))) (fun _ i _ => l.length - (intOf i).toNat)
  case atStart => exact ⟨0, 1, _, Nat.zero_le _, rfl, rfl, HRK⟩
  case round =>
    obtain ⟨j, c6, a6, hj, rfl, rfl, HK⟩ := hrel
    clear HRK
    have hl2 : l.length ≤ 1000 := HLL.out
    have HE := Lib.hid (HK.out.env HRE.out HRN.out)
    by_cases hlt : j < l.length
    · obtain ⟨v, hv⟩ : ∃ v, l[j]? = some v := ⟨l[j], List.getElem?_eq_getElem hlt⟩
      obtain ⟨-, lb, lo, rfl, hlc, hlb, -⟩ := strs_at HE.out.bl hv
      have HV := Lib.hid hv
      have hvl := HLV.out j v hv
      have i0 : (0 : Int) ≤ (j : Int) := by omega
      have i1 : (j : Int) < (l.length : Int) := by omega
      have hol := refS_len u l j
      obtain ⟨⟨x, ec⟩, hxe⟩ : ∃ p, refB u v = p := ⟨_, rfl⟩
      have HX := Lib.hid hxe
      have HLX := Lib.hid (show LimU x by have := refd_lim2 u v; rw [hxe] at this; exact this)
      clear hv hxe
      obtain ⟨out, hout⟩ : ∃ out, refS u l j = out := ⟨_, rfl⟩
      rw [hout] at HK hol
      rw [hout]
      have HOUT := Lib.hid hout
      clear hout
      go_upto_region 10 with fail
      go_cut [9, 10] (fun t t2 wx => GotX w8 wx (some b4) b4 (.slice a6 out.length c6) out x ec t t2)
      case first =>
        have HS0 := Lib.hid (show Seen7 w.heap.size u lb (lo + j) v wr.drew from (seen7 HE.out HV.out : Seen7 w.heap.size u lb (lo + j) v wr))
        have HSn := Lib.hid (show Seen7 w.heap.size u lb (lo + j) v (wr.alloc (.cells #[.string ⟨#[]⟩, .string ⟨#[]⟩, .int .i64 0, .string ⟨#[]⟩, .string ⟨#[]⟩, .bool false] 23)).drew from seen7 (RK.env (HK.out.next (((Below.refl _ _).alloc (Nat.le_refl _) _).drew)) HRE.out HRN.out) HV.out)
        go_region_held3 (Seen7 w.heap.size u lb (lo + j) v) (first | with_reducible exact HS0.out | with_reducible exact HSn.out | with_reducible exact HSd.out | with_reducible exact HSz.out | with_reducible exact HSe.out)
          (first
            | (go_at_call 35; (with_reducible refine (ref10_Ref u v wr.drew HL.out (by omega)).mono ?_); rintro e wy ⟨rfl, hby⟩; rw [HX.out]; have HKy := Lib.hid (HK.out.next (below_ofdrew hby)); have HSd := Lib.hid (show Seen7 w.heap.size u lb (lo + j) v wy from seen7 (HKy.out.env HRE.out HRN.out) HV.out); have HSz := Lib.hid (show Seen7 w.heap.size u lb (lo + j) v (wy.alloc (.cells #[.string ⟨#[]⟩, .string ⟨#[]⟩, .int .i64 0, .string ⟨#[]⟩, .string ⟨#[]⟩, .bool false] 23)) from seen7 ((HKy.out.next ((Below.refl _ _).alloc (Nat.le_refl _) _)).env HRE.out HRN.out) HV.out); have HSe := Lib.hid (show Seen7 w.heap.size u lb (lo + j) v (wy.alloc (.cells #[.string ⟨x.scheme.toArray⟩, .string ⟨x.host.toArray⟩, .int .i64 x.port, .string ⟨x.path.toArray⟩, .string ⟨x.query.toArray⟩, .bool x.hq] 23)) from seen7 ((HKy.out.next ((Below.refl _ _).alloc (Nat.le_refl _) _)).env HRE.out HRN.out) HV.out); have HT := Lib.hid (gotx_a HKy.out x ec); clear hby)
            | (go_at_call 35; (with_reducible refine (ref10_Ref u v (wr.alloc (.cells #[.string ⟨#[]⟩, .string ⟨#[]⟩, .int .i64 0, .string ⟨#[]⟩, .string ⟨#[]⟩, .bool false] 23)).drew HL.out (by omega)).mono ?_); rintro e wy ⟨rfl, hby⟩; rw [HX.out]; have HBn := Lib.hid (below_ofdrew hby); have HUz := Lib.hid (show UBx wy wr.heap.size noU from (ubx_zero wr).next HBn.out); have HBy := Lib.hid (below_alloc HBn.out); have HKy := Lib.hid (HK.out.next HBy.out); have HSd := Lib.hid (show Seen7 w.heap.size u lb (lo + j) v wy from seen7 (HKy.out.env HRE.out HRN.out) HV.out); have HT := Lib.hid (gotx_b HK.out HBy.out (Nat.le_refl _) HUz.out x ec); have HSe := Lib.hid (show Seen7 w.heap.size u lb (lo + j) v ((((((wy.setCell ⟨wr.heap.size, 0, none⟩ (.string ⟨x.scheme.toArray⟩)).setCell ⟨wr.heap.size, 1, none⟩ (.string ⟨x.host.toArray⟩)).setCell ⟨wr.heap.size, 2, none⟩ (.int .i64 x.port)).setCell ⟨wr.heap.size, 3, none⟩ (.string ⟨x.path.toArray⟩)).setCell ⟨wr.heap.size, 4, none⟩ (.string ⟨x.query.toArray⟩)).setCell ⟨wr.heap.size, 5, none⟩ (.bool x.hq)) from seen7 (RK.env (HK.out.next (put6 (n := wr.heap.size) x HBy.out (Nat.le_refl _) HUz.out).2) HRE.out HRN.out) HV.out); obtain ⟨⟨g0, g1, g2, g3, g4, g5⟩, f0, f1, f2, f3, f4, f5⟩ := HUz.out.full; clear hby))
        all_goals
          go_wp2_with fail
          go_meet
          exact HT.out
      case rest =>
        obtain ⟨bx, rfl, rfl, hx, hk⟩ := hcut
        have HXB := Lib.hid hx
        have HK1 := Lib.hid hk
        clear hx hk
        obtain ⟨c0, c1, c2, c3, c4, c5⟩ := HXB.out.cells
        go_wp2_with fail
        refine (ref09_Normal x wc HLX.out).mono ?_
        rintro e w9 ⟨rfl, hb9⟩
        obtain ⟨nx, hnx⟩ : ∃ nx, normB x = nx := ⟨_, rfl⟩
        rw [hnx]
        have HNX := Lib.hid hnx
        have hb10 := hb9.alloc hb9.size (.cells #[.string ⟨nx.scheme.toArray⟩, .string ⟨nx.host.toArray⟩, .int .i64 nx.port, .string ⟨nx.path.toArray⟩, .string ⟨nx.query.toArray⟩, .bool nx.hq] 23)
        have HK2 := Lib.hid (HK1.out.next hb10)
        have HX2 := Lib.hid (HXB.out.next hb10)
        have HN2 := Lib.hid (ubx_new w9 nx)
        have HE2 := Lib.hid (HK2.out.env HRE.out HRN.out)
        clear hb9 hb10 hnx c0 c1 c2 c3 c4 c5
        go_upto_region 12 with fail
        generalize w9.alloc (.cells #[.string ⟨nx.scheme.toArray⟩, .string ⟨nx.host.toArray⟩, .int .i64 nx.port, .string ⟨nx.path.toArray⟩, .string ⟨nx.query.toArray⟩, .bool nx.hq] 23) = w10 at *
        generalize w9.heap.size = b11 at *
        obtain ⟨e0, e1, e2, -, -, -⟩ := HN2.out.cells
        obtain ⟨d0, d1, d2, -, -, -⟩ := HE2.out.bn.cells
        obtain ⟨s2, hs2⟩ : ∃ s2, (normB u).scheme = s2 := ⟨_, rfl⟩
        obtain ⟨n2, hn2⟩ : ∃ n2, (normB u).host = n2 := ⟨_, rfl⟩
        obtain ⟨p2, hp2⟩ : ∃ p2, (normB u).port = p2 := ⟨_, rfl⟩
        obtain ⟨s1, hs1⟩ : ∃ s1, nx.scheme = s1 := ⟨_, rfl⟩
        obtain ⟨n1, hn1⟩ : ∃ n1, nx.host = n1 := ⟨_, rfl⟩
        obtain ⟨p1, hp1⟩ : ∃ p1, nx.port = p1 := ⟨_, rfl⟩
        rw [hs2] at d0
        rw [hn2] at d1
        rw [hp2] at d2
        rw [hs1] at e0
        rw [hn1] at e1
        rw [hp1] at e2
        have HWQ := Lib.hid (show whoB x = whoB u ↔ s1 = s2 ∧ n1 = n2 ∧ p1 = p2 by rw [who_eq, HNX.out, hs1, hn1, hp1, hs2, hn2, hp2])
        clear hs1 hn1 hp1 hs2 hn2 hp2
        rcases Decidable.em (ec = 0) with rfl | hec
        rotate_left
        · have q0 : (ec == 0) = false := beq_eq_false_iff_ne.2 hec
          have q0' : (ec != 0) = true := by rw [bne, q0]; rfl
          have HEC := Lib.hid hec
          clear hec
          have HS := Lib.hid (show refS u l (j + 1) = out by rw [refS_succ HV.out, HOUT.out]; exact ref_no1 (by rw [HX.out]; exact HEC.out))
          go_wp2_with fail
          go_roundw
          case rel => exact ⟨j + 1, c6, a6, by omega, by go_num, by rw [HS.out], by rw [HS.out]; exact HK2⟩
          case measure => (simp [intOf] <;> omega)
        rcases Decidable.em (s1 = s2) with rfl | e9
        rotate_left
        · have q1 : (s1 == s2) = false := beq_eq_false_iff_ne.2 e9
          have q2 : (s1 != s2) = true := by rw [bne, q1]; rfl
          have HNW := Lib.hid (show ¬ whoB x = whoB u from fun h9 => e9 (by have h := HWQ.out.1 h9; exact h.1))
          clear e9
          have HS := Lib.hid (show refS u l (j + 1) = out by rw [refS_succ HV.out, HOUT.out]; exact ref_no2 (by rw [HX.out]; exact HNW.out))
          go_wp2_with fail
          go_roundw
          case rel => exact ⟨j + 1, c6, a6, by omega, by go_num, by rw [HS.out], by rw [HS.out]; exact HK2⟩
          case measure => (simp [intOf] <;> omega)
        rcases Decidable.em (n1 = n2) with rfl | e9
        rotate_left
        · have q1 : (n1 == n2) = false := beq_eq_false_iff_ne.2 e9
          have q2 : (n1 != n2) = true := by rw [bne, q1]; rfl
          have HNW := Lib.hid (show ¬ whoB x = whoB u from fun h9 => e9 (by have h := HWQ.out.1 h9; exact h.2.1))
          clear e9
          have HS := Lib.hid (show refS u l (j + 1) = out by rw [refS_succ HV.out, HOUT.out]; exact ref_no2 (by rw [HX.out]; exact HNW.out))
          go_wp2_with fail
          go_roundw
          case rel => exact ⟨j + 1, c6, a6, by omega, by go_num, by rw [HS.out], by rw [HS.out]; exact HK2⟩
          case measure => (simp [intOf] <;> omega)
        rcases Decidable.em (p1 = p2) with rfl | e9
        rotate_left
        · have q1 : (p1 == p2) = false := beq_eq_false_iff_ne.2 e9
          have q2 : (p1 != p2) = true := by rw [bne, q1]; rfl
          have HNW := Lib.hid (show ¬ whoB x = whoB u from fun h9 => e9 (by have h := HWQ.out.1 h9; exact h.2.2))
          clear e9
          have HS := Lib.hid (show refS u l (j + 1) = out by rw [refS_succ HV.out, HOUT.out]; exact ref_no2 (by rw [HX.out]; exact HNW.out))
          go_wp2_with fail
          go_roundw
          case rel => exact ⟨j + 1, c6, a6, by omega, by go_num, by rw [HS.out], by rw [HS.out]; exact HK2⟩
          case measure => (simp [intOf] <;> omega)
        have HW := Lib.hid (show whoB x = whoB u from HWQ.out.2 ⟨rfl, rfl, rfl⟩)
        go_wp2_with fail
        clear e0 e1 e2 d0 d1 d2
        obtain ⟨kx, hkx⟩ : ∃ kx, keyB x = kx := ⟨_, rfl⟩
        have HKX := Lib.hid hkx
        clear hkx
        go_loopw [12, 13] (fun t i wr => ∃ (k : Nat) (bb : Bool), k ≤ out.length ∧ i = .int .i64 k ∧ t = .bool bb ∧ Hid (bb = (out.take k).contains kx) ∧ Hid (Below w10.heap.size w10 wr)) (fun _ i _ => out.length - (intOf i).toNat)
        case atStart => exact ⟨0, false, Nat.zero_le _, rfl, rfl, Lib.hid rfl, Lib.hid (Below.refl _ _)⟩
        case round =>
          obtain ⟨k, bb, hk, rfl, rfl, HBB, HB2⟩ := hrel
          have hol2 : out.length ≤ 2000 := by omega
          by_cases hkl : k < out.length
          · obtain ⟨y, hy⟩ : ∃ y, out[k]? = some y := ⟨out[k], List.getElem?_eq_getElem hkl⟩
            have HY := Lib.hid hy
            obtain ⟨-, ob, oo, rfl, hoc, hob, -⟩ := strs_at (StrsAt.of_own HK2.out.own) hy
            have k0 : (0 : Int) ≤ (k : Int) := by omega
            have k1 : (k : Int) < (out.length : Int) := by omega
            clear hy
            cases bb
            · go_upto_region 17 with fail
              have HBd := Lib.hid (show Below w10.heap.size w10 wr.drew from HB2.out.drew)
              have HSd := Lib.hid (show SixU bx x wr.drew ∧ wr.drew.cell? ⟨ob, oo + k, none⟩ = some (.string ⟨y.toArray⟩) from seenY HX2.out HK2.out HBd.out HY.out)
              go_region_held3 (fun w' => SixU bx x w' ∧ w'.cell? ⟨ob, oo + k, none⟩ = some (.string ⟨y.toArray⟩)) (first | with_reducible exact HSd.out)
                (first
                  | (go_at_call 26; (with_reducible refine (ref17_Key x _ HLX.out).mono ?_); rintro e wy ⟨rfl, hby⟩; rw [HKX.out]; have HBd := Lib.hid (HBd.out.trans (hby.mono HBd.out.size)); have HSd := Lib.hid (seenY HX2.out HK2.out HBd.out HY.out); clear hby))
              all_goals
                go_wp2_with fail
                go_roundw
                case rel => exact ⟨k + 1, (y == kx), by omega, by go_num, rfl, Lib.hid (by rw [take_has out k y kx HY.out, ← HBB.out]; rfl), HBd⟩
                case measure => (simp [intOf] <;> omega)
            · go_wp2_with fail
              go_quiet (fail)
              go_wp2_with fail
              go_roundw
              case rel => exact ⟨k + 1, true, by omega, by go_num, rfl, Lib.hid (by rw [take_has out k y kx HY.out, ← HBB.out]; rfl), ⟨HB2.out.os, HB2.out.tape, HB2.out.output, HB2.out.size, HB2.out.block⟩⟩
              case measure => (simp [intOf] <;> omega)
          · have hke : out.take k = out := List.take_of_length_le (by omega)
            have k1 : (out.length : Int) ≤ (k : Int) := by omega
            have HBE := Lib.hid (show bb = out.contains kx by rw [HBB.out, hke])
            have HK3 := Lib.hid (HK2.out.next HB2.out)
            clear hke
            cases bb
            · have HX3 := Lib.hid (HX2.out.next HB2.out)
              obtain ⟨c0, c1, c2, c3, c4, c5⟩ := HX3.out.cells
              have HS := Lib.hid (show refS u l (j + 1) = out ++ [kx] by rw [refS_succ HV.out, HOUT.out, ref_yes (by rw [HX.out]) (by rw [HX.out]; exact HW.out) (by rw [HX.out, HKX.out]; exact HBE.out.symm), HX.out, HKX.out])
              go_wp2_with fail
              refine (ref17_Key x wr HLX.out).mono ?_
              rintro e w11 ⟨rfl, hb11⟩
              rw [HKX.out]
              have HK4 := Lib.hid (HK3.out.next hb11)
              have HZ4 := Lib.hid (show b4 ≤ w11.heap.size from Nat.le_trans HB48.out (HK4.out.keep.size))
              clear hb11 c0 c1 c2 c3 c4 c5
              go_wp2_with (at_builtin; refine wpList_app3 rfl _ _ 34 rfl 9 (.string ⟨#[]⟩) 1 16 u34 info9 rfl (by decide) b4 _ _ _ _ rfl HK4.out.own [.string ⟨kx.toArray⟩] rfl rfl rfl (by simp [Value.oneCell']) (by omega) (by omega) HZ4.out ?_; intro g cap w12 hown12 hg12 hf12; have HK5 := Lib.hid (RK.append (l := out ++ [kx]) HK4.out (by rw [List.length_append, scells_snoc]; exact hown12) hg12 hf12); clear hown12 hg12 hf12)
              go_roundw
              case rel => exact ⟨j + 1, cap, some ⟨g, 0, none⟩, by omega, by go_num, by rw [HS.out, List.length_append]; rfl, by rw [HS.out, List.length_append]; exact HK5⟩
              case measure => (simp [intOf] <;> omega)
            · have HS := Lib.hid (show refS u l (j + 1) = out by rw [refS_succ HV.out, HOUT.out]; exact ref_there (by rw [HX.out, HKX.out]; exact HBE.out.symm))
              go_wp2_with fail
              go_roundw
              case rel => exact ⟨j + 1, c6, a6, by omega, by go_num, by rw [HS.out], by rw [HS.out]; exact HK3⟩
              case measure => (simp [intOf] <;> omega)
    · have hjl : j = l.length := by omega
      have i1 : (l.length : Int) ≤ (j : Int) := by omega
      have HO := Lib.hid HK.out.own
      have hend : refS u l j = l.foldl (refStep u) [keyB u] := refS_end (by omega)
      have HEE := Lib.hid (HEnd.out.trans hend.symm)
      clear hjl hend
      go_wp2_with fail
      go_ret
      refine ⟨_, rfl, ?_, HE.out.below⟩
      rw [HEE.out]
      exact own_base HO.out (HRN.out.nw b4 rfl)
end Go.Proofs.YtmkpejioinkceaaGreatDoor
