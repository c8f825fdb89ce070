/- Uses that lie somewhere. The reference's Apply. -/
import Derived.Test.YtoipnaoijccokaaGreatDoorSubUses
import Derived.Test.YtoipnaoijccokaaGreatDoorSubApply
import Derived.Test.YtoipnaoijccokaaGreatDoorSubApartP
import Derived.Test.YtoipnaoijccokaaGreatDoorRefUses
import Derived.Test.YtoipnaoijccokaaGreatDoorRefVal
import Derived.Deep.RegionHeld3
import Derived.Deep.DrawnRows
import Derived.Outline
namespace Go.Proofs.YtoipnaoijccokaaGreatDoor
open Go.RowKit
set_option linter.unusedVariables false
attribute [local go_sem ↓] Go.wp_at_zero Go.wp_at_succ

/-- Where uses lie, of whichever type. -/
def ULie (w : World) (a : Option Addr) (us : List Use) : Prop := ∀ (j : Nat) (u : Use), us[j]? = some u → ∃ g, a = some ⟨g, 0, none⟩ ∧
  w.cell? ⟨g, j * 7, none⟩ = some (.int .i64 u.src) ∧ w.cell? ⟨g, j * 7 + 1, none⟩ = some (.int .i64 u.to) ∧ w.cell? ⟨g, j * 7 + 2, none⟩ = some (.string ⟨u.name.toArray⟩) ∧ w.cell? ⟨g, j * 7 + 3, none⟩ = some (.string ⟨u.key.toArray⟩) ∧ w.cell? ⟨g, j * 7 + 4, none⟩ = some (.string ⟨u.dft.toArray⟩) ∧ w.cell? ⟨g, j * 7 + 5, none⟩ = some (.bool u.hk) ∧ w.cell? ⟨g, j * 7 + 6, none⟩ = some (.bool u.hd)
theorem ulie_of {w : World} {base : Nat} {T : TypeId} {a : Option Addr} {n c : Nat} {us : List Use} (h : w.ownsRow base T 7 (.slice a n c) us.length (ucells us)) : ULie w a us := by
  intro j u hu
  have hc := fun (g : Nat) (hg : (Value.slice a n c).ownBlock = some g) => h.cells hg
  rcases h.2 with ⟨hv, h0⟩ | ⟨g, cap, cur, hv, hbg, hg, _⟩
  · rw [List.eq_nil_of_length_eq_zero h0] at hu; simp at hu
  · obtain rfl : a = some ⟨g, 0, none⟩ := by simp only [Value.slice.injEq] at hv; exact hv.1
    have cell : ∀ i v, (ucell u)[i]? = some v → w.cell? ⟨g, j * 7 + i, none⟩ = some v := by
      intro i v hv
      have := hc g rfl _ _ (ucells_at us j i u v hu hv)
      rw [add_at] at this
      rw [Nat.zero_add] at this; exact this
    exact ⟨g, rfl, cell 0 _ rfl, cell 1 _ rfl, cell 2 _ rfl, cell 3 _ rfl, cell 4 _ rfl, cell 5 _ rfl, cell 6 _ rfl⟩
theorem ULie.next {w w' : World} {a : Option Addr} {us : List Use} (h : ULie w a us) (hb : Below w.heap.size w w') : ULie w' a us := by
  intro j u hu
  obtain ⟨g, h1, c0, c1, c2, c3, c4, c5, c6⟩ := h j u hu
  have q := (bcell hb).1
  exact ⟨g, h1, (q _ _ (cell_lt c0)).trans c0, (q _ _ (cell_lt c1)).trans c1, (q _ _ (cell_lt c2)).trans c2, (q _ _ (cell_lt c3)).trans c3, (q _ _ (cell_lt c4)).trans c4, (q _ _ (cell_lt c5)).trans c5, (q _ _ (cell_lt c6)).trans c6⟩
end Go.Proofs.YtoipnaoijccokaaGreatDoor

namespace Go.Proofs.YtoipnaoijccokaaGreatDoor
open Go.RowKit
set_option linter.unusedVariables false
attribute [local go_sem ↓] Go.wp_at_zero Go.wp_at_succ

theorem vval_lenF {h t : Bs} {fs : List Fld} {s : Bs} {i : Nat} {u : Use} (hf : Found s i u) (hlim : Lim fs) (hh : h.length ≤ 100002000) (ht : t.length ≤ 100000) (hs : s.length ≤ 100000000) : (vval h t fs u).1.length ≤ 100002000 := by
  exact vval_len u hlim hh ht (by have := hf.dft; omega)

/-- The box of the reference's variables. -/
def RVBox (W : World) (b : Nat) (m t : ByteArray) (mn : Int) (v : Value) (bd h : ByteArray) : Prop := W.heap[b]? = some (.cells #[.string m, .string t, .int .i64 mn, v, .string bd, .string h] 38)
/-- Where the loop stands: so many uses are done, or all and what stands behind them. -/
def RAp (s : Bs) (val : Use → Bs) (tx : Bs) (us : List Use) (k p : Nat) (l : Bs) : Prop :=
  (k ≤ us.length ∧ Chain s p (us.drop k) ∧ l ++ asm s val p (us.drop k) = tx) ∨ (k = us.length + 1 ∧ l = tx)
/-- What holds at the head of each round. -/
structure RApI (w w3 wr : World) (v : Value) (l : Bs) : Prop where
  own : wr.ownsRow w3.heap.size 5 1 v l.length (bcells l)
  bel : Below w3.heap.size w3 wr
theorem RApI.next {w w3 wr w' : World} {v : Value} {l : Bs} (x : RApI w w3 wr v l) (hb : Below wr.heap.size wr w') : RApI w w3 w' v l :=
  ⟨own_below x.own hb, x.bel.trans (hb.mono x.bel.size)⟩
theorem RApI.app {w w3 wr w' : World} {v v' : Value} {l : Bs} {s : ByteArray} {n : Nat} (x : RApI w w3 wr v l) (hn : l.length + s.size = n) (ho : w'.ownsRow w3.heap.size 5 1 v' n (bcells l ++ Lib.strCells s)) (hg : wr.grownBy w' v.ownBlock) : RApI w w3 w' v' (l ++ s.data.toList) := by
  refine ⟨?_, x.bel.grown hg x.bel.size (fun k hk => (x.own.lt k hk).1)⟩
  have hl : (l ++ s.data.toList).length = l.length + s.size := by rw [List.length_append, bs_size]
  have hc : bcells (l ++ s.data.toList) = bcells l ++ Lib.strCells s := by rw [strCells_eq]; simp [bcells]
  rw [hl, hc, hn]; exact ho

/-- The thirteen cells that the region reads. -/
abbrev SAp (w' : World) (g k b : Nat) (u : Use) (m t : ByteArray) (mn : Int) (v : Value) (bd h : ByteArray) : Prop :=
  w'.cell? ⟨g, k * 7, none⟩ = some (.int .i64 u.src) ∧ w'.cell? ⟨g, k * 7 + 1, none⟩ = some (.int .i64 u.to) ∧ w'.cell? ⟨g, k * 7 + 2, none⟩ = some (.string ⟨u.name.toArray⟩) ∧ w'.cell? ⟨g, k * 7 + 3, none⟩ = some (.string ⟨u.key.toArray⟩) ∧ w'.cell? ⟨g, k * 7 + 4, none⟩ = some (.string ⟨u.dft.toArray⟩) ∧ w'.cell? ⟨g, k * 7 + 5, none⟩ = some (.bool u.hk) ∧ w'.cell? ⟨g, k * 7 + 6, none⟩ = some (.bool u.hd) ∧
  w'.cell? ⟨b, 0, none⟩ = some (.string m) ∧ w'.cell? ⟨b, 1, none⟩ = some (.string t) ∧ w'.cell? ⟨b, 2, none⟩ = some (.int .i64 mn) ∧ w'.cell? ⟨b, 3, none⟩ = some v ∧ w'.cell? ⟨b, 4, none⟩ = some (.string bd) ∧ w'.cell? ⟨b, 5, none⟩ = some (.string h)
theorem SAp.next {w w' : World} {g k b : Nat} {u : Use} {m t : ByteArray} {mn : Int} {v : Value} {bd h : ByteArray} (x : SAp w g k b u m t mn v bd h) (hb : Below w.heap.size w w') : SAp w' g k b u m t mn v bd h := by
  obtain ⟨c0, c1, c2, c3, c4, c5, c6, d0, d1, d2, d3, d4, d5⟩ := x
  have q := (bcell hb).1
  exact ⟨(q _ _ (cell_lt c0)).trans c0, (q _ _ (cell_lt c1)).trans c1, (q _ _ (cell_lt c2)).trans c2, (q _ _ (cell_lt c3)).trans c3, (q _ _ (cell_lt c4)).trans c4, (q _ _ (cell_lt c5)).trans c5, (q _ _ (cell_lt c6)).trans c6,
    (q _ _ (cell_lt d0)).trans d0, (q _ _ (cell_lt d1)).trans d1, (q _ _ (cell_lt d2)).trans d2, (q _ _ (cell_lt d3)).trans d3, (q _ _ (cell_lt d4)).trans d4, (q _ _ (cell_lt d5)).trans d5⟩
theorem ULie.mono {w w' : World} {a : Option Addr} {us : List Use} (h : ULie w a us) (hb : Below w.heap.size w w') : ULie w' a us := h.next hb
theorem sap_of {w3 wr : World} {b : Nat} {a : Option Addr} {us : List Use} {m t : ByteArray} {mn : Int} {v : Value} {bd h : ByteArray} (hu : ULie w3 a us) (hv : RVBox w3 b m t mn v bd h) (hb : Below w3.heap.size w3 wr) {k : Nat} {u : Use} (hk : us[k]? = some u) :
    ∃ g, a = some ⟨g, 0, none⟩ ∧ SAp wr g k b u m t mn v bd h := by
  obtain ⟨g, h1, c0, c1, c2, c3, c4, c5, c6⟩ := (hu.next hb) k u hk
  have hv' : RVBox wr b m t mn v bd h := (hb.block _ (blk_lt hv)).trans hv
  exact ⟨g, h1, c0, c1, c2, c3, c4, c5, c6, cell_of_row _ _ 0 _ _ _ hv', cell_of_row _ _ 1 _ _ _ hv', cell_of_row _ _ 2 _ _ _ hv', cell_of_row _ _ 3 _ _ _ hv', cell_of_row _ _ 4 _ _ _ hv', cell_of_row _ _ 5 _ _ _ hv'⟩

set_option maxRecDepth 100000 in
set_option maxHeartbeats 1000000 in
theorem ref26_Apply (s m t bd h : ByteArray) (mn : Int) (a : Option Addr) (n c : Nat) (fs : List Fld) (w : World) (hF : FieldsAt w (.slice a n c) fs) (hlim : Lim fs) (ht : t.size ≤ 100000) (hh : h.size ≤ 100000000) (hs : s.size ≤ 1000000) :
    Calls Tryz.prog 6 #[.string s, .agg #[.string m, .string t, .int .i64 mn, .slice a n c, .string bd, .string h]] w (Ret w (applyV (vapply h.data.toList t.data.toList fs s.data.toList))) := by
  obtain ⟨ti, hi, hz, hsize, hby⟩ := info_parts info5
  have hb0 := (Below.refl w.heap.size w).alloc (Nat.le_refl _) (.cells #[.string m, .string t, .int .i64 mn, .slice a n c, .string bd, .string h] 38)
  have n0 : RVBox (w.alloc (.cells #[.string m, .string t, .int .i64 mn, .slice a n c, .string bd, .string h] 38)) w.heap.size m t mn (.slice a n c) bd h := heap_alloc_new w _
  have HN0 := Lib.hid n0
  have HB0 := Lib.hid hb0
  have HF := Lib.hid hF
  clear n0 hb0 hF
  go_enter Tryz.func6, Tryz.ntmps6
  go_wp2_with fail
  generalize w.alloc (.cells #[.string m, .string t, .int .i64 mn, .slice a n c, .string bd, .string h] 38) = W0 at *
  refine (ref26_Uses s W0 (by omega)).mono ?_
  rintro e w3 ⟨v, rfl, hown, hb3⟩
  obtain ⟨ua, uc, rfl⟩ := own_shape hown
  have HU := Lib.hid (ulie_of hown)
  have HV := Lib.hid (show RVBox w3 w.heap.size m t mn (.slice a n c) bd h from (hb3.block _ (blk_lt HN0.out)).trans HN0.out)
  have HB3 := Lib.hid (HB0.out.trans (hb3.mono HB0.out.size))
  have HF3 := Lib.hid (HF.out.below HB3.out)
  have hw3 : w.heap.size ≤ w3.heap.size := HB3.out.size
  have HCh := Lib.hid (show Chain s.data.toList 0 (vuses s.data.toList) from chain_uses s.data.toList (s.data.toList.length + 1) 0)
  have hmany := uses_many s.data.toList
  rw [bs_size] at hmany
  have HTx := Lib.hid (show asm s.data.toList (fun u => (vval h.data.toList t.data.toList fs u).1) 0 (vuses s.data.toList) = vtext h.data.toList t.data.toList fs s.data.toList from rfl)
  clear hown hb3 HN0 HB0 HF
  generalize vuses s.data.toList = us at *
  generalize htx : vtext h.data.toList t.data.toList fs s.data.toList = tx at *
  have HX := Lib.hid htx
  clear htx
  go_wp2_with fail
  go_loopw [6, 7, 9] (fun b i ix wr => ∃ (k p : Nat) (l : Bs), i = .int .i64 p ∧ ix = .int .i64 k ∧ k ≤ us.length + 1 ∧ p ≤ s.size ∧ l.length ≤ 102000000 ∧ Hid (RAp s.data.toList (fun u => (vval h.data.toList t.data.toList fs u).1) tx us k p l) ∧ Hid (RApI w w3 wr b l)) (fun _ _ ix _ => us.length + 1 - (intOf ix).toNat)
  case atStart => exact ⟨0, 0, [], rfl, rfl, Nat.zero_le _, Nat.zero_le _, Nat.zero_le _, Lib.hid (.inl ⟨Nat.zero_le _, HCh.out, HTx.out⟩), Lib.hid ⟨World.ownsRow_nil _ _ _ _, Below.refl _ _⟩⟩
  case round =>
    obtain ⟨k, p, l, rfl, rfl, hk, hp, hll, HC, HA⟩ := hrel
    have hsz := HA.out.bel.size
    by_cases hkl : k < us.length
    · obtain ⟨u, hu⟩ : ∃ u, us[k]? = some u := ⟨us[k], List.getElem?_eq_getElem hkl⟩
      obtain ⟨g, rfl, hcells⟩ := sap_of HU.out HV.out (Below.refl _ _) hu
      have hC : Chain s.data.toList p (us.drop k) ∧ l ++ asm s.data.toList (fun u => (vval h.data.toList t.data.toList fs u).1) p (us.drop k) = tx := by
        rcases HC.out with ⟨_, h⟩ | ⟨h, _⟩
        · exact h
        · omega
      have hdr : us.drop k = u :: us.drop (k + 1) := by
        obtain ⟨h1, h2⟩ := List.getElem?_eq_some_iff.1 hu
        rw [List.drop_eq_getElem_cons h1, h2]
      rw [hdr] at hC
      have hf1 := hC.1.1.ge
      have hf2 := hC.1.1.lt
      have hf3 := hC.1.1.le
      rw [bs_size] at hf3
      have hkey := hC.1.1.key
      have hxl := vval_lenF (h := h.data.toList) (t := t.data.toList) (fs := fs) hC.1.1 hlim (by rw [bs_size]; omega) (by rw [bs_size]; exact ht) (by rw [bs_size]; omega)
      have HC2 := Lib.hid hC.1.2
      have HA2 := Lib.hid (show l ++ (((s.data.toList.drop p).take (u.src - p)) ++ (vval h.data.toList t.data.toList fs u).1 ++ asm s.data.toList (fun u => (vval h.data.toList t.data.toList fs u).1) u.to (us.drop (k + 1))) = tx from hC.2)
      have HS3 := Lib.hid hcells
      have c0 := (hcells.next HA.out.bel).1
      clear hC hdr hu HC hcells
      have i0 : (k : Int) ≤ (us.length : Int) := by omega
      have i1 : (k : Int) < (us.length : Int) := by omega
      have i2 : (p : Int) ≤ (u.src : Int) := by omega
      have i3 : (u.src : Int) ≤ (s.size : Int) := by omega
      have hex : (s.extract p u.src).size = u.src - p := by simp [ByteArray.size_extract]; omega
      have hn1 : l.length + (s.extract p u.src).size ≤ 9223372036854775807 := by omega
      have HO := Lib.hid HA.out.own
      have e5 : (l ++ (s.extract p u.src).data.toList).length = l.length + (u.src - p) := by rw [List.length_append, bs_size, hex]
      have HA5 := Lib.hid (show (l ++ (s.extract p u.src).data.toList) ++ (vval h.data.toList t.data.toList fs u).1 ++ asm s.data.toList (fun u => (vval h.data.toList t.data.toList fs u).1) u.to (us.drop (k + 1)) = tx by rw [← HA2.out, ext_mid]; simp)
      clear HA2
      by_cases hbig : l.length + (u.src - p) ≤ 262144
      · have i5 : (l.length : Int) + ((u.src - p : Nat) : Int) ≤ 262144 := by omega
        go_wp2_with (at_builtin; refine Lib.wpList_append_own_string _ rfl _ _ 23 9 rfl w3.heap.size 5 ti Go.Proofs.YtoipnaoijccokaaGreatDoor.u23 Go.Proofs.YtoipnaoijccokaaGreatDoor.u9 hi hz hsize hby _ _ _ rfl HO.out (s.extract p u.src) rfl (by unfold maxLen; omega) (by omega) hsz ?_; intro v' w5 hown2 hg2 _; rw [hex] at hown2; obtain ⟨a5, c5, rfl⟩ := own_shape hown2; have HI5 := Lib.hid (HA.out.app (by rw [hex]) hown2 hg2); clear hown2 hg2 c0)
        have HS5 := Lib.hid (HS3.out.next HI5.out.bel)
        have HS5d := Lib.hid (HS5.out.next (Below.refl _ _).drew)
        have HF5 := Lib.hid ((HF3.out.below HI5.out.bel).below (Below.refl _ _).drew)
        have hC := HS5.out
        unfold SAp at hC
        obtain ⟨c0, c1, c2, c3, c4, c5, c6, d0, d1, d2, d3, d4, d5⟩ := hC
        clear c0 c1 c2 c3 c4 c5 c6 d0 d1 d2 d3 d4 d5
        go_region_held3 (fun w' => w'.cell? ⟨g, k * 7, none⟩ = some (.int .i64 u.src) ∧ w'.cell? ⟨g, k * 7 + 1, none⟩ = some (.int .i64 u.to) ∧ w'.cell? ⟨g, k * 7 + 2, none⟩ = some (.string ⟨u.name.toArray⟩) ∧ w'.cell? ⟨g, k * 7 + 3, none⟩ = some (.string ⟨u.key.toArray⟩) ∧ w'.cell? ⟨g, k * 7 + 4, none⟩ = some (.string ⟨u.dft.toArray⟩) ∧ w'.cell? ⟨g, k * 7 + 5, none⟩ = some (.bool u.hk) ∧ w'.cell? ⟨g, k * 7 + 6, none⟩ = some (.bool u.hd) ∧
            w'.cell? ⟨w.heap.size, 0, none⟩ = some (.string m) ∧ w'.cell? ⟨w.heap.size, 1, none⟩ = some (.string t) ∧ w'.cell? ⟨w.heap.size, 2, none⟩ = some (.int .i64 mn) ∧ w'.cell? ⟨w.heap.size, 3, none⟩ = some (.slice a n c) ∧ w'.cell? ⟨w.heap.size, 4, none⟩ = some (.string bd) ∧ w'.cell? ⟨w.heap.size, 5, none⟩ = some (.string h)) (first | with_reducible exact HS6.out | with_reducible exact HS5d.out)
          ((go_at_call 15; refine (ref26_Value u m t bd h mn a n c fs _ HF5.out hlim ht (by omega)).mono ?_; rintro e w6 ⟨rfl, hb6⟩; have HS6 := Lib.hid (HS5d.out.next hb6)))
        have hb56 := below_ofdrew hb6
        have HI6 := Lib.hid (HI5.out.next hb56)
        have c1 := HS6.out.2.1
        have hz6 := HI6.out.bel.size
        have HO6 := Lib.hid HI6.out.own
        clear hb6 hb56 HI5 HS5 HS5d HF5
        generalize (vval h.data.toList t.data.toList fs u).1 = x at *
        have exx : (⟨x.toArray⟩ : ByteArray).size = x.length := rfl
        have HO6' := Lib.hid (show w6.ownsRow w3.heap.size 5 1 (.slice a5 (l.length + (u.src - p)) c5) (l.length + (u.src - p)) (bcells (l ++ (s.extract p u.src).data.toList)) by rw [← e5]; have := HO6.out; rw [e5] at this ⊢; exact this)
        clear HO6 c1
        go_wp2_with (at_builtin; refine Lib.wpList_append_own_string _ rfl _ _ 23 9 rfl w3.heap.size 5 ti Go.Proofs.YtoipnaoijccokaaGreatDoor.u23 Go.Proofs.YtoipnaoijccokaaGreatDoor.u9 hi hz hsize hby _ _ _ rfl HO6'.out ⟨x.toArray⟩ rfl (by unfold maxLen; omega) (by omega) hz6 ?_; intro v' w7 hown2 hg2 _; rw [exx] at hown2; obtain ⟨a7, c7, rfl⟩ := own_shape hown2; have HI7 := Lib.hid (HI6.out.app (by rw [e5, exx]) hown2 hg2); clear hown2 hg2 HI6; have c1 := ((HS3.out.next HI7.out.bel)).2.1)
        go_roundw
        case rel => exact ⟨k + 1, u.to, (l ++ (s.extract p u.src).data.toList) ++ x, rfl, by go_num, by omega, hf3, by rw [List.length_append, e5]; omega, Lib.hid (.inl ⟨by omega, HC2.out, HA5.out⟩), HI7⟩
        case measure => (simp [intOf] <;> omega)
      · have i5 : (262144 : Int) < (l.length : Int) + ((u.src - p : Nat) : Int) := by omega
        have HL := Lib.hid (apply_long (h := h.data.toList) (t := t.data.toList) (fs := fs) (s := s.data.toList) (by rw [HX.out, ← HA5.out]; unfold maxOut; rw [List.length_append, List.length_append, e5]; omega))
        go_wp2_with (at_builtin; refine Lib.wpList_append_own_string _ rfl _ _ 23 9 rfl w3.heap.size 5 ti Go.Proofs.YtoipnaoijccokaaGreatDoor.u23 Go.Proofs.YtoipnaoijccokaaGreatDoor.u9 hi hz hsize hby _ _ _ rfl HO.out (s.extract p u.src) rfl (by unfold maxLen; omega) (by omega) hsz ?_; intro v' w5 hown2 hg2 _; rw [hex] at hown2; obtain ⟨a5, c5, rfl⟩ := own_shape hown2; have HI5 := Lib.hid (HA.out.app (by rw [hex]) hown2 hg2); clear hown2 hg2 c0)
        go_ret2
        rw [HL.out]
        exact ⟨rfl, HB3.out.trans (HI5.out.bel.mono hw3)⟩
    · by_cases hke : k = us.length
      · have hC : l ++ s.data.toList.drop p = tx := by
          rcases HC.out with ⟨_, _, h⟩ | ⟨h, _⟩
          · rw [hke, List.drop_eq_nil_of_le (Nat.le_refl _)] at h; exact h
          · omega
        have HC2 := Lib.hid hC
        clear hC HC
        have i0 : (k : Int) ≤ (us.length : Int) := by omega
        have i1 : (us.length : Int) ≤ (k : Int) := by omega
        have i2 : (p : Int) ≤ (s.size : Int) := by omega
        have hdl : (s.extract p s.size).size = s.size - p := by simp [ByteArray.size_extract]
        have e5 : (l ++ (s.extract p s.size).data.toList).length = l.length + (s.size - p) := by rw [List.length_append, bs_size, hdl]
        have HT5 := Lib.hid (show l ++ (s.extract p s.size).data.toList = tx by rw [← HC2.out, ext_mid, List.take_of_length_le (by rw [List.length_drop, bs_size]; omega)])
        have HO := Lib.hid HA.out.own
        by_cases hbig : l.length + (s.size - p) ≤ 262144
        · have i5 : (l.length : Int) + ((s.size - p : Nat) : Int) ≤ 262144 := by omega
          go_wp2_with (at_builtin; refine Lib.wpList_append_own_string _ rfl _ _ 23 9 rfl w3.heap.size 5 ti Go.Proofs.YtoipnaoijccokaaGreatDoor.u23 Go.Proofs.YtoipnaoijccokaaGreatDoor.u9 hi hz hsize hby _ _ _ rfl HO.out (s.extract p s.size) rfl (by unfold maxLen; omega) (by omega) hsz ?_; intro v' w5 hown2 hg2 _; rw [hdl] at hown2; obtain ⟨a5, c5, rfl⟩ := own_shape hown2; have HI5 := Lib.hid (HA.out.app (by rw [hdl]) hown2 hg2); clear hown2 hg2 )
          go_roundw
          case rel => exact ⟨us.length + 1, p, l ++ (s.extract p s.size).data.toList, rfl, by go_num, by omega, hp, by rw [e5]; omega, Lib.hid (.inr ⟨rfl, HT5.out⟩), HI5⟩
          case measure => (simp [intOf] <;> omega)
        · have i5 : (262144 : Int) < (l.length : Int) + ((s.size - p : Nat) : Int) := by omega
          have HL := Lib.hid (apply_long (h := h.data.toList) (t := t.data.toList) (fs := fs) (s := s.data.toList) (by rw [HX.out, ← HT5.out]; unfold maxOut; rw [e5]; omega))
          go_wp2_with (at_builtin; refine Lib.wpList_append_own_string _ rfl _ _ 23 9 rfl w3.heap.size 5 ti Go.Proofs.YtoipnaoijccokaaGreatDoor.u23 Go.Proofs.YtoipnaoijccokaaGreatDoor.u9 hi hz hsize hby _ _ _ rfl HO.out (s.extract p s.size) rfl (by unfold maxLen; omega) (by omega) hsz ?_; intro v' w5 hown2 hg2 _; rw [hdl] at hown2; obtain ⟨a5, c5, rfl⟩ := own_shape hown2; have HI5 := Lib.hid (HA.out.app (by rw [hdl]) hown2 hg2); clear hown2 hg2 )
          go_ret2
          rw [HL.out]
          exact ⟨rfl, HB3.out.trans (HI5.out.bel.mono hw3)⟩
      · have hk2 : k = us.length + 1 ∧ l = tx := by
          rcases HC.out with ⟨h, _, _⟩ | h
          · omega
          · exact h
        obtain ⟨rfl, rfl⟩ := hk2
        have i1 : (us.length : Int) < ((us.length + 1 : Nat) : Int) := by omega
        have i2 : (us.length : Int) < (us.length : Int) + 1 := by omega
        have HO := Lib.hid HA.out.own
        obtain ⟨a6, c6, rfl⟩ := own_shape HO.out
        have hcv := conv_own HO.out
        have HBel := Lib.hid (HB3.out.trans (HA.out.bel.mono hw3))
        by_cases hbig : l.length ≤ 262144
        · have i5 : (l.length : Int) ≤ 262144 := by omega
          have HL := Lib.hid (apply_ok (h := h.data.toList) (t := t.data.toList) (fs := fs) (s := s.data.toList) (by rw [HX.out]; exact hbig))
          go_wp2_with fail
          go_ret2
          rw [HL.out, HX.out]
          exact ⟨rfl, HBel.out⟩
        · have i5 : (262144 : Int) < (l.length : Int) := by omega
          have HL := Lib.hid (apply_long (h := h.data.toList) (t := t.data.toList) (fs := fs) (s := s.data.toList) (by rw [HX.out]; unfold maxOut; omega))
          go_wp2_with fail
          go_ret2
          rw [HL.out]
          exact ⟨rfl, HBel.out⟩
end Go.Proofs.YtoipnaoijccokaaGreatDoor
