/- The walk of a comparison. -/
import Derived.Test.YtbkhmkpbbggcbaaGreatDoorKTestW7
namespace Go.Proofs.YtbkhmkpbbggcbaaGreatDoor
open Go.RowKit
set_option linter.unusedVariables false
def cmpOnG (s : Bs) (k : Nat) : Got → Got
  | .wrong q e => .wrong q e
  | .good x t => cmpOn (dOrK s k) s x t
def bestV (o : Option Nat) : Value := match o with | none => .int .i64 (-1) | some b => .int .i64 (b : Int)
structure CI (W1 W : World) (p : Nat) (s : Bs) (op : Nat) (g : Got) : Prop where
  turn : Turn p W1 W
  box : Box W p s op g
theorem CI.step {W1 W W' : World} {p : Nat} {s : Bs} {op : Nat} {g : Got} (h : CI W1 W p s op g) (ht : Turn p W W') (hb : Box W' p s op g) : CI W1 W' p s op g := ⟨h.turn.trans ht, hb⟩
theorem bestI_no {r : Bs} {j : Nat} (h : Lib.hasPrefix r (sgn j) = false) : bestI r (j + 1) = bestI r j := by
  conv => lhs; unfold bestI
  rw [h]
  cases bestI r j <;> rfl
theorem bestI_new {r : Bs} {j : Nat} (h : Lib.hasPrefix r (sgn j) = true) (hb : bestI r j = none) : bestI r (j + 1) = some j := by
  conv => lhs; unfold bestI
  rw [h, hb]; rfl
theorem bestI_old {r : Bs} {j b : Nat} (h : Lib.hasPrefix r (sgn j) = true) (hb : bestI r j = some b) : bestI r (j + 1) = if (sgn b).length < (sgn j).length then some j else some b := by
  conv => lhs; unfold bestI
  rw [h, hb]
  show (bif true && decide ((sgn b).length < (sgn j).length) then some j else some b) = _
  by_cases hl : (sgn b).length < (sgn j).length
  · rw [decide_eq_true hl, if_pos hl]; rfl
  · rw [decide_eq_false hl, if_neg hl]; rfl
theorem cmp_none {s : Bs} {k : Nat} {g : Got} (h : bestI (remG s g) 6 = none) : cmpOnG s k g = g := by
  cases g with
  | wrong q e => rfl
  | good x t =>
    show cmpOn (dOrK s k) s x t = _
    unfold cmpOn
    rw [best_sign, show bestI (rs s t) 6 = none from h]; rfl
theorem cmp_res {W W' : World} {p : Nat} {s : Bs} {op : Nat} {A : Nat → Prop} {g : Got} {v : Value} (h : Res W p s op A g v) (ht : Turn p W W') (hA : ¬ A p) (hb : Box W' p s op g) : Res W' p s op A g v := by
  cases g with
  | good x t => exact ⟨hb, h.2.turn ht hA⟩
  | wrong q e => exact ⟨hb.1, hb.2.1, hb.2.2, h.2.2.2⟩
abbrev TenC (b : Nat) (k : Int) (t : Bs) (u : UseI) (kv : Value) (w' : World) : Prop := w'.cell? ⟨b, 0, none⟩ = some (.int .i64 k) ∧ w'.cell? ⟨b, 1, none⟩ = some (.string ⟨t.toArray⟩) ∧ w'.cell? ⟨b, 2, none⟩ = some (.int .i64 u.src) ∧ w'.cell? ⟨b, 3, none⟩ = some (.int .i64 u.till) ∧ w'.cell? ⟨b, 4, none⟩ = some (.string ⟨u.name.toArray⟩) ∧ w'.cell? ⟨b, 5, none⟩ = some (.string ⟨u.key.toArray⟩) ∧ w'.cell? ⟨b, 6, none⟩ = some (.string ⟨u.dft.toArray⟩) ∧ w'.cell? ⟨b, 7, none⟩ = some (.bool u.hk) ∧ w'.cell? ⟨b, 8, none⟩ = some (.bool u.hd) ∧ w'.cell? ⟨b, 9, none⟩ = some (kv)
theorem ten_c {W : World} {b : Nat} {k : Int} {t : Bs} {u : UseI} {kv : Value} {T : TypeId} (h : W.heap[b]? = some (.cells (exL k t u kv).toArray T)) : TenC b k t u kv W :=
  ⟨cell_of_row _ _ 0 _ _ _ h, cell_of_row _ _ 1 _ _ _ h, cell_of_row _ _ 2 _ _ _ h, cell_of_row _ _ 3 _ _ _ h, cell_of_row _ _ 4 _ _ _ h, cell_of_row _ _ 5 _ _ _ h, cell_of_row _ _ 6 _ _ _ h, cell_of_row _ _ 7 _ _ _ h, cell_of_row _ _ 8 _ _ _ h, cell_of_row _ _ 9 _ _ _ h⟩
theorem opK_rs {s : Bs} {k a b : Nat} (h : rs s a = rs s b) : opK s k a = opK s k b := by
  unfold opK opG
  rw [show pa s a = pa s b by unfold pa; rw [h], h]
theorem cmp_some {s : Bs} {k b a t : Nat} {x : Ex} (h : bestI (rs s t) 6 = some b) (hr : rs s a = rs s (pa s t + (sgn b).length)) : cmpOnG s k (.good x t) = (opK s k a).map (twoE (4 + b) x) := by
  show cmpOn (dOrK s k) s x t = _
  rw [opK_rs hr]
  unfold cmpOn
  rw [best_sign, h]
  show (match opG (dOrK s k) s (pa s t + (sgn b).length) with | .wrong p e => Got.wrong p e | .good y t2 => Got.good (twoE (4 + b) x y) t2) = _
  unfold opK
  cases opG (dOrK s k) s (pa s t + (sgn b).length) <;> rfl
theorem two_end {w W0 w5 w6 : World} {p op : Nat} {s : Bs} {x : Ex} {tt : Nat} {g : Got} {k : Int} {k1 k6 : Int} {t1 t6 : Bs} {u1 u6 : UseI} {a1 a6 : Option Addr} {n1 c1 n6 c6 : Nat} (hx : Res w5 p s op (From W0.heap.size) (.good x tt) (exV k1 t1 u1 (.slice a1 n1 c1))) (hr : Res w6 p s op (From w5.heap.size) g (exV k6 t6 u6 (.slice a6 n6 c6))) (ht : Turn p w5 w6) (hpn : ¬ From W0.heap.size p)
    (h0 : Below w.heap.size w W0) (hT : Turn p W0 w5) (hsz : W0.heap.size = w.heap.size + 1) (hpl : p < w.heap.size) (h5 : W0.heap.size ≤ w5.heap.size) :
    Turn p w (setTen (w6.alloc (.cells (exL k1 t1 u1 (.slice a1 n1 c1) ++ exL k6 t6 u6 (.slice a6 n6 c6)).toArray 26)) w.heap.size k [] noUseI (.slice (some ⟨w6.heap.size, 0, none⟩) 2 2)) ∧
    Res (setTen (w6.alloc (.cells (exL k1 t1 u1 (.slice a1 n1 c1) ++ exL k6 t6 u6 (.slice a6 n6 c6)).toArray 26)) w.heap.size k [] noUseI (.slice (some ⟨w6.heap.size, 0, none⟩) 2 2)) p s op (From w.heap.size) (g.map (twoE k x)) (exV k [] noUseI (.slice (some ⟨w6.heap.size, 0, none⟩) 2 2)) := by
  have hA : Below w6.heap.size w6 (w6.alloc (.cells (exL k1 t1 u1 (.slice a1 n1 c1) ++ exL k6 t6 u6 (.slice a6 n6 c6)).toArray 26)) := (Below.refl _ _).alloc (Nat.le_refl _) _
  have h6 := ht.size
  have hx6 : ExAt (From W0.heap.size) w6 x _ := hx.2.turn ht hpn
  refine put_end (N := W0.heap.size) (((Turn.of_below h0).trans (hT.trans ht)).trans (Turn.of_below hA)) hpl (by omega) ?_
  cases g with
  | wrong q e => exact ⟨hr.1, hr.2.1, hr.2.2.1.next hA, ⟨k, [], noUseI, _, _, _, rfl⟩⟩
  | good y t2 =>
    obtain ⟨⟨q, h1, h2, h3, h4⟩, h5'⟩ := hr
    have hy6 : ExAt (From W0.heap.size) w6 y _ := exAt_lo (fun z _ h => by have : w5.heap.size ≤ z := h; show W0.heap.size ≤ z; omega) _ _ h5'
    exact ⟨⟨q, h1, h2, h3, h4.next hA⟩, exAt_two k hx6 hy6 (show W0.heap.size ≤ w6.heap.size by omega)⟩
set_option maxRecDepth 100000 in
set_option maxHeartbeats 4000000 in
theorem ps_cmp (w : World) (p : Nat) (s : Bs) (op k : Nat) (g : Got) (hs : s.length ≤ 100000) (hp : p < w.heap.size) (hgp : GP p w)
    (hO : ∀ W, Below w.heap.size w W → Calls Tryz.prog 79 #[.pointer (some ⟨p, 0, none⟩)] W fun e w' => ∃ v, e = .returned v ∧ Turn p W w' ∧ Res w' p s op (From W.heap.size) g v)
    (hO2 : ∀ x t, g = .good x t → Runs 79 #[.pointer (some ⟨p, 0, none⟩)] p s op (opK s k) (GP p)) :
    Calls Tryz.prog 62 #[.pointer (some ⟨p, 0, none⟩)] w fun e w' => ∃ v, e = .returned v ∧ Turn p w w' ∧ Hid (Res w' p s op (From w.heap.size) (cmpOnG s k g) v) := by
  have HPL := Lib.hid hp
  have HT0 := Lib.hid (show Below w.heap.size w (w.alloc (.cells #[.int .i64 0, .string ⟨#[]⟩, .int .i64 0, .int .i64 0, .string ⟨#[]⟩, .string ⟨#[]⟩, .string ⟨#[]⟩, .bool false, .bool false, .slice none 0 0] 26)) from (Below.refl _ _).alloc (Nat.le_refl _) _)
  have HN0 := Lib.hid (heap_alloc_new w (.cells #[.int .i64 0, .string ⟨#[]⟩, .int .i64 0, .int .i64 0, .string ⟨#[]⟩, .string ⟨#[]⟩, .string ⟨#[]⟩, .bool false, .bool false, .slice none 0 0] 26))
  have HSZ := Lib.hid (show (w.alloc (.cells #[.int .i64 0, .string ⟨#[]⟩, .int .i64 0, .int .i64 0, .string ⟨#[]⟩, .string ⟨#[]⟩, .string ⟨#[]⟩, .bool false, .bool false, .slice none 0 0] 26)).heap.size = w.heap.size + 1 by rw [World.size_alloc])
  have HO := Lib.hid hO
  have HO2 := Lib.hid hO2
  clear hO hO2
  go_enter Tryz.func62, Tryz.ntmps62
  go_wp2_with fail
  generalize w.alloc (.cells #[.int .i64 0, .string ⟨#[]⟩, .int .i64 0, .int .i64 0, .string ⟨#[]⟩, .string ⟨#[]⟩, .string ⟨#[]⟩, .bool false, .bool false, .slice none 0 0] 26) = W0 at *
  refine (HO.out W0 HT0.out).mono ?_
  rintro e w1 ⟨v, rfl, ht1, hr1⟩
  obtain ⟨k1, t1, u1, a1, n1, c1, rfl⟩ := hr1.ten
  have hA : Below w1.heap.size w1 (w1.alloc (.cells (exL k1 t1 u1 (.slice a1 n1 c1)).toArray 26)) := (Below.refl _ _).alloc (Nat.le_refl _) _
  have HX1 := Lib.hid (heap_alloc_new w1 (.cells (exL k1 t1 u1 (.slice a1 n1 c1)).toArray 26))
  have HR1 := Lib.hid (hr1.next hA)
  have HT1 := Lib.hid (ht1.trans (Turn.of_below hA))
  have HTB := Lib.hid ht1.size
  clear ht1 hr1 hA
  go_wp2_with fail
  generalize w1.alloc (.cells (exL k1 t1 u1 (.slice a1 n1 c1)).toArray 26) = W1 at *
  generalize hb3 : w1.heap.size = b3 at *
  refine (ps_signs W1).mono ?_
  rintro e w2 ⟨rfl, rfl⟩
  have HS1 := Lib.hid (heap_alloc_new W1 (.cells #[.string ⟨#[61, 61]⟩, .string ⟨#[33, 61]⟩, .string ⟨#[60]⟩, .string ⟨#[60, 61]⟩, .string ⟨#[62]⟩, .string ⟨#[62, 61]⟩] 9))
  have hA : Below W1.heap.size W1 (W1.alloc (.cells #[.string ⟨#[61, 61]⟩, .string ⟨#[33, 61]⟩, .string ⟨#[60]⟩, .string ⟨#[60, 61]⟩, .string ⟨#[62]⟩, .string ⟨#[62, 61]⟩] 9)) := (Below.refl _ _).alloc (Nat.le_refl _) _
  have HC := Lib.hid (show CI W1 (W1.alloc (.cells #[.string ⟨#[61, 61]⟩, .string ⟨#[33, 61]⟩, .string ⟨#[60]⟩, .string ⟨#[60, 61]⟩, .string ⟨#[62]⟩, .string ⟨#[62, 61]⟩] 9)) p s op g from ⟨Turn.of_below hA, HR1.out.box.next hA⟩)
  have HPS := Lib.hid (show p < W1.heap.size from HR1.out.box.lt)
  have HPW0 := Lib.hid (show ¬ From W0.heap.size p from fun h => by have : W0.heap.size ≤ p := h; have := HSZ.out; omega)
  have HPB3 := Lib.hid (show p < b3 by have := HTB.out; have := HSZ.out; omega)
  clear hA
  go_wp2_with fail
  generalize W1.alloc (.cells #[.string ⟨#[61, 61]⟩, .string ⟨#[33, 61]⟩, .string ⟨#[60]⟩, .string ⟨#[60, 61]⟩, .string ⟨#[62]⟩, .string ⟨#[62, 61]⟩] 9) = W2 at *
  generalize hbs : W1.heap.size = bs at *
  generalize hr : remG s g = r at *
  have HRM := Lib.hid hr
  have HCB := Lib.hid (show Turn p W2 W2 from Turn.refl p W2)
  clear hr
  go_loopw [4, 11] (fun bv iv wr => ∃ (j : Nat), j ≤ 6 ∧ iv = .int .i64 (j : Int) ∧ bv = bestV (bestI r j) ∧ Hid (CI W1 wr p s op g) ∧ Hid (Turn p W2 wr)) (fun _ iv _ => 6 - (intOf iv).toNat)
  case atStart => exact ⟨0, by omega, rfl, rfl, HC, HCB⟩
  case round =>
    obtain ⟨j, hj, rfl, rfl, HCI, HTW⟩ := hrel
    have HSR := Lib.hid (show wr.heap[bs]? = _ from (HTW.out.block bs (Array.getElem?_eq_some_iff.1 HS1.out).1 (by have := HPS.out; intro e; cases e; omega)).trans HS1.out)
    by_cases hlt : j < 6
    · have hc := signs_cell hlt HSR.out
      have j0 : (0 : Int) ≤ (j : Int) := by omega
      have j1 : (j : Int) < 6 := by omega
      go_wp2_with fail
      refine (ps_rest_any wr p s op g hs HCI.out.box).mono ?_
      rintro e w3 ⟨rfl, hb3', ht3⟩
      have HC3 := Lib.hid (HCI.out.step ht3 hb3')
      have HT3 := Lib.hid (HTW.out.trans ht3)
      rw [HRM.out]
      clear hb3' ht3 hc
      go_wp2_with fail
      refine (lib_HasPrefix ⟨r.toArray⟩ ⟨(sgn j).toArray⟩ w3).mono ?_
      rintro e w4 ⟨rfl, rfl⟩
      rw [show Lib.hasPrefix (⟨r.toArray⟩ : ByteArray).data.toList (⟨(sgn j).toArray⟩ : ByteArray).data.toList = Lib.hasPrefix r (sgn j) from rfl]
      cases hp : Lib.hasPrefix r (sgn j)
      · have HB := Lib.hid (bestI_no hp)
        clear hp
        go_wp2_with fail
        go_roundw
        case rel => exact ⟨j + 1, by omega, by go_num, by rw [HB.out], HC3, HT3⟩
        case measure => (simp [intOf] <;> omega)
      · cases hb : bestI r j with
        | none =>
          have HB := Lib.hid (bestI_new hp hb)
          clear hp hb
          rw [show bestV none = Value.int .i64 (-1) from rfl]
          go_wp2_with fail
          go_roundw
          case rel => exact ⟨j + 1, by omega, by go_num, by rw [HB.out]; rfl, HC3, HT3⟩
          case measure => (simp [intOf] <;> omega)
        | some b =>
          have HB := Lib.hid (bestI_old hp hb)
          have hbl := (bestI_lt r j b hb).1
          clear hp hb
          rw [show bestV (some b) = Value.int .i64 (b : Int) from rfl]
          have b0 : ¬ (b : Int) < 0 := by omega
          have b1 : (0 : Int) ≤ (b : Int) := by omega
          have b2 : (b : Int) < 6 := by omega
          go_wp2_with fail
          refine (ps_signs w3).mono ?_
          rintro e w4 ⟨rfl, rfl⟩
          have hA : Below w3.heap.size w3 (w3.alloc (.cells #[.string ⟨#[61, 61]⟩, .string ⟨#[33, 61]⟩, .string ⟨#[60]⟩, .string ⟨#[60, 61]⟩, .string ⟨#[62]⟩, .string ⟨#[62, 61]⟩] 9)) := (Below.refl _ _).alloc (Nat.le_refl _) _
          have HC4 := Lib.hid (HC3.out.step (Turn.of_below hA) (HC3.out.box.next hA))
          have HT4 := Lib.hid (HT3.out.trans (Turn.of_below hA))
          have hc := signs_cell (show b < 6 by omega) (heap_alloc_new w3 (.cells #[.string ⟨#[61, 61]⟩, .string ⟨#[33, 61]⟩, .string ⟨#[60]⟩, .string ⟨#[60, 61]⟩, .string ⟨#[62]⟩, .string ⟨#[62, 61]⟩] 9))
          clear hA
          generalize w3.alloc (.cells #[.string ⟨#[61, 61]⟩, .string ⟨#[33, 61]⟩, .string ⟨#[60]⟩, .string ⟨#[60, 61]⟩, .string ⟨#[62]⟩, .string ⟨#[62, 61]⟩] 9) = W4 at *
          by_cases hl : (sgn b).length < (sgn j).length
          · have HL := Lib.hid hl
            have hl2 : ((sgn b).length : Int) < ((sgn j).length : Int) := by omega
            clear hl
            go_wp2_with fail
            go_roundw
            case rel => exact ⟨j + 1, by omega, by go_num, by rw [HB.out, if_pos HL.out]; rfl, HC4, HT4⟩
            case measure => (simp [intOf] <;> omega)
          · have HL := Lib.hid hl
            have hl2 : ¬ ((sgn b).length : Int) < ((sgn j).length : Int) := by omega
            clear hl
            go_wp2_with fail
            go_roundw
            case rel => exact ⟨j + 1, by omega, by go_num, by rw [HB.out, if_neg HL.out]; rfl, HC4, HT4⟩
            case measure => (simp [intOf] <;> omega)
    · obtain rfl : j = 6 := by omega
      clear hlt hj
      have HXR := Lib.hid (show wr.heap[b3]? = _ from (HCI.out.turn.block b3 (Array.getElem?_eq_some_iff.1 HX1.out).1 (by have := HPB3.out; intro e; cases e; omega)).trans HX1.out)
      cases hb : bestI r 6 with
      | none =>
        have hg : cmpOnG s k g = g := cmp_none (by rw [HRM.out]; exact hb)
        have HTA := Lib.hid (HT1.out.trans HCI.out.turn)
        have HN3 := Lib.hid (first_row HN0.out HTA.out HPL.out)
        have HE := Lib.hid (put_end ((Turn.of_below HT0.out).trans HTA.out) HPL.out (by have := HSZ.out; omega) (cmp_res HR1.out HCI.out.turn HPW0.out HCI.out.box))
        have HG := Lib.hid hg
        have HRW := Lib.hid (setTen_row (k := k1) (t := t1) (u := u1) (kv := .slice a1 n1 c1) HN3.out)
        clear hb hg
        rw [show bestV none = Value.int .i64 (-1) from rfl]
        obtain ⟨x0, x1, x2, x3, x4, x5, x6, x7, x8, x9⟩ := ten_cells HXR.out
        obtain ⟨f0, f1, f2, f3, f4, f5, f6, f7, f8, f9⟩ := ten_frozen HN3.out
        obtain ⟨g0, g1, g2, g3, g4, g5, g6, g7, g8, g9⟩ := ten_live HN3.out
        go_wp2_with fail
        clear x0 x1 x2 x3 x4 x5 x6 x7 x8 x9 f0 f1 f2 f3 f4 f5 f6 f7 f8 f9 g0 g1 g2 g3 g4 g5 g6 g7 g8 g9
        refine bodyPost_ret (v := exV k1 t1 u1 (.slice a1 n1 c1)) ?_ rfl ⟨_, rfl, HE.out.1, Lib.hid (by rw [HG.out]; exact HE.out.2)⟩
        exact results_ten (b := w.heap.size) rfl rfl HRW.out
      | some b =>
        have hbl := bestI_lt r 6 b hb
        have HB := Lib.hid hb
        have b0 : ¬ (b : Int) < 0 := by omega
        have b1 : (0 : Int) ≤ (b : Int) := by omega
        have b2 : (b : Int) < 6 := by omega
        have HBP := Lib.hid hbl.2
        have HBL := Lib.hid hbl.1
        clear hb hbl
        rw [show bestV (some b) = Value.int .i64 (b : Int) from rfl]
        go_wp2_with fail
        refine (ps_signs wr).mono ?_
        rintro e w4 ⟨rfl, rfl⟩
        have hA : Below wr.heap.size wr (wr.alloc (.cells #[.string ⟨#[61, 61]⟩, .string ⟨#[33, 61]⟩, .string ⟨#[60]⟩, .string ⟨#[60, 61]⟩, .string ⟨#[62]⟩, .string ⟨#[62, 61]⟩] 9)) := (Below.refl _ _).alloc (Nat.le_refl _) _
        have HC4 := Lib.hid (HCI.out.step (Turn.of_below hA) (HCI.out.box.next hA))
        have hc := signs_cell HBL.out (heap_alloc_new wr (.cells #[.string ⟨#[61, 61]⟩, .string ⟨#[33, 61]⟩, .string ⟨#[60]⟩, .string ⟨#[60, 61]⟩, .string ⟨#[62]⟩, .string ⟨#[62, 61]⟩] 9))
        clear hA
        generalize wr.alloc (.cells #[.string ⟨#[61, 61]⟩, .string ⟨#[33, 61]⟩, .string ⟨#[60]⟩, .string ⟨#[60, 61]⟩, .string ⟨#[62]⟩, .string ⟨#[62, 61]⟩] 9) = W4 at *
        go_wp2_with fail
        refine (ps_is_any W4 p s op g (sgn b) (by have := sgn_len b; omega) hs HC4.out.box).mono ?_
        rintro e w5 ⟨rfl, hb5, ht5⟩
        have HC5 := Lib.hid (show Turn p W1 w5 from HC4.out.turn.trans ht5)
        have HX5 := Lib.hid (show w5.heap[b3]? = _ from (HC5.out.block b3 (Array.getElem?_eq_some_iff.1 HX1.out).1 (by have := HPB3.out; intro e; cases e; omega)).trans HX1.out)
        have HTA := Lib.hid (HT1.out.trans HC5.out)
        have HN5 := Lib.hid (first_row HN0.out HTA.out HPL.out)
        cases g with
        | wrong q e =>
          have HE := Lib.hid (put_end ((Turn.of_below HT0.out).trans HTA.out) HPL.out (by have := HSZ.out; omega) (cmp_res HR1.out HC5.out HPW0.out hb5))
          have HRW := Lib.hid (setTen_row (k := k1) (t := t1) (u := u1) (kv := .slice a1 n1 c1) HN5.out)
          rw [show isG s (sgn b) (.wrong q e) = false from rfl]
          obtain ⟨x0, x1, x2, x3, x4, x5, x6, x7, x8, x9⟩ := ten_cells HX5.out
          obtain ⟨f0, f1, f2, f3, f4, f5, f6, f7, f8, f9⟩ := ten_frozen HN5.out
          obtain ⟨g0, g1, g2, g3, g4, g5, g6, g7, g8, g9⟩ := ten_live HN5.out
          clear hc ht5 hb5
          go_wp2_with fail
          clear x0 x1 x2 x3 x4 x5 x6 x7 x8 x9 f0 f1 f2 f3 f4 f5 f6 f7 f8 f9 g0 g1 g2 g3 g4 g5 g6 g7 g8 g9
          refine bodyPost_ret (v := exV k1 t1 u1 (.slice a1 n1 c1)) ?_ rfl ⟨_, rfl, HE.out.1, Lib.hid HE.out.2⟩
          exact results_ten (b := w.heap.size) rfl rfl HRW.out
        | good x t =>
          have hpx : Lib.hasPrefix (rs s t) (sgn b) = true := by rw [show rs s t = r from HRM.out]; exact HBP.out
          rw [show isG s (sgn b) (.good x t) = true from hpx]
          obtain ⟨a, ha, hn, hra, hpb⟩ : Box w5 p s op (.good x (pa s t + (sgn b).length)) := by
            have : isN s (sgn b) (.good x t) = .good x (pa s t + (sgn b).length) := by
              show (bif Lib.hasPrefix (rs s t) (sgn b) then Got.good x (pa s t + (sgn b).length) else Got.good x t) = _
              rw [hpx]; rfl
            rw [this] at hb5; exact hb5
          have HPB := Lib.hid (show PB w5.drew p s a op 0 from hpb)
          have HTD := Lib.hid (show Turn p w5 w5.drew from ⟨rfl, rfl, rfl, Nat.le_refl _, fun _ _ _ => rfl⟩)
          have HG := Lib.hid (show cmpOnG s k (.good x t) = (opK s k a).map (twoE (4 + b) x) from cmp_some (show bestI (rs s t) 6 = some b by rw [show rs s t = r from HRM.out]; exact HB.out) hra)
          have HR2 := Lib.hid (HO2.out x t rfl)
          have HS5 := Lib.hid (show TenC b3 k1 t1 u1 (.slice a1 n1 c1) w5.drew from ten_c HX5.out)
          have HRX := Lib.hid (show Res w5.drew p s op (From W0.heap.size) (.good x (pa s t + (sgn b).length)) (exV k1 t1 u1 (.slice a1 n1 c1)) from ⟨⟨a, ha, hn, hra, hpb⟩, exAt_keep (W := w5) (W' := w5.drew) (Nat.le_refl _) (fun _ _ _ => rfl) _ _ (HR1.out.2.turn HC5.out HPW0.out)⟩)
          have HAL := Lib.hid ha
          have HGP := Lib.hid (show GP p w5.drew from (hgp.turn (Turn.of_below HT0.out)).turn (HTA.out.trans HTD.out))
          have HPW5 := Lib.hid (show W0.heap.size ≤ w5.drew.heap.size from HTA.out.size)
          have HBP3 := Lib.hid (show some b3 ≠ some p by have := HPB3.out; intro e; cases e; omega)
          have HBR3 := Lib.hid (show some b3 ≠ some w.heap.size by have := HTB.out; have := HSZ.out; intro e; cases e; omega)
          have i9 : IntKind.i64.wrap (4 + (b : Int)) = 4 + (b : Int) := IntWalk.i64_in _ (by omega)
          clear hc ht5 hb5 hpx hra hn hpb ha
          go_wp2_with fail
          go_region_held3 (TenC b3 k1 t1 u1 (.slice a1 n1 c1)) (first | with_reducible exact HS5.out | with_reducible exact HS6.out | with_reducible exact HS7.out | with_reducible exact HS8.out)
            (first
              | (go_at_call 79; refine (HR2.out w5.drew a HAL.out HGP.out HPB.out).mono ?_; rintro e w6 ⟨v6, rfl, ht6, hr6⟩; obtain ⟨k6, t6, u6, a6, n6, c6, rfl⟩ := hr6.ten; have HT6 := Lib.hid (HTA.out.trans (HTD.out.trans ht6)); have HX6 := Lib.hid (show w6.heap[b3]? = some (.cells (exL k1 t1 u1 (.slice a1 n1 c1)).toArray 26) from ((HTD.out.trans ht6).block b3 (Array.getElem?_eq_some_iff.1 HX5.out).1 HBP3.out).trans HX5.out); have HS6 := Lib.hid (ten_c HX6.out); have HS7 := Lib.hid (show TenC b3 k1 t1 u1 (.slice a1 n1 c1) (w6.alloc (.cells #[.int .i64 k1, .string ⟨t1.toArray⟩, .int .i64 u1.src, .int .i64 u1.till, .string ⟨u1.name.toArray⟩, .string ⟨u1.key.toArray⟩, .string ⟨u1.dft.toArray⟩, .bool u1.hk, .bool u1.hd, .slice a1 n1 c1, .int .i64 k6, .string ⟨t6.toArray⟩, .int .i64 u6.src, .int .i64 u6.till, .string ⟨u6.name.toArray⟩, .string ⟨u6.key.toArray⟩, .string ⟨u6.dft.toArray⟩, .bool u6.hk, .bool u6.hd, .slice a6 n6 c6] 26)) from ten_c (row_alloc HX6.out _)); have HN7 := Lib.hid (row_alloc (first_row HN0.out HT6.out HPL.out) (.cells #[.int .i64 k1, .string ⟨t1.toArray⟩, .int .i64 u1.src, .int .i64 u1.till, .string ⟨u1.name.toArray⟩, .string ⟨u1.key.toArray⟩, .string ⟨u1.dft.toArray⟩, .bool u1.hk, .bool u1.hd, .slice a1 n1 c1, .int .i64 k6, .string ⟨t6.toArray⟩, .int .i64 u6.src, .int .i64 u6.till, .string ⟨u6.name.toArray⟩, .string ⟨u6.key.toArray⟩, .string ⟨u6.dft.toArray⟩, .bool u6.hk, .bool u6.hd, .slice a6 n6 c6] 26)); have HE := Lib.hid (two_end HRX.out hr6 ht6 HPW0.out HT0.out (HTA.out.trans HTD.out) HSZ.out HPL.out HPW5.out (k := 4 + b)); have HRW := Lib.hid (setTen_row (k := 4 + (b : Int)) (t := []) (u := noUseI) (kv := .slice (some ⟨w6.heap.size, 0, none⟩) 2 2) HN7.out); have HS8 := Lib.hid (show TenC b3 k1 t1 u1 (.slice a1 n1 c1) (((((((((((w6.alloc (.cells #[.int .i64 k1, .string ⟨t1.toArray⟩, .int .i64 u1.src, .int .i64 u1.till, .string ⟨u1.name.toArray⟩, .string ⟨u1.key.toArray⟩, .string ⟨u1.dft.toArray⟩, .bool u1.hk, .bool u1.hd, .slice a1 n1 c1, .int .i64 k6, .string ⟨t6.toArray⟩, .int .i64 u6.src, .int .i64 u6.till, .string ⟨u6.name.toArray⟩, .string ⟨u6.key.toArray⟩, .string ⟨u6.dft.toArray⟩, .bool u6.hk, .bool u6.hd, .slice a6 n6 c6] 26)).setCell ⟨w.heap.size, 0, none⟩ (.int .i64 (4 + (b : Int)))).setCell ⟨w.heap.size, 1, none⟩ (.string ⟨#[]⟩)).setCell ⟨w.heap.size, 2, none⟩ (.int .i64 0)).setCell ⟨w.heap.size, 3, none⟩ (.int .i64 0)).setCell ⟨w.heap.size, 4, none⟩ (.string ⟨#[]⟩)).setCell ⟨w.heap.size, 5, none⟩ (.string ⟨#[]⟩)).setCell ⟨w.heap.size, 6, none⟩ (.string ⟨#[]⟩)).setCell ⟨w.heap.size, 7, none⟩ (.bool false)).setCell ⟨w.heap.size, 8, none⟩ (.bool false)).setCell ⟨w.heap.size, 9, none⟩ (.slice (some ⟨w6.heap.size, 0, none⟩) 2 2)) from ten_c (b := b3) (k := k1) (t := t1) (u := u1) (kv := .slice a1 n1 c1) (T := 26) ((setTen_turn (w6.alloc (.cells #[.int .i64 k1, .string ⟨t1.toArray⟩, .int .i64 u1.src, .int .i64 u1.till, .string ⟨u1.name.toArray⟩, .string ⟨u1.key.toArray⟩, .string ⟨u1.dft.toArray⟩, .bool u1.hk, .bool u1.hd, .slice a1 n1 c1, .int .i64 k6, .string ⟨t6.toArray⟩, .int .i64 u6.src, .int .i64 u6.till, .string ⟨u6.name.toArray⟩, .string ⟨u6.key.toArray⟩, .string ⟨u6.dft.toArray⟩, .bool u6.hk, .bool u6.hd, .slice a6 n6 c6] 26)) w.heap.size (4 + b) [] noUseI (.slice (some ⟨w6.heap.size, 0, none⟩) 2 2)).block b3 (Array.getElem?_eq_some_iff.1 (row_alloc HX6.out (.cells #[.int .i64 k1, .string ⟨t1.toArray⟩, .int .i64 u1.src, .int .i64 u1.till, .string ⟨u1.name.toArray⟩, .string ⟨u1.key.toArray⟩, .string ⟨u1.dft.toArray⟩, .bool u1.hk, .bool u1.hd, .slice a1 n1 c1, .int .i64 k6, .string ⟨t6.toArray⟩, .int .i64 u6.src, .int .i64 u6.till, .string ⟨u6.name.toArray⟩, .string ⟨u6.key.toArray⟩, .string ⟨u6.dft.toArray⟩, .bool u6.hk, .bool u6.hd, .slice a6 n6 c6] 26))).1 HBR3.out |>.trans (row_alloc HX6.out _))); clear ht6 hr6; obtain ⟨f0, f1, f2, f3, f4, f5, f6, f7, f8, f9⟩ := ten_frozen HN7.out; obtain ⟨g0, g1, g2, g3, g4, g5, g6, g7, g8, g9⟩ := ten_live HN7.out))
          clear f0 f1 f2 f3 f4 f5 f6 f7 f8 f9 g0 g1 g2 g3 g4 g5 g6 g7 g8 g9
          go_wp2_with fail
          refine bodyPost_ret (v := exV (4 + (b : Int)) [] noUseI (.slice (some ⟨w6.heap.size, 0, none⟩) 2 2)) ?_ rfl ⟨_, rfl, HE.out.1, Lib.hid (by rw [HG.out]; exact HE.out.2)⟩
          exact results_ten (b := w.heap.size) rfl rfl HRW.out
end Go.Proofs.YtbkhmkpbbggcbaaGreatDoor
