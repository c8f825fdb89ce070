/- The walk of a not. The walk of a comparison: its parts. -/
import Derived.Test.YtbkhmkpbbggcbaaGreatDoorKTestW5
namespace Go.Proofs.YtbkhmkpbbggcbaaGreatDoor
open Go.RowKit
set_option linter.unusedVariables false
def Got.map (f : Ex → Ex) : Got → Got
  | .good x t => .good (f x) t
  | .wrong p e => .wrong p e
theorem Res.op {W : World} {p : Nat} {s : Bs} {op : Nat} {A : Nat → Prop} {g : Got} {v : Value} (h : Res W p s op A g v) (hA : ¬ A p) (n : Nat) : Res (W.setCell ⟨p, 2, none⟩ (.int .i64 (n : Int))) p s n A g v := by
  have h9 : Turn p W (W.setCell ⟨p, 2, none⟩ (.int .i64 (n : Int))) := (Turn.refl p W).set
  cases g with
  | good x t =>
    obtain ⟨⟨q, h1, h2, h3, h4⟩, h5⟩ := h
    exact ⟨⟨q, h1, h2, h3, h4.set2 n⟩, h5.turn h9 hA⟩
  | wrong q e => exact ⟨h.1, h.2.1, h.2.2.1.set2 n, h.2.2.2⟩
theorem Res.next {W W' : World} {p : Nat} {s : Bs} {op : Nat} {A : Nat → Prop} {g : Got} {v : Value} (h : Res W p s op A g v) (hb : Below W.heap.size W W') : Res W' p s op A g v := by
  cases g with
  | good x t =>
    obtain ⟨⟨q, h1, h2, h3, h4⟩, h5⟩ := h
    exact ⟨⟨q, h1, h2, h3, h4.next hb⟩, h5.next hb⟩
  | wrong q e => exact ⟨h.1, h.2.1, h.2.2.1.next hb, h.2.2.2⟩
theorem Res.one {W : World} {p : Nat} {s : Bs} {op : Nat} {A : Nat → Prop} {g : Got} {k1 : Int} {t1 : Bs} {u1 : UseI} {a : Option Addr} {n c : Nat} (k : Int) (h : Res W p s op A g (exV k1 t1 u1 (.slice a n c))) (hA : A W.heap.size) :
    Res (W.alloc (.cells (exL k1 t1 u1 (.slice a n c)).toArray 26)) p s op A (g.map (oneE k)) (exV k [] noUseI (.slice (some ⟨W.heap.size, 0, none⟩) 1 1)) := by
  have hb := (Below.refl W.heap.size W).alloc (Nat.le_refl _) (.cells (exL k1 t1 u1 (.slice a n c)).toArray 26)
  cases g with
  | good x t =>
    obtain ⟨⟨q, h1, h2, h3, h4⟩, h5⟩ := h
    exact ⟨⟨q, h1, h2, h3, h4.next hb⟩, exAt_one k h5 hA⟩
  | wrong q e => exact ⟨h.1, h.2.1, h.2.2.1.next hb, ⟨k, [], noUseI, _, _, _, rfl⟩⟩
theorem Res.cell {W : World} {p : Nat} {s : Bs} {op : Nat} {A : Nat → Prop} {g : Got} {v : Value} (h : Res W p s op A g v) : ∃ i bad, PB W p s i op bad := by
  cases g with
  | good x t =>
    obtain ⟨⟨q, h1, h2, h3, h4⟩, h5⟩ := h
    exact ⟨_, _, h4⟩
  | wrong q e => exact ⟨_, _, h.2.2.1⟩
theorem notK_no {s : Bs} {k i : Nat} (h : Lib.hasPrefix (rs s i) [33] = false) : notK s k i = cmpK s k i := by rw [notK_eq]; unfold notG; rw [h]; rfl
theorem notK_long {s : Bs} {i : Nat} (h : Lib.hasPrefix (rs s i) [33] = true) : notK s 0 i = .wrong (pa s i) 3 := by rw [notK_eq]; unfold notG; rw [h]; rfl
theorem notK_yes {s : Bs} {k i : Nat} (h : Lib.hasPrefix (rs s i) [33] = true) : notK s (k + 1) i = (notK s k (pa s i + 1)).map (oneE 3) := by
  rw [notK_eq]; unfold notG; rw [h]
  show (match notK s k (pa s i + 1) with | .wrong p e => Got.wrong p e | .good x t => Got.good (oneE 3 x) t) = _
  cases notK s k (pa s i + 1) <;> rfl
theorem cmpK_pa {s : Bs} {k i : Nat} (h : i ≤ s.length) : cmpK s k (pa s i) = cmpK s k i := by
  unfold cmpK cmpG opG
  rw [pa_pa s h, rs_pa s h]
theorem results_ten {fn : Func} {W : World} {tmps : Array Value} {b slot : Nat} {v0 v1 v2 v3 v4 v5 v6 v7 v8 v9 : Value} (h : fn.results = #[.cell slot 26]) (ht : tmps.getD slot undef = .pointer (some ⟨b, 0, none⟩)) (hW : W.heap[b]? = some (.cells #[v0, v1, v2, v3, v4, v5, v6, v7, v8, v9] 26)) :
    (results fn tmps).run Tryz.prog W = .ok (.agg #[v0, v1, v2, v3, v4, v5, v6, v7, v8, v9]) W := by
  obtain ⟨y0, y1, y2, y3, y4, y5, y6, y7, y8, y9⟩ := ten_live hW
  have ht2 : tmps[slot]?.getD undef = .pointer (some ⟨b, 0, none⟩) := by rw [← ht]; simp
  simp [results, h, go_sem, ht2, y0, y1, y2, y3, y4, y5, y6, y7, y8, y9]
theorem ten_list {cs : Array Value} (h : cs.size = 10) : ∃ v0 v1 v2 v3 v4 v5 v6 v7 v8 v9, cs = #[v0, v1, v2, v3, v4, v5, v6, v7, v8, v9] := by
  obtain ⟨l⟩ := cs
  match l, h with
  | [v0, v1, v2, v3, v4, v5, v6, v7, v8, v9], _ => exact ⟨v0, v1, v2, v3, v4, v5, v6, v7, v8, v9, rfl⟩
theorem not_end {w W0 w3 w4 : World} {p op : Nat} {s : Bs} {g : Got} {k9 : Int} {t9 : Bs} {u9 : UseI} {a9 : Option Addr} {n9 c9 : Nat} (h0 : Below w.heap.size w W0) (hN0 : ∃ cs, W0.heap[w.heap.size]? = some (.cells cs 26) ∧ cs.size = 10) (hT : Turn p W0 w4) (hpl : p < w.heap.size) (h3 : w.heap.size < w3.heap.size) (h34 : w3.heap.size ≤ w4.heap.size)
    (hr : Res w4 p s (op + 1) (From w3.heap.size) g (exV k9 t9 u9 (.slice a9 n9 c9))) :
    ∃ W5, W5 = (w4.alloc (.cells (exL k9 t9 u9 (.slice a9 n9 c9)).toArray 26)).alloc (.cells (exL 3 [] noUseI (.slice (some ⟨w4.heap.size, 0, none⟩) 1 1)).toArray 26) ∧ (∃ i bad, PB W5 p s i (op + 1) bad) ∧ W5.heap[w4.heap.size + 1]? = some (.cells (exL 3 [] noUseI (.slice (some ⟨w4.heap.size, 0, none⟩) 1 1)).toArray 26) ∧
      ∃ W6, W6 = W5.setCell ⟨p, 2, none⟩ (.int .i64 (op : Int)) ∧ W6.heap[w4.heap.size + 1]? = some (.cells (exL 3 [] noUseI (.slice (some ⟨w4.heap.size, 0, none⟩) 1 1)).toArray 26) ∧ (∃ cs, W6.heap[w.heap.size]? = some (.cells cs 26) ∧ cs.size = 10) ∧
        Turn p w (setTen W6 w.heap.size 3 [] noUseI (.slice (some ⟨w4.heap.size, 0, none⟩) 1 1)) ∧ Res (setTen W6 w.heap.size 3 [] noUseI (.slice (some ⟨w4.heap.size, 0, none⟩) 1 1)) p s op (From w.heap.size) (g.map (oneE 3)) (exV 3 [] noUseI (.slice (some ⟨w4.heap.size, 0, none⟩) 1 1)) := by
  have hA : Below w4.heap.size w4 (w4.alloc (.cells (exL k9 t9 u9 (.slice a9 n9 c9)).toArray 26)) := (Below.refl _ _).alloc (Nat.le_refl _) _
  have hB : Below w4.heap.size w4 ((w4.alloc (.cells (exL k9 t9 u9 (.slice a9 n9 c9)).toArray 26)).alloc (.cells (exL 3 [] noUseI (.slice (some ⟨w4.heap.size, 0, none⟩) 1 1)).toArray 26)) := hA.alloc hA.size _
  have hr1 := (Res.one 3 hr (show From w3.heap.size w4.heap.size from h34)).next (W' := (w4.alloc (.cells (exL k9 t9 u9 (.slice a9 n9 c9)).toArray 26)).alloc (.cells (exL 3 [] noUseI (.slice (some ⟨w4.heap.size, 0, none⟩) 1 1)).toArray 26)) ((Below.refl _ _).alloc (Nat.le_refl _) _)
  have hbox := heap_alloc_new (w4.alloc (.cells (exL k9 t9 u9 (.slice a9 n9 c9)).toArray 26)) (.cells (exL 3 [] noUseI (.slice (some ⟨w4.heap.size, 0, none⟩) 1 1)).toArray 26)
  rw [World.size_alloc] at hbox
  have hpA : ¬ From w3.heap.size p := fun h => by have : w3.heap.size ≤ p := h; omega
  have hr2 := hr1.op hpA op
  obtain ⟨cs, hcs, hsz⟩ := hN0
  have hrow := first_row hcs (hT.trans (Turn.of_below hB)) hpl
  have hT9 : Turn p w (((w4.alloc (.cells (exL k9 t9 u9 (.slice a9 n9 c9)).toArray 26)).alloc (.cells (exL 3 [] noUseI (.slice (some ⟨w4.heap.size, 0, none⟩) 1 1)).toArray 26)).setCell ⟨p, 2, none⟩ (.int .i64 (op : Int))) := ((Turn.of_below h0).trans (hT.trans (Turn.of_below hB))).set
  have hset : Turn p ((w4.alloc (.cells (exL k9 t9 u9 (.slice a9 n9 c9)).toArray 26)).alloc (.cells (exL 3 [] noUseI (.slice (some ⟨w4.heap.size, 0, none⟩) 1 1)).toArray 26)) (((w4.alloc (.cells (exL k9 t9 u9 (.slice a9 n9 c9)).toArray 26)).alloc (.cells (exL 3 [] noUseI (.slice (some ⟨w4.heap.size, 0, none⟩) 1 1)).toArray 26)).setCell ⟨p, 2, none⟩ (.int .i64 (op : Int))) := (Turn.refl _ _).set
  have he := put_end hT9 hpl h3 hr2
  exact ⟨_, rfl, hr1.cell, hbox, _, rfl, (hset.block _ (Array.getElem?_eq_some_iff.1 hbox).1 (by intro e; cases e; omega)).trans hbox, ⟨cs, (hset.block _ (Array.getElem?_eq_some_iff.1 hrow).1 (by intro e; cases e; omega)).trans hrow, hsz⟩, he.1, he.2⟩
set_option maxRecDepth 100000 in
set_option maxHeartbeats 4000000 in
theorem ps_not (w : World) (p : Nat) (s : Bs) (i op k : Nat) (hi : i ≤ s.length) (hs : s.length ≤ 100000) (hop : op + (k + 1) = 16) (hC : Runs 62 #[.pointer (some ⟨p, 0, none⟩)] p s op (cmpK s (k + 1)) (GP p))
    (hN : Runs 44 #[.pointer (some ⟨p, 0, none⟩)] p s (op + 1) (notK s k) (GP p)) (hgp : GP p w) (h : PB w p s i op 0) :
    Calls Tryz.prog 44 #[.pointer (some ⟨p, 0, none⟩)] w fun e w' => ∃ v, e = .returned v ∧ Turn p w w' ∧ Hid (Res w' p s op (From w.heap.size) (notK s (k + 1) i) v) := by
  have HPL := Lib.hid h.lt
  have HB := Lib.hid (show PB (w.alloc (.cells #[.int .i64 0, .string ⟨#[]⟩, .int .i64 0, .int .i64 0, .string ⟨#[]⟩, .string ⟨#[]⟩, .string ⟨#[]⟩, .bool false, .bool false, .slice none 0 0] 26)) p s i op 0 from h.next ((Below.refl _ _).alloc (Nat.le_refl _) _))
  have HT0 := Lib.hid (show Below w.heap.size w (w.alloc (.cells #[.int .i64 0, .string ⟨#[]⟩, .int .i64 0, .int .i64 0, .string ⟨#[]⟩, .string ⟨#[]⟩, .string ⟨#[]⟩, .bool false, .bool false, .slice none 0 0] 26)) from (Below.refl _ _).alloc (Nat.le_refl _) _)
  have HN0 := Lib.hid (heap_alloc_new w (.cells #[.int .i64 0, .string ⟨#[]⟩, .int .i64 0, .int .i64 0, .string ⟨#[]⟩, .string ⟨#[]⟩, .string ⟨#[]⟩, .bool false, .bool false, .slice none 0 0] 26))
  have HSZ := Lib.hid (show (w.alloc (.cells #[.int .i64 0, .string ⟨#[]⟩, .int .i64 0, .int .i64 0, .string ⟨#[]⟩, .string ⟨#[]⟩, .string ⟨#[]⟩, .bool false, .bool false, .slice none 0 0] 26)).heap.size = w.heap.size + 1 by rw [World.size_alloc])
  have HNN := Lib.hid hN
  have HCC := Lib.hid hC
  clear h hN hC
  go_enter Tryz.func44, Tryz.ntmps44
  go_wp2_with fail
  generalize w.alloc (.cells #[.int .i64 0, .string ⟨#[]⟩, .int .i64 0, .int .i64 0, .string ⟨#[]⟩, .string ⟨#[]⟩, .string ⟨#[]⟩, .bool false, .bool false, .slice none 0 0] 26) = W0 at *
  refine (ps_rest_ok W0 p s i op hi hs HB.out).mono ?_
  rintro e w1 ⟨rfl, hb1, ht1⟩
  have HB1 := Lib.hid hb1
  have HT1 := Lib.hid ht1
  clear hb1 ht1
  go_wp2_with fail
  refine (lib_HasPrefix ⟨(rs s i).toArray⟩ ⟨#[33]⟩ w1).mono ?_
  rintro e w2 ⟨rfl, rfl⟩
  rw [show Lib.hasPrefix (⟨(rs s i).toArray⟩ : ByteArray).data.toList (⟨#[33]⟩ : ByteArray).data.toList = Lib.hasPrefix (rs s i) [33] from rfl]
  cases hp : Lib.hasPrefix (rs s i) [33]
  · have HK := Lib.hid (notK_no (k := k + 1) hp)
    clear hp
    go_wp2_with fail
    refine (HCC.out w1 (pa s i) (pa_le s i) ((hgp.turn (Turn.of_below HT0.out)).turn HT1.out) HB1.out).mono ?_
    rintro e w3 ⟨v, rfl, ht3, hr3⟩
    obtain ⟨k9, t9, u9, a9, n9, c9, rfl⟩ := hr3.ten
    have HT3 := Lib.hid (HT1.out.trans ht3)
    have HN3 := Lib.hid (first_row HN0.out HT3.out HPL.out)
    have HE := Lib.hid (put_end ((Turn.of_below HT0.out).trans HT3.out) HPL.out (by have h1 := HSZ.out; have h2 := HT1.out.size; omega : w.heap.size < w1.heap.size) hr3)
    have HRW := Lib.hid (setTen_row (k := k9) (t := t9) (u := u9) (kv := .slice a9 n9 c9) HN3.out)
    obtain ⟨f0, f1, f2, f3, f4, f5, f6, f7, f8, f9⟩ := ten_frozen HN3.out
    obtain ⟨g0, g1, g2, g3, g4, g5, g6, g7, g8, g9⟩ := ten_live HN3.out
    clear ht3 hr3
    go_wp2_with fail
    clear f0 f1 f2 f3 f4 f5 f6 f7 f8 f9 g0 g1 g2 g3 g4 g5 g6 g7 g8 g9
    obtain ⟨y0, y1, y2, y3, y4, y5, y6, y7, y8, y9⟩ := ten_cells HRW.out
    refine bodyPost_ret (v := exV k9 t9 u9 (.slice a9 n9 c9)) ?_ rfl ⟨_, rfl, HE.out.1, Lib.hid (by rw [HK.out, ← cmpK_pa hi]; exact HE.out.2)⟩
    simp [results, Tryz.f44, go_sem, y0, y1, y2, y3, y4, y5, y6, y7, y8, y9]
  · have HK := Lib.hid (notK_yes (k := k) hp)
    have hq1 := pfx_lt hi hp
    simp only [List.length_singleton] at hq1
    have HP := Lib.hid hp
    clear hp
    go_wp2_with fail
    refine (ps_is_ok w1 p s (pa s i) op [33] (pa_le s i) hs (by decide) HB1.out).mono ?_
    rintro e w2 ⟨rfl, hb2, ht2⟩
    rw [rs_pa s hi, HP.out, pa_pa s hi] at hb2
    rw [rs_pa s hi, HP.out]
    have HB2 := Lib.hid (show PB w2 p s (pa s i + 1) op 0 from hb2)
    have HT2 := Lib.hid (HT1.out.trans ht2)
    clear hb2 ht2
    go_wp2_with fail
    refine (ps_deeper_ok w2 p s (pa s i + 1) op 0 (by omega) HB2.out).mono ?_
    rintro e w3 ⟨rfl, hb3, ht3⟩
    have HB3 := Lib.hid hb3
    have HT3 := Lib.hid (HT2.out.trans ht3)
    clear hb3 ht3
    go_wp2_with fail
    refine (HNN.out w3 (pa s i + 1) hq1 ((hgp.turn (Turn.of_below HT0.out)).turn HT3.out) HB3.out).mono ?_
    rintro e w4 ⟨v, rfl, ht4, hr4⟩
    obtain ⟨k9, t9, u9, a9, n9, c9, rfl⟩ := hr4.ten
    have HT4 := Lib.hid (HT3.out.trans ht4)
    have HR4 := Lib.hid hr4
    have HS3 := Lib.hid (show w.heap.size < w3.heap.size by have h1 := HSZ.out; have h2 := HT3.out.size; omega)
    have HS4 := Lib.hid (show w3.heap.size ≤ w4.heap.size from ht4.size)
    have HP3 := Lib.hid (show p < w3.heap.size from HB3.out.lt)
    clear ht4 hr4
    have hne := not_end HT0.out ⟨_, HN0.out, rfl⟩ HT4.out HPL.out HS3.out HS4.out HR4.out
    obtain ⟨W5, hw5, ⟨j, bad, hpb⟩, hbx, W6, hw6, hbx6, ⟨cs, hcs, hsz⟩, hfin⟩ := hne
    go_upto_region 4 with fail
    generalize hq : (w4.alloc (.cells #[.int .i64 k9, .string ⟨t9.toArray⟩, .int .i64 u9.src, .int .i64 u9.till, .string ⟨u9.name.toArray⟩, .string ⟨u9.key.toArray⟩, .string ⟨u9.dft.toArray⟩, .bool u9.hk, .bool u9.hd, .slice a9 n9 c9] 26)).alloc (.cells #[.int .i64 3, .string ⟨#[]⟩, .int .i64 0, .int .i64 0, .string ⟨#[]⟩, .string ⟨#[]⟩, .string ⟨#[]⟩, .bool false, .bool false, .slice (some ⟨w4.heap.size, 0, none⟩) 1 1] 26) = W
    obtain rfl : W5 = W := hw5.trans hq
    clear hq hw5
    obtain ⟨-, -, c2, -, -, -, f2, -⟩ := hpb.pc
    have HFIN := Lib.hid hfin
    have HBX := Lib.hid (show W6.heap[w4.heap.size + 1]? = some (.cells #[.int .i64 3, .string ⟨#[]⟩, .int .i64 0, .int .i64 0, .string ⟨#[]⟩, .string ⟨#[]⟩, .string ⟨#[]⟩, .bool false, .bool false, .slice (some ⟨w4.heap.size, 0, none⟩) 1 1] 26) from hbx6)
    have HCS := Lib.hid hcs
    have HSZ2 := Lib.hid hsz
    clear hpb hbx hbx6 hcs hsz hfin
    go_upto_region 5 with fail
    rw [← hw6]
    clear hw6 c2 f2
    obtain ⟨v0, v1, v2, v3, v4, v5, v6, v7, v8, v9, hcs⟩ : ∃ v0 v1 v2 v3 v4 v5 v6 v7 v8 v9, cs = #[v0, v1, v2, v3, v4, v5, v6, v7, v8, v9] := ten_list HSZ2.out
    subst hcs
    obtain ⟨c0, c1, c2, c3, c4, c5, c6, c7, c8, c9'⟩ := ten_live HBX.out
    obtain ⟨f0, f1, f2, f3, f4, f5, f6, f7, f8, f9⟩ := ten_frozen HCS.out
    obtain ⟨g0, g1, g2, g3, g4, g5, g6, g7, g8, g9⟩ := ten_live HCS.out
    have HRW := Lib.hid (show (setTen W6 w.heap.size 3 [] noUseI (.slice (some ⟨w4.heap.size, 0, none⟩) 1 1)).heap[w.heap.size]? = some (.cells #[.int .i64 3, .string ⟨#[]⟩, .int .i64 0, .int .i64 0, .string ⟨#[]⟩, .string ⟨#[]⟩, .string ⟨#[]⟩, .bool false, .bool false, .slice (some ⟨w4.heap.size, 0, none⟩) 1 1] 26) from setTen_row (k := 3) (t := []) (u := noUseI) (kv := .slice (some ⟨w4.heap.size, 0, none⟩) 1 1) HCS.out)
    go_wp2_with fail
    clear c0 c1 c2 c3 c4 c5 c6 c7 c8 c9' f0 f1 f2 f3 f4 f5 f6 f7 f8 f9 g0 g1 g2 g3 g4 g5 g6 g7 g8 g9
    refine bodyPost_ret (v := exV 3 [] noUseI (.slice (some ⟨w4.heap.size, 0, none⟩) 1 1)) ?_ rfl ⟨_, rfl, HFIN.out.1, Lib.hid (by rw [HK.out]; exact HFIN.out.2)⟩
    exact results_ten (b := w.heap.size) rfl rfl HRW.out
set_option maxRecDepth 100000 in
set_option maxHeartbeats 4000000 in
theorem ps_not0 (w : World) (p : Nat) (s : Bs) (i op : Nat) (hi : i ≤ s.length) (hs : s.length ≤ 100000) (hop : op = 16) (hC : Runs 62 #[.pointer (some ⟨p, 0, none⟩)] p s op (cmpK s 0) (GP p))
    (hN : RunsBad 44 #[.pointer (some ⟨p, 0, none⟩)] p s (GP p)) (hgp : GP p w) (h : PB w p s i op 0) :
    Calls Tryz.prog 44 #[.pointer (some ⟨p, 0, none⟩)] w fun e w' => ∃ v, e = .returned v ∧ Turn p w w' ∧ Hid (Res w' p s op (From w.heap.size) (notK s 0 i) v) := by
  have HPL := Lib.hid h.lt
  have HB := Lib.hid (show PB (w.alloc (.cells #[.int .i64 0, .string ⟨#[]⟩, .int .i64 0, .int .i64 0, .string ⟨#[]⟩, .string ⟨#[]⟩, .string ⟨#[]⟩, .bool false, .bool false, .slice none 0 0] 26)) p s i op 0 from h.next ((Below.refl _ _).alloc (Nat.le_refl _) _))
  have HT0 := Lib.hid (show Below w.heap.size w (w.alloc (.cells #[.int .i64 0, .string ⟨#[]⟩, .int .i64 0, .int .i64 0, .string ⟨#[]⟩, .string ⟨#[]⟩, .string ⟨#[]⟩, .bool false, .bool false, .slice none 0 0] 26)) from (Below.refl _ _).alloc (Nat.le_refl _) _)
  have HN0 := Lib.hid (heap_alloc_new w (.cells #[.int .i64 0, .string ⟨#[]⟩, .int .i64 0, .int .i64 0, .string ⟨#[]⟩, .string ⟨#[]⟩, .string ⟨#[]⟩, .bool false, .bool false, .slice none 0 0] 26))
  have HSZ := Lib.hid (show (w.alloc (.cells #[.int .i64 0, .string ⟨#[]⟩, .int .i64 0, .int .i64 0, .string ⟨#[]⟩, .string ⟨#[]⟩, .string ⟨#[]⟩, .bool false, .bool false, .slice none 0 0] 26)).heap.size = w.heap.size + 1 by rw [World.size_alloc])
  have HNN := Lib.hid hN
  have HCC := Lib.hid hC
  have HOP := Lib.hid hop
  have o1 : op ≤ 16 := by omega
  clear h hN hC hop
  go_enter Tryz.func44, Tryz.ntmps44
  go_wp2_with fail
  generalize w.alloc (.cells #[.int .i64 0, .string ⟨#[]⟩, .int .i64 0, .int .i64 0, .string ⟨#[]⟩, .string ⟨#[]⟩, .string ⟨#[]⟩, .bool false, .bool false, .slice none 0 0] 26) = W0 at *
  refine (ps_rest_ok W0 p s i op hi hs HB.out).mono ?_
  rintro e w1 ⟨rfl, hb1, ht1⟩
  have HB1 := Lib.hid hb1
  have HT1 := Lib.hid ht1
  clear hb1 ht1
  go_wp2_with fail
  refine (lib_HasPrefix ⟨(rs s i).toArray⟩ ⟨#[33]⟩ w1).mono ?_
  rintro e w2 ⟨rfl, rfl⟩
  rw [show Lib.hasPrefix (⟨(rs s i).toArray⟩ : ByteArray).data.toList (⟨#[33]⟩ : ByteArray).data.toList = Lib.hasPrefix (rs s i) [33] from rfl]
  cases hp : Lib.hasPrefix (rs s i) [33]
  · have HK := Lib.hid (notK_no (k := 0) hp)
    clear hp
    go_wp2_with fail
    refine (HCC.out w1 (pa s i) (pa_le s i) ((hgp.turn (Turn.of_below HT0.out)).turn HT1.out) HB1.out).mono ?_
    rintro e w3 ⟨v, rfl, ht3, hr3⟩
    obtain ⟨k9, t9, u9, a9, n9, c9, rfl⟩ := hr3.ten
    have HT3 := Lib.hid (HT1.out.trans ht3)
    have HN3 := Lib.hid (first_row HN0.out HT3.out HPL.out)
    have HE := Lib.hid (put_end ((Turn.of_below HT0.out).trans HT3.out) HPL.out (by have h1 := HSZ.out; have h2 := HT1.out.size; omega : w.heap.size < w1.heap.size) hr3)
    have HRW := Lib.hid (setTen_row (k := k9) (t := t9) (u := u9) (kv := .slice a9 n9 c9) HN3.out)
    obtain ⟨f0, f1, f2, f3, f4, f5, f6, f7, f8, f9⟩ := ten_frozen HN3.out
    obtain ⟨g0, g1, g2, g3, g4, g5, g6, g7, g8, g9⟩ := ten_live HN3.out
    clear ht3 hr3
    go_wp2_with fail
    clear f0 f1 f2 f3 f4 f5 f6 f7 f8 f9 g0 g1 g2 g3 g4 g5 g6 g7 g8 g9
    obtain ⟨y0, y1, y2, y3, y4, y5, y6, y7, y8, y9⟩ := ten_cells HRW.out
    refine bodyPost_ret (v := exV k9 t9 u9 (.slice a9 n9 c9)) ?_ rfl ⟨_, rfl, HE.out.1, Lib.hid (by rw [HK.out, ← cmpK_pa hi]; exact HE.out.2)⟩
    simp [results, Tryz.f44, go_sem, y0, y1, y2, y3, y4, y5, y6, y7, y8, y9]
  · have HK := Lib.hid (notK_long hp)
    have hq1 := pfx_lt hi hp
    simp only [List.length_singleton] at hq1
    have HP := Lib.hid hp
    clear hp
    go_wp2_with fail
    refine (ps_is_ok w1 p s (pa s i) op [33] (pa_le s i) hs (by decide) HB1.out).mono ?_
    rintro e w2 ⟨rfl, hb2, ht2⟩
    rw [rs_pa s hi, HP.out, pa_pa s hi] at hb2
    rw [rs_pa s hi, HP.out]
    have HB2 := Lib.hid (show PB w2 p s (pa s i + 1) op 0 from hb2)
    have HT2 := Lib.hid (HT1.out.trans ht2)
    clear hb2 ht2
    go_wp2_with fail
    refine (ps_deeper_long w2 p s (pa s i + 1) op (by omega) (by omega) HOP.out HB2.out).mono ?_
    rintro e w3 ⟨rfl, hb3, ht3⟩
    have HB3 := Lib.hid (show PB w3 p s (pa s i) (op + 1) 3 from hb3)
    have HT3 := Lib.hid (HT2.out.trans ht3)
    clear hb3 ht3
    go_wp2_with fail
    refine (HNN.out w3 (pa s i) (op + 1) 3 (pa_le s i) (by decide) ((hgp.turn (Turn.of_below HT0.out)).turn HT3.out) HB3.out).mono ?_
    rintro e w4 ⟨v, rfl, ht4, hp4, hv4⟩
    obtain ⟨k9, t9, u9, a9, n9, c9, rfl⟩ := hv4
    have HT4 := Lib.hid (HT3.out.trans ht4)
    have HR4 := Lib.hid (show Res w4 p s (op + 1) (From w3.heap.size) (.wrong (pa s i) 3) _ from ⟨by decide, pa_le s i, hp4, ⟨k9, t9, u9, a9, n9, c9, rfl⟩⟩)
    have HS3 := Lib.hid (show w.heap.size < w3.heap.size by have h1 := HSZ.out; have h2 := HT3.out.size; omega)
    have HS4 := Lib.hid (show w3.heap.size ≤ w4.heap.size from ht4.size)
    have HP3 := Lib.hid (show p < w3.heap.size from HB3.out.lt)
    clear ht4 hp4
    have hne := not_end HT0.out ⟨_, HN0.out, rfl⟩ HT4.out HPL.out HS3.out HS4.out HR4.out
    obtain ⟨W5, hw5, ⟨j, bad, hpb⟩, hbx, W6, hw6, hbx6, ⟨cs, hcs, hsz⟩, hfin⟩ := hne
    go_upto_region 4 with fail
    generalize hq : (w4.alloc (.cells #[.int .i64 k9, .string ⟨t9.toArray⟩, .int .i64 u9.src, .int .i64 u9.till, .string ⟨u9.name.toArray⟩, .string ⟨u9.key.toArray⟩, .string ⟨u9.dft.toArray⟩, .bool u9.hk, .bool u9.hd, .slice a9 n9 c9] 26)).alloc (.cells #[.int .i64 3, .string ⟨#[]⟩, .int .i64 0, .int .i64 0, .string ⟨#[]⟩, .string ⟨#[]⟩, .string ⟨#[]⟩, .bool false, .bool false, .slice (some ⟨w4.heap.size, 0, none⟩) 1 1] 26) = W
    obtain rfl : W5 = W := hw5.trans hq
    clear hq hw5
    obtain ⟨-, -, c2, -, -, -, f2, -⟩ := hpb.pc
    have HFIN := Lib.hid hfin
    have HBX := Lib.hid (show W6.heap[w4.heap.size + 1]? = some (.cells #[.int .i64 3, .string ⟨#[]⟩, .int .i64 0, .int .i64 0, .string ⟨#[]⟩, .string ⟨#[]⟩, .string ⟨#[]⟩, .bool false, .bool false, .slice (some ⟨w4.heap.size, 0, none⟩) 1 1] 26) from hbx6)
    have HCS := Lib.hid hcs
    have HSZ2 := Lib.hid hsz
    clear hpb hbx hbx6 hcs hsz hfin
    go_upto_region 5 with fail
    rw [← hw6]
    clear hw6 c2 f2
    obtain ⟨v0, v1, v2, v3, v4, v5, v6, v7, v8, v9, hcs⟩ : ∃ v0 v1 v2 v3 v4 v5 v6 v7 v8 v9, cs = #[v0, v1, v2, v3, v4, v5, v6, v7, v8, v9] := ten_list HSZ2.out
    subst hcs
    obtain ⟨c0, c1, c2, c3, c4, c5, c6, c7, c8, c9'⟩ := ten_live HBX.out
    obtain ⟨f0, f1, f2, f3, f4, f5, f6, f7, f8, f9⟩ := ten_frozen HCS.out
    obtain ⟨g0, g1, g2, g3, g4, g5, g6, g7, g8, g9⟩ := ten_live HCS.out
    have HRW := Lib.hid (show (setTen W6 w.heap.size 3 [] noUseI (.slice (some ⟨w4.heap.size, 0, none⟩) 1 1)).heap[w.heap.size]? = some (.cells #[.int .i64 3, .string ⟨#[]⟩, .int .i64 0, .int .i64 0, .string ⟨#[]⟩, .string ⟨#[]⟩, .string ⟨#[]⟩, .bool false, .bool false, .slice (some ⟨w4.heap.size, 0, none⟩) 1 1] 26) from setTen_row (k := 3) (t := []) (u := noUseI) (kv := .slice (some ⟨w4.heap.size, 0, none⟩) 1 1) HCS.out)
    go_wp2_with fail
    clear c0 c1 c2 c3 c4 c5 c6 c7 c8 c9' f0 f1 f2 f3 f4 f5 f6 f7 f8 f9 g0 g1 g2 g3 g4 g5 g6 g7 g8 g9
    refine bodyPost_ret (v := exV 3 [] noUseI (.slice (some ⟨w4.heap.size, 0, none⟩) 1 1)) ?_ rfl ⟨_, rfl, HFIN.out.1, Lib.hid (by rw [HK.out]; exact HFIN.out.2)⟩
    exact results_ten (b := w.heap.size) rfl rfl HRW.out
set_option maxRecDepth 100000 in
set_option maxHeartbeats 4000000 in
theorem ps_not_bad (w : World) (p : Nat) (s : Bs) (i op : Nat) (bad : Int) (hi : i ≤ s.length) (hs : s.length ≤ 100000) (hbad : bad ≠ 0) (hC : RunsBad 62 #[.pointer (some ⟨p, 0, none⟩)] p s (GP p)) (hgp : GP p w) (h : PB w p s i op bad) :
    Calls Tryz.prog 44 #[.pointer (some ⟨p, 0, none⟩)] w fun e w' => ∃ v, e = .returned v ∧ Turn p w w' ∧ Hid (PB w' p s i op bad ∧ TenV v) := by
  have HPL := Lib.hid h.lt
  have HB := Lib.hid (show PB (w.alloc (.cells #[.int .i64 0, .string ⟨#[]⟩, .int .i64 0, .int .i64 0, .string ⟨#[]⟩, .string ⟨#[]⟩, .string ⟨#[]⟩, .bool false, .bool false, .slice none 0 0] 26)) p s i op bad from h.next ((Below.refl _ _).alloc (Nat.le_refl _) _))
  have HT0 := Lib.hid (show Below w.heap.size w (w.alloc (.cells #[.int .i64 0, .string ⟨#[]⟩, .int .i64 0, .int .i64 0, .string ⟨#[]⟩, .string ⟨#[]⟩, .string ⟨#[]⟩, .bool false, .bool false, .slice none 0 0] 26)) from (Below.refl _ _).alloc (Nat.le_refl _) _)
  have HN0 := Lib.hid (heap_alloc_new w (.cells #[.int .i64 0, .string ⟨#[]⟩, .int .i64 0, .int .i64 0, .string ⟨#[]⟩, .string ⟨#[]⟩, .string ⟨#[]⟩, .bool false, .bool false, .slice none 0 0] 26))
  have HSZ := Lib.hid (show (w.alloc (.cells #[.int .i64 0, .string ⟨#[]⟩, .int .i64 0, .int .i64 0, .string ⟨#[]⟩, .string ⟨#[]⟩, .string ⟨#[]⟩, .bool false, .bool false, .slice none 0 0] 26)).heap.size = w.heap.size + 1 by rw [World.size_alloc])
  have HBAD := Lib.hid hbad
  have HCC := Lib.hid hC
  clear h hC hbad
  go_enter Tryz.func44, Tryz.ntmps44
  go_wp2_with fail
  generalize w.alloc (.cells #[.int .i64 0, .string ⟨#[]⟩, .int .i64 0, .int .i64 0, .string ⟨#[]⟩, .string ⟨#[]⟩, .string ⟨#[]⟩, .bool false, .bool false, .slice none 0 0] 26) = W0 at *
  refine (ps_rest_bad W0 p s i op bad hi hs HBAD.out HB.out).mono ?_
  rintro e w1 ⟨rfl, hb1, ht1⟩
  have HB1 := Lib.hid hb1
  have HT1 := Lib.hid ht1
  clear hb1 ht1
  go_wp2_with fail
  refine (lib_HasPrefix ⟨(s.drop i).toArray⟩ ⟨#[33]⟩ w1).mono ?_
  rintro e w2 ⟨rfl, rfl⟩
  rw [show Lib.hasPrefix (⟨(s.drop i).toArray⟩ : ByteArray).data.toList (⟨#[33]⟩ : ByteArray).data.toList = Lib.hasPrefix (s.drop i) [33] from rfl]
  cases hp : Lib.hasPrefix (s.drop i) [33]
  · clear hp
    go_wp2_with fail
    refine (HCC.out w1 i op bad hi HBAD.out ((hgp.turn (Turn.of_below HT0.out)).turn HT1.out) HB1.out).mono ?_
    rintro e w3 ⟨v, rfl, ht3, hp3, hv3⟩
    obtain ⟨k9, t9, u9, a9, n9, c9, rfl⟩ := hv3
    have HT3 := Lib.hid (HT1.out.trans ht3)
    have HN3 := Lib.hid (first_row HN0.out HT3.out HPL.out)
    have HE := Lib.hid (put_bad (k := k9) (t := t9) (u := u9) (a := a9) (n := n9) (c := c9) ((Turn.of_below HT0.out).trans HT3.out) HPL.out hp3)
    have HRW := Lib.hid (setTen_row (k := k9) (t := t9) (u := u9) (kv := .slice a9 n9 c9) HN3.out)
    obtain ⟨f0, f1, f2, f3, f4, f5, f6, f7, f8, f9⟩ := ten_frozen HN3.out
    obtain ⟨g0, g1, g2, g3, g4, g5, g6, g7, g8, g9⟩ := ten_live HN3.out
    clear ht3 hp3
    go_wp2_with fail
    clear f0 f1 f2 f3 f4 f5 f6 f7 f8 f9 g0 g1 g2 g3 g4 g5 g6 g7 g8 g9
    refine bodyPost_ret (v := exV k9 t9 u9 (.slice a9 n9 c9)) ?_ rfl ⟨_, rfl, HE.out.1, Lib.hid HE.out.2⟩
    exact results_ten (b := w.heap.size) rfl rfl HRW.out
  · clear hp
    go_wp2_with fail
    refine (ps_is_bad w1 p s i op bad ⟨#[33]⟩ HBAD.out HB1.out).mono ?_
    rintro e w2 ⟨rfl, hb2, ht2⟩
    have HB2 := Lib.hid hb2
    have HT2 := Lib.hid (HT1.out.trans ht2)
    clear hb2 ht2
    go_wp2_with fail
    refine (HCC.out w2 i op bad hi HBAD.out ((hgp.turn (Turn.of_below HT0.out)).turn HT2.out) HB2.out).mono ?_
    rintro e w3 ⟨v, rfl, ht3, hp3, hv3⟩
    obtain ⟨k9, t9, u9, a9, n9, c9, rfl⟩ := hv3
    have HT3 := Lib.hid (HT2.out.trans ht3)
    have HN3 := Lib.hid (first_row HN0.out HT3.out HPL.out)
    have HE := Lib.hid (put_bad (k := k9) (t := t9) (u := u9) (a := a9) (n := n9) (c := c9) ((Turn.of_below HT0.out).trans HT3.out) HPL.out hp3)
    have HRW := Lib.hid (setTen_row (k := k9) (t := t9) (u := u9) (kv := .slice a9 n9 c9) HN3.out)
    obtain ⟨f0, f1, f2, f3, f4, f5, f6, f7, f8, f9⟩ := ten_frozen HN3.out
    obtain ⟨g0, g1, g2, g3, g4, g5, g6, g7, g8, g9⟩ := ten_live HN3.out
    clear ht3 hp3
    go_wp2_with fail
    clear f0 f1 f2 f3 f4 f5 f6 f7 f8 f9 g0 g1 g2 g3 g4 g5 g6 g7 g8 g9
    refine bodyPost_ret (v := exV k9 t9 u9 (.slice a9 n9 c9)) ?_ rfl ⟨_, rfl, HE.out.1, Lib.hid HE.out.2⟩
    exact results_ten (b := w.heap.size) rfl rfl HRW.out
end Go.Proofs.YtbkhmkpbbggcbaaGreatDoor
namespace Go.Proofs.YtbkhmkpbbggcbaaGreatDoor
open Go.RowKit
set_option linter.unusedVariables false
def Box (W : World) (p : Nat) (s : Bs) (op : Nat) : Got → Prop
  | .good _ t => ∃ a : Nat, a ≤ s.length ∧ t ≤ s.length ∧ rs s a = rs s t ∧ PB W p s a op 0
  | .wrong q e => e ≠ 0 ∧ q ≤ s.length ∧ PB W p s q op e
def remG (s : Bs) : Got → Bs
  | .good _ t => rs s t
  | .wrong q _ => s.drop q
theorem Res.box {W : World} {p : Nat} {s : Bs} {op : Nat} {A : Nat → Prop} {g : Got} {v : Value} (h : Res W p s op A g v) : Box W p s op g := by
  cases g with
  | good x t => exact h.1
  | wrong q e => exact ⟨h.1, h.2.1, h.2.2.1⟩
theorem Box.next {W W' : World} {p : Nat} {s : Bs} {op : Nat} {g : Got} (h : Box W p s op g) (hb : Below W.heap.size W W') : Box W' p s op g := by
  cases g with
  | good x t => obtain ⟨a, h1, h2, h3, h4⟩ := h; exact ⟨a, h1, h2, h3, h4.next hb⟩
  | wrong q e => exact ⟨h.1, h.2.1, h.2.2.next hb⟩
theorem Box.lt {W : World} {p : Nat} {s : Bs} {op : Nat} {g : Got} (h : Box W p s op g) : p < W.heap.size := by
  cases g with
  | good x t => obtain ⟨a, h1, h2, h3, h4⟩ := h; exact h4.lt
  | wrong q e => exact h.2.2.lt
theorem ps_rest_any (w : World) (p : Nat) (s : Bs) (op : Nat) (g : Got) (hs : s.length ≤ 100000) (h : Box w p s op g) :
    Calls Tryz.prog 30 #[.pointer (some ⟨p, 0, none⟩)] w fun e w' => e = .returned (.string ⟨(remG s g).toArray⟩) ∧ Box w' p s op g ∧ Turn p w w' := by
  cases g with
  | good x t =>
    obtain ⟨a, h1, h2, h3, h4⟩ := h
    refine (ps_rest_ok w p s a op h1 hs h4).mono ?_
    rintro e w' ⟨rfl, hb, ht⟩
    exact ⟨by rw [h3]; rfl, ⟨pa s a, pa_le s a, h2, (rs_pa s h1).trans h3, hb⟩, ht⟩
  | wrong q e =>
    refine (ps_rest_bad w p s q op e h.2.1 hs h.1 h.2.2).mono ?_
    rintro e2 w' ⟨rfl, hb, ht⟩
    exact ⟨rfl, ⟨h.1, h.2.1, hb⟩, ht⟩
def isG (s : Bs) (t : Bs) : Got → Bool
  | .good _ a => Lib.hasPrefix (rs s a) t
  | .wrong _ _ => false
def isN (s : Bs) (t : Bs) : Got → Got
  | .good x a => bif Lib.hasPrefix (rs s a) t then .good x (pa s a + t.length) else .good x a
  | .wrong q e => .wrong q e
theorem ps_is_any (w : World) (p : Nat) (s : Bs) (op : Nat) (g : Got) (t : Bs) (ht : t.length ≤ 100) (hs : s.length ≤ 100000) (h : Box w p s op g) :
    Calls Tryz.prog 59 #[.pointer (some ⟨p, 0, none⟩), .string ⟨t.toArray⟩] w fun e w' => e = .returned (.bool (isG s t g)) ∧ Box w' p s op (isN s t g) ∧ Turn p w w' := by
  cases g with
  | good x a0 =>
    obtain ⟨a, h1, h2, h3, h4⟩ := h
    refine (ps_is_ok w p s a op t h1 hs ht h4).mono ?_
    rintro e w' ⟨rfl, hb, ht'⟩
    have hpa : pa s a = pa s a0 := by unfold pa; rw [h3]
    refine ⟨by rw [h3]; rfl, ?_, ht'⟩
    rw [h3, hpa] at hb
    show Box w' p s op (bif Lib.hasPrefix (rs s a0) t then .good x (pa s a0 + t.length) else .good x a0)
    cases hp : Lib.hasPrefix (rs s a0) t
    · rw [hp] at hb
      exact ⟨pa s a0, pa_le s a0, h2, rs_pa s h2, hb⟩
    · rw [hp] at hb
      have hl := pfx_lt h2 hp
      exact ⟨pa s a0 + t.length, hl, hl, rfl, hb⟩
  | wrong q e =>
    refine (ps_is_bad w p s q op e ⟨t.toArray⟩ h.1 h.2.2).mono ?_
    rintro e2 w' ⟨rfl, hb, ht'⟩
    exact ⟨rfl, ⟨h.1, h.2.1, hb⟩, ht'⟩
def sgn : Nat → Bs
  | 0 => [61, 61]
  | 1 => [33, 61]
  | 2 => [60]
  | 3 => [60, 61]
  | 4 => [62]
  | _ => [62, 61]
def bestI (r : Bs) : Nat → Option Nat
  | 0 => none
  | k + 1 => match bestI r k with
    | none => bif Lib.hasPrefix r (sgn k) then some k else none
    | some b => bif Lib.hasPrefix r (sgn k) && decide ((sgn b).length < (sgn k).length) then some k else some b
theorem bestI_lt (r : Bs) : ∀ k b, bestI r k = some b → b < k ∧ Lib.hasPrefix r (sgn b) = true
  | 0, b, h => by cases h
  | k + 1, b, h => by
    unfold bestI at h
    cases hb : bestI r k with
    | none =>
      rw [hb] at h
      cases hp : Lib.hasPrefix r (sgn k)
      · rw [hp] at h; cases h
      · rw [hp] at h; cases h; exact ⟨Nat.lt_succ_self _, hp⟩
    | some b2 =>
      rw [hb] at h
      have ih := bestI_lt r k b2 hb
      cases hp : Lib.hasPrefix r (sgn k) && decide ((sgn b2).length < (sgn k).length)
      · simp only [hp, cond_false] at h; cases h; exact ⟨by omega, ih.2⟩
      · simp only [hp, cond_true] at h; cases h
        rw [Bool.and_eq_true] at hp
        exact ⟨Nat.lt_succ_self _, hp.1⟩
theorem sgn_len (k : Nat) : (sgn k).length ≤ 2 ∧ 1 ≤ (sgn k).length := by
  unfold sgn; split <;> decide
theorem best_sign (r : Bs) : signAt r = (bestI r 6).map fun b => (b, (sgn b).length) := by
  unfold signAt
  simp only [bestI, sgn]
  cases r with
  | nil => rfl
  | cons c r =>
    have h1 : ∀ a : UInt8, Lib.hasPrefix (c :: r) [a] = (a == c) := fun a => by simp [Lib.hasPrefix, List.isPrefixOf]
    have h2 : ∀ a : UInt8, Lib.hasPrefix (c :: r) [a, 61] = (a == c && Lib.hasPrefix r [61]) := fun a => by simp [Lib.hasPrefix, List.isPrefixOf]
    simp only [h1, h2]
    cases Lib.hasPrefix r [61]
    · simp only [Bool.and_false, cond_false]
      cases e1 : (60 : UInt8) == c
      · cases e2 : (62 : UInt8) == c <;> rfl
      · have : c = 60 := (beq_iff_eq.1 e1).symm
        subst this; rfl
    · simp only [Bool.and_true]
      cases e0 : (61 : UInt8) == c
      · cases e3 : (33 : UInt8) == c
        · cases e1 : (60 : UInt8) == c
          · cases e2 : (62 : UInt8) == c <;> rfl
          · have : c = 60 := (beq_iff_eq.1 e1).symm
            subst this; rfl
        · have : c = 33 := (beq_iff_eq.1 e3).symm
          subst this; rfl
      · have : c = 61 := (beq_iff_eq.1 e0).symm
        subst this; rfl
set_option maxRecDepth 100000 in
theorem ps_signs (w : World) : Calls Tryz.prog 28 #[] w fun e w' => e = .returned (.slice (some ⟨w.heap.size, 0, none⟩) 6 6) ∧ w' = w.alloc (.cells #[.string ⟨#[61, 61]⟩, .string ⟨#[33, 61]⟩, .string ⟨#[60]⟩, .string ⟨#[60, 61]⟩, .string ⟨#[62]⟩, .string ⟨#[62, 61]⟩] 9) := by
  go_enter Tryz.func28, Tryz.ntmps28
  go_wp2_with fail
  go_ret
  exact ⟨rfl, rfl⟩
theorem signs_cell {W : World} {b k : Nat} (hk : k < 6) (h : W.heap[b]? = some (.cells #[.string ⟨#[61, 61]⟩, .string ⟨#[33, 61]⟩, .string ⟨#[60]⟩, .string ⟨#[60, 61]⟩, .string ⟨#[62]⟩, .string ⟨#[62, 61]⟩] 9)) : W.cell? ⟨b, k, none⟩ = some (.string ⟨(sgn k).toArray⟩) := by
  match k, hk with
  | 0, _ => exact cell_of_row _ _ 0 _ _ _ h
  | 1, _ => exact cell_of_row _ _ 1 _ _ _ h
  | 2, _ => exact cell_of_row _ _ 2 _ _ _ h
  | 3, _ => exact cell_of_row _ _ 3 _ _ _ h
  | 4, _ => exact cell_of_row _ _ 4 _ _ _ h
  | 5, _ => exact cell_of_row _ _ 5 _ _ _ h
end Go.Proofs.YtbkhmkpbbggcbaaGreatDoor
