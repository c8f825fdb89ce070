/- The walks of a row where something is wrong, of the row's maker, and of an or. The walks of the row's maker, and of an or. -/
import Derived.Test.YtbkhmkpbbggcbaaGreatDoorKTestW3
namespace Go.Proofs.YtbkhmkpbbggcbaaGreatDoor
open Go.RowKit
set_option linter.unusedVariables false
set_option maxRecDepth 100000 in
set_option maxHeartbeats 4000000 in
theorem ps_row1_bad (w : World) (p b1 b2 b3 b4 : Nat) (s : Bs) (i op : Nat) (bad : Int) (f : FuncId) (fi ca : Array Value) (kind : Int) (sg : UInt8) (K : World → Prop) (hi : i ≤ s.length) (hbad : bad ≠ 0)
    (he : ∀ (vs : Array Value) (w : World), (callFunc f vs).run Tryz.prog w = .ok (.enter f vs) w) (hR : RunsBad f (fi ++ ca) p s K) (hk : ∀ W W', K W → Turn p W W' → K W') (hKw : K w) (hRK : RowK w p b1 b2 b3 b4 (.func (.func f) fi ca) sg kind) (h : PB w p s i op bad) :
    Calls Tryz.prog 58 #[.pointer (some ⟨b1, 0, none⟩), .pointer (some ⟨b2, 0, none⟩), .pointer (some ⟨b3, 0, none⟩), .pointer (some ⟨b4, 0, none⟩)] w fun e w' => ∃ v, e = .returned v ∧ Turn p w w' ∧ Hid (PB w' p s i op bad ∧ TenV v) := by
  have hT0 : Turn p w (w.alloc (.cells #[.int .i64 0, .string ⟨#[]⟩, .int .i64 0, .int .i64 0, .string ⟨#[]⟩, .string ⟨#[]⟩, .string ⟨#[]⟩, .bool false, .bool false, .slice none 0 0] 26)) := Turn.of_below ((Below.refl _ _).alloc (Nat.le_refl _) _)
  have HN0 := Lib.hid (heap_alloc_new w (.cells #[.int .i64 0, .string ⟨#[]⟩, .int .i64 0, .int .i64 0, .string ⟨#[]⟩, .string ⟨#[]⟩, .string ⟨#[]⟩, .bool false, .bool false, .slice none 0 0] 26))
  have HB := Lib.hid (show PB (w.alloc (.cells #[.int .i64 0, .string ⟨#[]⟩, .int .i64 0, .int .i64 0, .string ⟨#[]⟩, .string ⟨#[]⟩, .string ⟨#[]⟩, .bool false, .bool false, .slice none 0 0] 26)) p s i op bad from h.next ((Below.refl _ _).alloc (Nat.le_refl _) _))
  have HR := Lib.hid hR
  have HBAD := Lib.hid hbad
  have HK := Lib.hid (hk _ _ hKw hT0)
  have HRK := Lib.hid (hRK.turn hT0)
  have HPL := Lib.hid h.lt
  obtain ⟨d1, d2, d3, d4, -, -, -, -⟩ := hRK.turn hT0
  have HT0 := Lib.hid hT0
  clear h hR hk hKw hRK hT0 hbad
  go_enter Tryz.func58, Tryz.ntmps58
  go_wp2_with fail
  refine (HR.out _ i op bad hi HBAD.out HK.out HB.out).mono ?_
  rintro e w1 ⟨v, rfl, ht1, hb1, hv1⟩
  obtain ⟨k, t, u, a, n, c, rfl⟩ := hv1
  have hA : Turn p w1 (w1.alloc (.cells (exL k t u (.slice a n c)).toArray 26)) := Turn.of_below ((Below.refl _ _).alloc (Nat.le_refl _) _)
  have HB1 := Lib.hid (show PB (w1.alloc (.cells (exL k t u (.slice a n c)).toArray 26)) p s i op bad from hb1.next ((Below.refl _ _).alloc (Nat.le_refl _) _))
  have HT1 := Lib.hid (HT0.out.trans (ht1.trans hA))
  have HN1 := Lib.hid (show (w1.alloc (.cells (exL k t u (.slice a n c)).toArray 26)).heap[w.heap.size]? = _ from ((ht1.trans hA).block w.heap.size (by rw [World.size_alloc]; omega) (by have := HPL.out; intro e; cases e; omega)).trans HN0.out)
  have HX1 := Lib.hid (heap_alloc_new w1 (.cells (exL k t u (.slice a n c)).toArray 26))
  have HBP := Lib.hid (show some w1.heap.size ≠ some p by have := hb1.lt; intro e; cases e; omega)
  clear d1 d2 d3 d4
  obtain ⟨d1, d2, d3, d4, -, -, -, -⟩ := HRK.out.turn (ht1.trans hA)
  clear ht1 hb1 hA HB HT0
  go_wp2_with fail
  generalize w1.alloc (.cells (exL k t u (.slice a n c)).toArray 26) = W1 at *
  generalize w1.heap.size = b at *
  refine wp_loop_once ?_
  go_wp2_with fail
  refine (ps_is_bad W1 p s i op bad ⟨#[sg]⟩ HBAD.out HB1.out).mono ?_
  rintro e2 w2 ⟨rfl, hb2, ht2⟩
  have HI2 := Lib.hid (show w2.heap[b]? = _ from (ht2.block b (Array.getElem?_eq_some_iff.1 HX1.out).1 HBP.out).trans HX1.out)
  have HN2 := Lib.hid (show w2.heap[w.heap.size]? = _ from (ht2.block w.heap.size (Array.getElem?_eq_some_iff.1 HN1.out).1 (by have := HPL.out; intro e; cases e; omega)).trans HN1.out)
  obtain ⟨c0, c1, c2, c3, c4, c5, c6, c7, c8, c9⟩ := ten_cells HI2.out
  obtain ⟨f0, f1, f2, f3, f4, f5, f6, f7, f8, f9⟩ := ten_frozen HN2.out
  obtain ⟨g0, g1, g2, g3, g4, g5, g6, g7, g8, g9⟩ := ten_live HN2.out
  have h9 := setTen_turn w2 w.heap.size k t u (.slice a n c)
  have HE := Lib.hid (show Turn p w (setTen w2 w.heap.size k t u (.slice a n c)) ∧ PB (setTen w2 w.heap.size k t u (.slice a n c)) p s i op bad from ⟨turn_fresh (HT1.out.trans ht2) h9 (Nat.le_refl _), hb2.turn h9 (by have := HPL.out; omega)⟩)
  have HRW := Lib.hid (setTen_row (k := k) (t := t) (u := u) (kv := .slice a n c) HN2.out)
  clear hb2 ht2 h9
  go_wp2_with fail
  clear c0 c1 c2 c3 c4 c5 c6 c7 c8 c9 f0 f1 f2 f3 f4 f5 f6 f7 f8 f9 g0 g1 g2 g3 g4 g5 g6 g7 g8 g9 d1 d2 d3 d4
  obtain ⟨k0, k1, k2, k3, k4, k5, k6, k7, k8, k9⟩ := ten_cells HRW.out
  refine bodyPost_ret (v := exV k t u (.slice a n c)) ?_ rfl ⟨_, rfl, HE.out.1, Lib.hid ⟨HE.out.2, ⟨k, t, u, a, n, c, rfl⟩⟩⟩
  simp [results, Tryz.f58, go_sem, k0, k1, k2, k3, k4, k5, k6, k7, k8, k9]
theorem runs_row {p b1 b2 b3 b4 : Nat} {s : Bs} {op : Nat} {f : FuncId} {fi ca : Array Value} {one : Nat → Got} {kind : Int} {sg : UInt8} {K : World → Prop} (hs : s.length ≤ 100000)
    (he : ∀ (vs : Array Value) (w : World), (callFunc f vs).run Tryz.prog w = .ok (.enter f vs) w) (hR : Runs f (fi ++ ca) p s op one K) (hk : ∀ W W', K W → Turn p W W' → K W') (hF : FitsF s one) :
    Runs 58 #[.pointer (some ⟨b1, 0, none⟩), .pointer (some ⟨b2, 0, none⟩), .pointer (some ⟨b3, 0, none⟩), .pointer (some ⟨b4, 0, none⟩)] p s op (rowG one kind sg s) (fun W => K W ∧ RowK W p b1 b2 b3 b4 (.func (.func f) fi ca) sg kind) := fun w i hi hK h =>
  (ps_row1 w p b1 b2 b3 b4 s i op f fi ca one kind sg K hi hs he hR hk hF hK.1 hK.2 h).mono (by rintro e w' ⟨v, h1, h2, h3⟩; exact ⟨v, h1, h2, h3.out⟩)
theorem runsBad_row {p b1 b2 b3 b4 : Nat} {s : Bs} {f : FuncId} {fi ca : Array Value} {kind : Int} {sg : UInt8} {K : World → Prop}
    (he : ∀ (vs : Array Value) (w : World), (callFunc f vs).run Tryz.prog w = .ok (.enter f vs) w) (hR : RunsBad f (fi ++ ca) p s K) (hk : ∀ W W', K W → Turn p W W' → K W') :
    RunsBad 58 #[.pointer (some ⟨b1, 0, none⟩), .pointer (some ⟨b2, 0, none⟩), .pointer (some ⟨b3, 0, none⟩), .pointer (some ⟨b4, 0, none⟩)] p s (fun W => K W ∧ RowK W p b1 b2 b3 b4 (.func (.func f) fi ca) sg kind) := fun w i op bad hi hb hK h =>
  (ps_row1_bad w p b1 b2 b3 b4 s i op bad f fi ca kind sg K hi hb he hR hk hK.1 hK.2 h).mono (by rintro e w' ⟨v, h1, h2, h3⟩; exact ⟨v, h1, h2, h3.out.1, h3.out.2⟩)
end Go.Proofs.YtbkhmkpbbggcbaaGreatDoor
namespace Go.Proofs.YtbkhmkpbbggcbaaGreatDoor
open Go.RowKit
set_option linter.unusedVariables false
theorem enters_not (vs : Array Value) (w : World) : (callFunc 44 vs).run Tryz.prog w = .ok (.enter 44 vs) w := enters_of Tryz.func44 (by kernel_rfl) rfl vs w
theorem enters_row1 (vs : Array Value) (w : World) : (callFunc 58 vs).run Tryz.prog w = .ok (.enter 58 vs) w := enters_of Tryz.func58 (by kernel_rfl) rfl vs w
abbrev rowV (b1 b2 b3 b4 : Nat) : Value := .func (.func 58) #[] #[.pointer (some ⟨b1, 0, none⟩), .pointer (some ⟨b2, 0, none⟩), .pointer (some ⟨b3, 0, none⟩), .pointer (some ⟨b4, 0, none⟩)]
theorem row_new (w : World) (p : Nat) (kind : Int) (sg : UInt8) (fv : Value) (hp : p < w.heap.size) (t1 t2 t3 t4 : TypeId) :
    Below w.heap.size w ((((w.alloc (.cells #[.pointer (some ⟨p, 0, none⟩)] t1)).alloc (.cells #[.int .i64 kind] t2)).alloc (.cells #[.string ⟨#[sg]⟩] t3)).alloc (.cells #[fv] t4)) ∧
    RowK ((((w.alloc (.cells #[.pointer (some ⟨p, 0, none⟩)] t1)).alloc (.cells #[.int .i64 kind] t2)).alloc (.cells #[.string ⟨#[sg]⟩] t3)).alloc (.cells #[fv] t4)) p (w.heap.size + 1 + 1 + 1) w.heap.size (w.heap.size + 1 + 1) (w.heap.size + 1) fv sg kind := by
  have n1 := heap_alloc_new w (.cells #[.pointer (some ⟨p, 0, none⟩)] t1)
  have n2 := heap_alloc_new (w.alloc (.cells #[.pointer (some ⟨p, 0, none⟩)] t1)) (.cells #[.int .i64 kind] t2)
  have n3 := heap_alloc_new ((w.alloc (.cells #[.pointer (some ⟨p, 0, none⟩)] t1)).alloc (.cells #[.int .i64 kind] t2)) (.cells #[.string ⟨#[sg]⟩] t3)
  have n4 := heap_alloc_new (((w.alloc (.cells #[.pointer (some ⟨p, 0, none⟩)] t1)).alloc (.cells #[.int .i64 kind] t2)).alloc (.cells #[.string ⟨#[sg]⟩] t3)) (.cells #[fv] t4)
  simp only [World.size_alloc] at n2 n3 n4
  have b1 := (Below.refl w.heap.size w).alloc (Nat.le_refl _) (.cells #[.pointer (some ⟨p, 0, none⟩)] t1)
  have b2 := b1.alloc b1.size (.cells #[.int .i64 kind] t2)
  have b3 := b2.alloc b2.size (.cells #[.string ⟨#[sg]⟩] t3)
  have b4 := b3.alloc b3.size (.cells #[fv] t4)
  exact ⟨b4, ⟨cell_of_row _ _ 0 _ _ _ n4, cell_of_row _ _ 0 _ _ _ (row_alloc (row_alloc (row_alloc n1 _) _) _), cell_of_row _ _ 0 _ _ _ (row_alloc n3 _), cell_of_row _ _ 0 _ _ _ (row_alloc (row_alloc n2 _) _), by omega, by omega, by omega, by omega⟩⟩
set_option maxRecDepth 100000 in
theorem ps_row (w : World) (p : Nat) (kind : Int) (sg : UInt8) (fn : Fn) (fi ca : Array Value) (hp : p < w.heap.size) :
    Calls Tryz.prog 43 #[.pointer (some ⟨p, 0, none⟩), .int .i64 kind, .string ⟨#[sg]⟩, .func fn fi ca] w fun e w' => ∃ b1 b2 b3 b4, e = .returned (rowV b1 b2 b3 b4) ∧ Below w.heap.size w w' ∧ RowK w' p b1 b2 b3 b4 (.func fn fi ca) sg kind := by
  have HF := Lib.hid (row_new w p kind sg (.func fn fi ca) hp 62 3 9 65)
  go_enter Tryz.func43, Tryz.ntmps43
  go_wp2_with fail
  go_ret
  exact ⟨_, _, _, _, rfl, HF.out.1, HF.out.2⟩
theorem runs_or_row {p : Nat} {s : Bs} {op k : Nat} {a1 a2 a3 a4 b1 b2 b3 b4 : Nat} (hs : s.length ≤ 100000) (hN : Runs 44 #[.pointer (some ⟨p, 0, none⟩)] p s op (notK s k) (GP p)) :
    Runs 58 #[.pointer (some ⟨b1, 0, none⟩), .pointer (some ⟨b2, 0, none⟩), .pointer (some ⟨b3, 0, none⟩), .pointer (some ⟨b4, 0, none⟩)] p s op (orK s k)
      (fun W => (GP p W ∧ RowK W p a1 a2 a3 a4 (.func (.func 44) #[.pointer (some ⟨p, 0, none⟩)] #[]) 38 2) ∧ RowK W p b1 b2 b3 b4 (rowV a1 a2 a3 a4) 124 1) := by
  have h1 := runs_row (b1 := a1) (b2 := a2) (b3 := a3) (b4 := a4) (fi := #[.pointer (some ⟨p, 0, none⟩)]) (ca := #[]) (kind := 2) (sg := 38) hs enters_not hN (fun _ _ h ht => h.turn ht) (lev_fits s k).2
  have h2 := runs_row (b1 := b1) (b2 := b2) (b3 := b3) (b4 := b4) (fi := #[]) (ca := #[.pointer (some ⟨a1, 0, none⟩), .pointer (some ⟨a2, 0, none⟩), .pointer (some ⟨a3, 0, none⟩), .pointer (some ⟨a4, 0, none⟩)]) (kind := 1) (sg := 124) hs enters_row1 h1 (fun W W' h ht => ⟨h.1.turn ht, h.2.turn ht⟩) (and_fits s k)
  intro w i hi hK h
  rw [orK_eq]
  exact h2 w i hi hK h
theorem runsBad_or_row {p : Nat} {s : Bs} {a1 a2 a3 a4 b1 b2 b3 b4 : Nat} (hN : RunsBad 44 #[.pointer (some ⟨p, 0, none⟩)] p s (GP p)) :
    RunsBad 58 #[.pointer (some ⟨b1, 0, none⟩), .pointer (some ⟨b2, 0, none⟩), .pointer (some ⟨b3, 0, none⟩), .pointer (some ⟨b4, 0, none⟩)] p s
      (fun W => (GP p W ∧ RowK W p a1 a2 a3 a4 (.func (.func 44) #[.pointer (some ⟨p, 0, none⟩)] #[]) 38 2) ∧ RowK W p b1 b2 b3 b4 (rowV a1 a2 a3 a4) 124 1) := by
  have h1 := runsBad_row (b1 := a1) (b2 := a2) (b3 := a3) (b4 := a4) (fi := #[.pointer (some ⟨p, 0, none⟩)]) (ca := #[]) (kind := 2) (sg := 38) enters_not hN (fun _ _ h ht => h.turn ht)
  exact runsBad_row (b1 := b1) (b2 := b2) (b3 := b3) (b4 := b4) (fi := #[]) (ca := #[.pointer (some ⟨a1, 0, none⟩), .pointer (some ⟨a2, 0, none⟩), .pointer (some ⟨a3, 0, none⟩), .pointer (some ⟨a4, 0, none⟩)]) (kind := 1) (sg := 124) enters_row1 h1 (fun W W' h ht => ⟨h.1.turn ht, h.2.turn ht⟩)
theorem put_end {w w3 : World} {p op N : Nat} {s : Bs} {F : Got} {k : Int} {t : Bs} {u : UseI} {a : Option Addr} {n c : Nat} (hT : Turn p w w3) (hpl : p < w.heap.size) (hn : w.heap.size < N) (hr : Res w3 p s op (From N) F (exV k t u (.slice a n c))) :
    Turn p w (setTen w3 w.heap.size k t u (.slice a n c)) ∧ Res (setTen w3 w.heap.size k t u (.slice a n c)) p s op (From w.heap.size) F (exV k t u (.slice a n c)) := by
  have h9 := setTen_turn w3 w.heap.size k t u (.slice a n c)
  exact ⟨turn_fresh hT h9 (Nat.le_refl _), (hr.turn h9 (by omega) (fun h => by have : N ≤ w.heap.size := h; omega)).weak (fun z _ h => by have : N ≤ z := h; show w.heap.size ≤ z; omega)⟩
theorem put_bad {w w3 : World} {p i op : Nat} {s : Bs} {bad k : Int} {t : Bs} {u : UseI} {a : Option Addr} {n c : Nat} (hT : Turn p w w3) (hpl : p < w.heap.size) (hr : PB w3 p s i op bad) :
    Turn p w (setTen w3 w.heap.size k t u (.slice a n c)) ∧ PB (setTen w3 w.heap.size k t u (.slice a n c)) p s i op bad ∧ TenV (exV k t u (.slice a n c)) := by
  have h9 := setTen_turn w3 w.heap.size k t u (.slice a n c)
  exact ⟨turn_fresh hT h9 (Nat.le_refl _), hr.turn h9 (by omega), ⟨k, t, u, a, n, c, rfl⟩⟩
theorem first_row {w W0 w3 : World} {p : Nat} {o : Obj} (hN : W0.heap[w.heap.size]? = some o) (ht : Turn p W0 w3) (hpl : p < w.heap.size) : w3.heap[w.heap.size]? = some o :=
  (ht.block w.heap.size (Array.getElem?_eq_some_iff.1 hN).1 (by intro e; cases e; omega)).trans hN
set_option maxRecDepth 100000 in
theorem ps_or (w : World) (p : Nat) (s : Bs) (i op k : Nat) (hi : i ≤ s.length) (hs : s.length ≤ 100000) (hN : Runs 44 #[.pointer (some ⟨p, 0, none⟩)] p s op (notK s k) (GP p)) (hgp : GP p w) (h : PB w p s i op 0) :
    Calls Tryz.prog 29 #[.pointer (some ⟨p, 0, none⟩)] w fun e w' => ∃ v, e = .returned v ∧ Turn p w w' ∧ Hid (Res w' p s op (From w.heap.size) (orK s k i) v) := by
  have HPL := Lib.hid h.lt
  have HB := Lib.hid (show PB (w.alloc (.cells #[.int .i64 0, .string ⟨#[]⟩, .int .i64 0, .int .i64 0, .string ⟨#[]⟩, .string ⟨#[]⟩, .string ⟨#[]⟩, .bool false, .bool false, .slice none 0 0] 26)) p s i op 0 from h.next ((Below.refl _ _).alloc (Nat.le_refl _) _))
  have HT0 := Lib.hid (show Below w.heap.size w (w.alloc (.cells #[.int .i64 0, .string ⟨#[]⟩, .int .i64 0, .int .i64 0, .string ⟨#[]⟩, .string ⟨#[]⟩, .string ⟨#[]⟩, .bool false, .bool false, .slice none 0 0] 26)) from (Below.refl _ _).alloc (Nat.le_refl _) _)
  have HN0 := Lib.hid (heap_alloc_new w (.cells #[.int .i64 0, .string ⟨#[]⟩, .int .i64 0, .int .i64 0, .string ⟨#[]⟩, .string ⟨#[]⟩, .string ⟨#[]⟩, .bool false, .bool false, .slice none 0 0] 26))
  have HSZ := Lib.hid (show (w.alloc (.cells #[.int .i64 0, .string ⟨#[]⟩, .int .i64 0, .int .i64 0, .string ⟨#[]⟩, .string ⟨#[]⟩, .string ⟨#[]⟩, .bool false, .bool false, .slice none 0 0] 26)).heap.size = w.heap.size + 1 by rw [World.size_alloc])
  have HNN := Lib.hid hN
  have hmf : ∀ (fn : Fn) (first cap : Array Value) (w : World), (Instr.makeFunc fn first cap).run Tryz.prog w = .ok (.func fn first cap) w := fun _ _ _ _ => rfl
  clear h hN
  go_enter Tryz.func29, Tryz.ntmps29
  go_wp2_with fail
  generalize w.alloc (.cells #[.int .i64 0, .string ⟨#[]⟩, .int .i64 0, .int .i64 0, .string ⟨#[]⟩, .string ⟨#[]⟩, .string ⟨#[]⟩, .bool false, .bool false, .slice none 0 0] 26) = W0 at *
  refine (ps_row W0 p 2 38 (.func 44) #[.pointer (some ⟨p, 0, none⟩)] #[] HB.out.lt).mono ?_
  rintro e w1 ⟨a1, a2, a3, a4, rfl, hb1, hk1⟩
  have HB1 := Lib.hid hb1
  have HK1 := Lib.hid hk1
  clear hb1 hk1
  go_wp2_with fail
  refine (ps_row w1 p 1 124 (.func 58) #[] _ (Nat.lt_of_lt_of_le HB.out.lt HB1.out.size)).mono ?_
  rintro e w2 ⟨b1, b2, b3, b4, rfl, hb2, hk2⟩
  have HT2 := Lib.hid (HB1.out.trans (hb2.mono HB1.out.size))
  have HK2 := Lib.hid hk2
  have HK1' := Lib.hid (HK1.out.turn (Turn.of_below hb2))
  have HPB := Lib.hid (HB.out.next HT2.out)
  have HGP := Lib.hid ((hgp.turn (Turn.of_below HT0.out)).turn (Turn.of_below HT2.out))
  clear hb2 hk2
  go_wp2_with fail
  refine (runs_or_row (a1 := a1) (a2 := a2) (a3 := a3) (a4 := a4) hs HNN.out w2 i hi ⟨⟨HGP.out, HK1'.out⟩, HK2.out⟩ HPB.out).mono ?_
  rintro e w3 ⟨v, rfl, ht3, hr3⟩
  obtain ⟨k9, t9, u9, a9, n9, c9, rfl⟩ := hr3.ten
  have HT3 := Lib.hid ((Turn.of_below HT2.out).trans ht3)
  have HN3 := Lib.hid (first_row HN0.out HT3.out HPL.out)
  have HE := Lib.hid (put_end ((Turn.of_below HT0.out).trans HT3.out) HPL.out (by have h1 := HSZ.out; have h2 := HT2.out.size; omega : w.heap.size < w2.heap.size) hr3)
  have HRW := Lib.hid (setTen_row (k := k9) (t := t9) (u := u9) (kv := .slice a9 n9 c9) HN3.out)
  obtain ⟨f0, f1, f2, f3, f4, f5, f6, f7, f8, f9⟩ := ten_frozen HN3.out
  obtain ⟨g0, g1, g2, g3, g4, g5, g6, g7, g8, g9⟩ := ten_live HN3.out
  clear ht3 hr3
  go_wp2_with fail
  clear f0 f1 f2 f3 f4 f5 f6 f7 f8 f9 g0 g1 g2 g3 g4 g5 g6 g7 g8 g9
  obtain ⟨y0, y1, y2, y3, y4, y5, y6, y7, y8, y9⟩ := ten_cells HRW.out
  refine bodyPost_ret (v := exV k9 t9 u9 (.slice a9 n9 c9)) ?_ rfl ⟨_, rfl, HE.out.1, Lib.hid HE.out.2⟩
  simp [results, Tryz.f29, go_sem, y0, y1, y2, y3, y4, y5, y6, y7, y8, y9]
set_option maxRecDepth 100000 in
theorem ps_or_bad (w : World) (p : Nat) (s : Bs) (i op : Nat) (bad : Int) (hi : i ≤ s.length) (hbad : bad ≠ 0) (hN : RunsBad 44 #[.pointer (some ⟨p, 0, none⟩)] p s (GP p)) (hgp : GP p w) (h : PB w p s i op bad) :
    Calls Tryz.prog 29 #[.pointer (some ⟨p, 0, none⟩)] w fun e w' => ∃ v, e = .returned v ∧ Turn p w w' ∧ Hid (PB w' p s i op bad ∧ TenV v) := by
  have HPL := Lib.hid h.lt
  have HB := Lib.hid (show PB (w.alloc (.cells #[.int .i64 0, .string ⟨#[]⟩, .int .i64 0, .int .i64 0, .string ⟨#[]⟩, .string ⟨#[]⟩, .string ⟨#[]⟩, .bool false, .bool false, .slice none 0 0] 26)) p s i op bad from h.next ((Below.refl _ _).alloc (Nat.le_refl _) _))
  have HT0 := Lib.hid (show Below w.heap.size w (w.alloc (.cells #[.int .i64 0, .string ⟨#[]⟩, .int .i64 0, .int .i64 0, .string ⟨#[]⟩, .string ⟨#[]⟩, .string ⟨#[]⟩, .bool false, .bool false, .slice none 0 0] 26)) from (Below.refl _ _).alloc (Nat.le_refl _) _)
  have HN0 := Lib.hid (heap_alloc_new w (.cells #[.int .i64 0, .string ⟨#[]⟩, .int .i64 0, .int .i64 0, .string ⟨#[]⟩, .string ⟨#[]⟩, .string ⟨#[]⟩, .bool false, .bool false, .slice none 0 0] 26))
  have HSZ := Lib.hid (show (w.alloc (.cells #[.int .i64 0, .string ⟨#[]⟩, .int .i64 0, .int .i64 0, .string ⟨#[]⟩, .string ⟨#[]⟩, .string ⟨#[]⟩, .bool false, .bool false, .slice none 0 0] 26)).heap.size = w.heap.size + 1 by rw [World.size_alloc])
  have HNN := Lib.hid hN
  have hmf : ∀ (fn : Fn) (first cap : Array Value) (w : World), (Instr.makeFunc fn first cap).run Tryz.prog w = .ok (.func fn first cap) w := fun _ _ _ _ => rfl
  have HBAD := Lib.hid hbad
  clear h hN hbad
  go_enter Tryz.func29, Tryz.ntmps29
  go_wp2_with fail
  generalize w.alloc (.cells #[.int .i64 0, .string ⟨#[]⟩, .int .i64 0, .int .i64 0, .string ⟨#[]⟩, .string ⟨#[]⟩, .string ⟨#[]⟩, .bool false, .bool false, .slice none 0 0] 26) = W0 at *
  refine (ps_row W0 p 2 38 (.func 44) #[.pointer (some ⟨p, 0, none⟩)] #[] HB.out.lt).mono ?_
  rintro e w1 ⟨a1, a2, a3, a4, rfl, hb1, hk1⟩
  have HB1 := Lib.hid hb1
  have HK1 := Lib.hid hk1
  clear hb1 hk1
  go_wp2_with fail
  refine (ps_row w1 p 1 124 (.func 58) #[] _ (Nat.lt_of_lt_of_le HB.out.lt HB1.out.size)).mono ?_
  rintro e w2 ⟨b1, b2, b3, b4, rfl, hb2, hk2⟩
  have HT2 := Lib.hid (HB1.out.trans (hb2.mono HB1.out.size))
  have HK2 := Lib.hid hk2
  have HK1' := Lib.hid (HK1.out.turn (Turn.of_below hb2))
  have HPB := Lib.hid (HB.out.next HT2.out)
  have HGP := Lib.hid ((hgp.turn (Turn.of_below HT0.out)).turn (Turn.of_below HT2.out))
  clear hb2 hk2
  go_wp2_with fail
  refine (runsBad_or_row (a1 := a1) (a2 := a2) (a3 := a3) (a4 := a4) HNN.out w2 i op bad hi HBAD.out ⟨⟨HGP.out, HK1'.out⟩, HK2.out⟩ HPB.out).mono ?_
  rintro e w3 ⟨v, rfl, ht3, hp3, hv3⟩
  obtain ⟨k9, t9, u9, a9, n9, c9, rfl⟩ := hv3
  have HT3 := Lib.hid ((Turn.of_below HT2.out).trans ht3)
  have HN3 := Lib.hid (first_row HN0.out HT3.out HPL.out)
  have HE := Lib.hid (put_bad (k := k9) (t := t9) (u := u9) (a := a9) (n := n9) (c := c9) ((Turn.of_below HT0.out).trans HT3.out) HPL.out hp3)
  have HRW := Lib.hid (setTen_row (k := k9) (t := t9) (u := u9) (kv := .slice a9 n9 c9) HN3.out)
  obtain ⟨f0, f1, f2, f3, f4, f5, f6, f7, f8, f9⟩ := ten_frozen HN3.out
  obtain ⟨g0, g1, g2, g3, g4, g5, g6, g7, g8, g9⟩ := ten_live HN3.out
  clear ht3 hp3
  go_wp2_with fail
  clear f0 f1 f2 f3 f4 f5 f6 f7 f8 f9 g0 g1 g2 g3 g4 g5 g6 g7 g8 g9
  obtain ⟨y0, y1, y2, y3, y4, y5, y6, y7, y8, y9⟩ := ten_cells HRW.out
  refine bodyPost_ret (v := exV k9 t9 u9 (.slice a9 n9 c9)) ?_ rfl ⟨_, rfl, HE.out.1, Lib.hid HE.out.2⟩
  simp [results, Tryz.f29, go_sem, y0, y1, y2, y3, y4, y5, y6, y7, y8, y9]
end Go.Proofs.YtbkhmkpbbggcbaaGreatDoor
