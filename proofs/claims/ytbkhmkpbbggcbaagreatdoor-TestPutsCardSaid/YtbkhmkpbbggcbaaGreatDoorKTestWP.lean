/- The parser's rules joined: what each comes to, at any depth. The walk of the tests' Parse: a text's tree, or what is wrong and where. -/
import Derived.Test.YtbkhmkpbbggcbaaGreatDoorKTestWD
import Derived.Test.YtbkhmkpbbggcbaaGreatDoorKTestWV
namespace Go.Proofs.YtbkhmkpbbggcbaaGreatDoor
open Go.RowKit
set_option linter.unusedVariables false
abbrev PV (p : Nat) : Array Value := #[.pointer (some ⟨p, 0, none⟩)]
section
variable {p op k : Nat} {s : Bs}
theorem runsBad_cmp (hs : s.length ≤ 100000) : RunsBad 62 (PV p) p s (GP p) := fun w i op bad hi hb hgp h => by
  refine (ps_cmp w p s op 0 (.wrong i bad) hs h.lt hgp (fun W hw => ?_) (fun x t e => by cases e)).mono ?_
  · refine (ps_op_bad W p s i op bad hi hs hb (h.next hw)).mono ?_
    rintro e w' ⟨v, h1, h2, h3⟩
    exact ⟨v, h1, h2, hb, hi, h3.out.1, h3.out.2⟩
  · rintro e w' ⟨v, h1, h2, h3⟩
    obtain ⟨_, _, h4, h5⟩ : Res w' p s op (From w.heap.size) (.wrong i bad) v := h3.out
    exact ⟨v, h1, h2, h4, h5⟩
theorem runsBad_not (hs : s.length ≤ 100000) : RunsBad 44 (PV p) p s (GP p) := fun w i op bad hi hb hgp h =>
  (ps_not_bad w p s i op bad hi hs hb (runsBad_cmp hs) hgp h).mono (by rintro e w' ⟨v, h1, h2, h3⟩; exact ⟨v, h1, h2, h3.out.1, h3.out.2⟩)
theorem runsBad_or (hs : s.length ≤ 100000) : RunsBad 29 (PV p) p s (GP p) := fun w i op bad hi hb hgp h =>
  (ps_or_bad w p s i op bad hi hb (runsBad_not hs) hgp h).mono (by rintro e w' ⟨v, h1, h2, h3⟩; exact ⟨v, h1, h2, h3.out.1, h3.out.2⟩)
theorem runs_op (hs : s.length ≤ 100000) (hbr : ∀ (w : World) (i : Nat) (r : Bs), i ≤ s.length → rs s i = 40 :: r → GP p w → PB w p s i op 0 →
      Calls Tryz.prog 79 (PV p) w fun e w' => ∃ v, e = .returned v ∧ Turn p w w' ∧ Hid (Res w' p s op (From w.heap.size) (opK s k i) v)) :
    Runs 79 (PV p) p s op (opK s k) (GP p) := by
  intro w i hi hgp h
  have key : Calls Tryz.prog 79 (PV p) w fun e w' => ∃ v, e = .returned v ∧ Turn p w w' ∧ Hid (Res w' p s op (From w.heap.size) (opK s k i) v) := by
    cases hr : rs s i with
    | nil => exact ps_op_none w p s i op k hi hs hr h
    | cons c r =>
      cases h40 : c == 40
      · cases h39 : c == 39
        · cases hd : dig c
          · exact ps_op_var w p s i op k c r hi hs hr hd h40 h39 hgp h
          · exact ps_op_num w p s i op k c r hi hs hr hd hgp h
        · obtain rfl : c = 39 := eq_of_beq h39
          exact ps_op_qu w p s i op k r hi hs hr hgp h
      · obtain rfl : c = 40 := eq_of_beq h40
        exact hbr w i r hi hr hgp h
  exact key.mono (by rintro e w' ⟨v, h1, h2, h3⟩; exact ⟨v, h1, h2, h3.out⟩)
theorem runs_cmp (hs : s.length ≤ 100000) (hO : Runs 79 (PV p) p s op (opK s k) (GP p)) : Runs 62 (PV p) p s op (cmpK s k) (GP p) := by
  intro w i hi hgp h
  have e : cmpK s k i = cmpOnG s k (opK s k i) := by unfold cmpK cmpG opK cmpOnG; cases opG (dOrK s k) s i <;> rfl
  rw [e]
  refine (ps_cmp w p s op k (opK s k i) hs h.lt hgp (fun W hb => hO W i hi (hgp.turn (Turn.of_below hb)) (h.next hb)) (fun x t _ => hO)).mono ?_
  rintro e w' ⟨v, h1, h2, h3⟩
  exact ⟨v, h1, h2, h3.out⟩
theorem runs_or (hs : s.length ≤ 100000) (hN : Runs 44 (PV p) p s op (notK s k) (GP p)) : Runs 29 (PV p) p s op (orK s k) (GP p) := by
  intro w i hi hgp h
  refine (ps_or w p s i op k hi hs hN hgp h).mono ?_
  rintro e w' ⟨v, h1, h2, h3⟩
  exact ⟨v, h1, h2, h3.out⟩
end
theorem levels (p : Nat) (s : Bs) (hs : s.length ≤ 100000) : ∀ (k op : Nat), op + k = 16 → Runs 44 (PV p) p s op (notK s k) (GP p) ∧ Runs 29 (PV p) p s op (orK s k) (GP p)
  | 0, op, h => by
    obtain rfl : op = 16 := by omega
    have o := runs_op (p := p) (op := 16) (k := 0) hs (fun w i r hi hr hgp h => ps_op_br0 w p s i 16 r hi hs rfl hr (runsBad_or hs) hgp h)
    have c := runs_cmp hs o
    have n : Runs 44 (PV p) p s 16 (notK s 0) (GP p) := by
      intro w i hi hgp h
      refine (ps_not0 w p s i 16 hi hs rfl c (runsBad_not hs) hgp h).mono ?_
      rintro e w' ⟨v, h1, h2, h3⟩
      exact ⟨v, h1, h2, h3.out⟩
    exact ⟨n, runs_or hs n⟩
  | k + 1, op, h => by
    obtain ⟨ihn, iho⟩ := levels p s hs k (op + 1) (by omega)
    have o := runs_op (p := p) (op := op) (k := k + 1) hs (fun w i r hi hr hgp h' => ps_op_br w p s i op k r hi hs h hr iho hgp h')
    have c := runs_cmp hs o
    have n : Runs 44 (PV p) p s op (notK s (k + 1)) (GP p) := by
      intro w i hi hgp h'
      refine (ps_not w p s i op k hi hs h c ihn hgp h').mono ?_
      rintro e w' ⟨v, h1, h2, h3⟩
      exact ⟨v, h1, h2, h3.out⟩
    exact ⟨n, runs_or hs n⟩
end Go.Proofs.YtbkhmkpbbggcbaaGreatDoor
namespace Go.Proofs.YtbkhmkpbbggcbaaGreatDoor
open Go.RowKit
set_option linter.unusedVariables false
theorem rs_nil_iff {s : Bs} {t : Nat} (ht : t ≤ s.length) : (rs s t = [] → pa s t = s.length) ∧ (rs s t ≠ [] → pa s t ≠ s.length) := by
  have h1 := rs_len s ht
  have h2 := pa_le s t
  constructor
  · intro h; rw [h] at h1; simp only [List.length_nil] at h1; omega
  · intro h; cases hr : rs s t with
    | nil => exact absurd hr h
    | cons c r => rw [hr, List.length_cons] at h1; omega
theorem testB_wrong {s : Bs} {q : Nat} {e : Int} (h : orK s 16 0 = .wrong q e) : testB s = (noEx, q, e) := by unfold testB; rw [h]
theorem testB_end {s : Bs} {x : Ex} {t : Nat} (h : orK s 16 0 = .good x t) (hp : pa s t = s.length) : testB s = (x, 0, 0) := by
  unfold testB; rw [h]
  show (bif decide (pa s t = s.length) then (x, 0, 0) else (noEx, pa s t, 15)) = _
  rw [decide_eq_true hp]; rfl
theorem testB_more {s : Bs} {x : Ex} {t : Nat} (h : orK s 16 0 = .good x t) (hp : pa s t ≠ s.length) : testB s = (noEx, pa s t, 15) := by
  unfold testB; rw [h]
  show (bif decide (pa s t = s.length) then (x, 0, 0) else (noEx, pa s t, 15)) = _
  rw [decide_eq_false hp]; rfl
theorem drew_row {W : World} {b : Nat} {o : Obj} (h : W.heap[b]? = some o) : W.drew.heap[b]? = some o := h
theorem below_drewn {n : Nat} {w W : World} (h : Below n w W) : Below n w W.drew := ⟨h.os, h.tape, h.output, h.size, h.block⟩
theorem turn_new {w W W' : World} {p : Nat} (h : Below w.heap.size w W) (ht : Turn p W W') (hp : w.heap.size ≤ p) : Below w.heap.size w W' := h.trans (ht.below hp h.size)
theorem results_ten3 {fn : Func} {W : World} {tmps : Array Value} {b slot s2 s3 : Nat} {v0 v1 v2 v3 v4 v5 v6 v7 v8 v9 x y : Value} (h : fn.results = #[.cell slot 26, .tmp s2, .tmp s3]) (ht : tmps.getD slot undef = .pointer (some ⟨b, 0, none⟩)) (hx : tmps.getD s2 undef = x) (hy : tmps.getD s3 undef = y) (hW : W.heap[b]? = some (.cells #[v0, v1, v2, v3, v4, v5, v6, v7, v8, v9] 26)) :
    (results fn tmps).run Tryz.prog W = .ok (.tuple #[.agg #[v0, v1, v2, v3, v4, v5, v6, v7, v8, v9], x, y]) W := by
  obtain ⟨y0, y1, y2, y3, y4, y5, y6, y7, y8, y9⟩ := ten_live hW
  have ht2 : tmps[slot]?.getD undef = .pointer (some ⟨b, 0, none⟩) := by rw [← ht]; simp
  have hx2 : tmps[s2]?.getD undef = x := by rw [← hx]; simp
  have hy2 : tmps[s3]?.getD undef = y := by rw [← hy]; simp
  simp [results, h, go_sem, ht2, hx2, hy2, y0, y1, y2, y3, y4, y5, y6, y7, y8, y9]
set_option maxRecDepth 100000 in
set_option maxHeartbeats 4000000 in
theorem test_Parse (w : World) (s : Bs) (hs : s.length ≤ 100000) (hG : Good w) :
    Calls Tryz.prog 15 #[.string ⟨s.toArray⟩] w fun e w' => ∃ v, e = .returned (.tuple #[v, .int .i64 ((testB s).2.1 : Int), .int .i64 (testB s).2.2]) ∧ Below w.heap.size w w' ∧ Hid (ExAt (From w.heap.size) w' (testB s).1 v) := by
  have HT := Lib.hid (two_new w (.cells #[.int .i64 0, .string ⟨#[]⟩, .int .i64 0, .int .i64 0, .string ⟨#[]⟩, .string ⟨#[]⟩, .string ⟨#[]⟩, .bool false, .bool false, .slice none 0 0] 26) (.cells #[.string ⟨s.toArray⟩, .int .i64 0, .int .i64 0, .int .i64 0] 64))
  have HS0 := Lib.hid (show ((w.alloc (.cells #[.int .i64 0, .string ⟨#[]⟩, .int .i64 0, .int .i64 0, .string ⟨#[]⟩, .string ⟨#[]⟩, .string ⟨#[]⟩, .bool false, .bool false, .slice none 0 0] 26)).alloc (.cells #[.string ⟨s.toArray⟩, .int .i64 0, .int .i64 0, .int .i64 0] 64)).heap.size = w.heap.size + 2 by rw [World.size_alloc, World.size_alloc])
  go_enter Tryz.func15, Tryz.ntmps15
  go_wp2_with fail
  generalize (w.alloc (.cells #[.int .i64 0, .string ⟨#[]⟩, .int .i64 0, .int .i64 0, .string ⟨#[]⟩, .string ⟨#[]⟩, .string ⟨#[]⟩, .bool false, .bool false, .slice none 0 0] 26)).alloc (.cells #[.string ⟨s.toArray⟩, .int .i64 0, .int .i64 0, .int .i64 0] 64) = W0 at *
  have HB0 := Lib.hid HT.out.below
  have HN0 := Lib.hid HT.out.b1
  have HP0 := Lib.hid (show PB W0 (w.heap.size + 1) s 0 0 0 from HT.out.b2)
  have HGP := Lib.hid (show GP (w.heap.size + 1) W0 from ⟨hG.next HB0.out, by have := hG.lt; omega⟩)
  clear HT
  refine ((levels (w.heap.size + 1) s hs 16 0 rfl).2 W0 0 (Nat.zero_le _) HGP.out HP0.out).mono ?_
  rintro e w1 ⟨v, rfl, ht1, hr1⟩
  obtain ⟨k, t, u, a, n, c, rfl⟩ := hr1.ten
  obtain ⟨p, hp⟩ : ∃ p, w.heap.size + 1 = p := ⟨_, rfl⟩
  rw [hp] at ht1 hr1
  rw [hp]
  have HPN := Lib.hid hp
  have HT1 := Lib.hid ht1
  have HR1 := Lib.hid hr1
  have HN1 := Lib.hid (show w1.heap[w.heap.size]? = _ from (ht1.block w.heap.size (by have := HS0.out; omega) (by intro e; cases e; omega)).trans HN0.out)
  have h9 := setTen_turn w1 w.heap.size k t u (.slice a n c)
  have HT2 := Lib.hid (show Below w.heap.size w (setTen w1 w.heap.size k t u (.slice a n c)) from turn_new (turn_new HB0.out ht1 (by omega)) h9 (Nat.le_refl _))
  have HR2 := Lib.hid (show Res (setTen w1 w.heap.size k t u (.slice a n c)) p s 0 (From W0.heap.size) (orK s 16 0) (exV k t u (.slice a n c)) from hr1.turn h9 (by omega) (fun h => by have : W0.heap.size ≤ w.heap.size := h; have := HS0.out; omega))
  have HN2 := Lib.hid (setTen_row (k := k) (t := t) (u := u) (kv := .slice a n c) HN1.out)
  obtain ⟨f0, f1, f2, f3, f4, f5, f6, f7, f8, f9⟩ := ten_frozen HN1.out
  obtain ⟨g0, g1, g2, g3, g4, g5, g6, g7, g8, g9⟩ := ten_live HN1.out
  clear hp ht1 hr1 h9 HP0 HGP HN0 HN1 HR1
  go_upto_region 3 with fail
  clear f0 f1 f2 f3 f4 f5 f6 f7 f8 f9 g0 g1 g2 g3 g4 g5 g6 g7 g8 g9
  obtain ⟨W2, hW2⟩ : ∃ W2, setTen w1 w.heap.size k t u (.slice a n c) = W2 := ⟨_, rfl⟩
  rw [hW2] at HT2 HR2 HN2
  unfold setTen at hW2
  rw [hW2]
  clear hW2
  obtain ⟨g, hg⟩ : ∃ g, orK s 16 0 = g := ⟨_, rfl⟩
  rw [hg] at HR2
  have HGT := Lib.hid hg
  clear hg
  cases g with
  | wrong q e =>
    obtain ⟨he0, hq, hpb, -⟩ : Res W2 p s 0 (From W0.heap.size) (.wrong q e) _ := HR2.out
    have HE0 := Lib.hid he0
    have HPB := Lib.hid hpb
    have HTB := Lib.hid (testB_wrong HGT.out)
    clear he0 hpb
    go_wp2_with fail
    refine (ps_rest_bad W2 p s q 0 e hq hs HE0.out HPB.out).mono ?_
    rintro e2 w3 ⟨rfl, hb3, ht3⟩
    have HP3 := Lib.hid hb3
    have HT3 := Lib.hid ht3
    clear hb3 ht3
    cases hd : s.drop q with
    | nil =>
      clear hd
      have HB4 := HP3
      have HT4 := HT3
      go_upto_region 5 with fail
      have HN4 := Lib.hid (show w3.heap[w.heap.size]? = _ from (HT4.out.block w.heap.size (Array.getElem?_eq_some_iff.1 HN2.out).1 (by have := HPN.out; intro e; cases e; omega)).trans HN2.out)
      have HB6 := Lib.hid (show Below w.heap.size w w3 from turn_new HT2.out HT4.out (by have := HPN.out; omega))
      obtain ⟨-, c1, -, c3, -, -, -, -⟩ := HB4.out.pc
      have hq0 : ((e : Int) == 0) = false := beq_eq_false_iff_ne.2 HE0.out
      have hq1 : ((e : Int) != 0) = true := by rw [bne, hq0]; rfl
      go_upto_region 6 with fail
      clear hq0 hq1
      have x1 : w3.drew.cell? ⟨p, 1, none⟩ = some (.int .i64 ((q : Nat) : Int)) := c1
      have x3 : w3.drew.cell? ⟨p, 3, none⟩ = some (.int .i64 e) := c3
      have HN5 := Lib.hid (drew_row HN4.out)
      have h9 := setTen_turn w3 w.heap.size 0 [] noUseI (.slice none 0 0)
      have HRW := Lib.hid (drew_row (setTen_row (k := 0) (t := []) (u := noUseI) (kv := .slice none 0 0) HN4.out))
      have hbe := turn_new HB6.out h9 (Nat.le_refl _)
      have HBE := Lib.hid (below_drewn hbe)
      obtain ⟨f0, f1, f2, f3, f4, f5, f6, f7, f8, f9⟩ := ten_frozen HN5.out
      obtain ⟨g0, g1, g2, g3, g4, g5, g6, g7, g8, g9⟩ := ten_live HN5.out
      obtain ⟨e0, e1, e2, e3, e4, e5, e6, e7, e8, e9⟩ := ten_frozen HN4.out
      obtain ⟨d0, d1, d2, d3, d4, d5, d6, d7, d8, d9⟩ := ten_live HN4.out
      have hpn := HPN.out
      clear h9 hbe
      subst hpn
      go_region
      clear f0 f1 f2 f3 f4 f5 f6 f7 f8 f9 g0 g1 g2 g3 g4 g5 g6 g7 g8 g9 e0 e1 e2 e3 e4 e5 e6 e7 e8 e9 d0 d1 d2 d3 d4 d5 d6 d7 d8 d9 x1 x3 c1 c3
      go_wp2_with fail
      refine bodyPost_ret (v := .tuple #[exV 0 [] noUseI (.slice none 0 0), .int .i64 ((q : Nat) : Int), .int .i64 e]) ?_ rfl ⟨exV 0 [] noUseI (.slice none 0 0), by rw [HTB.out], HBE.out, Lib.hid (by rw [HTB.out]; exact noEx_at _ _)⟩
      exact results_ten3 (b := w.heap.size) rfl rfl rfl rfl HRW.out
    | cons c r =>
      clear hd
      have q1 : ((c : UInt8) :: r == []) = false := rfl
      go_upto_region 4 with fail
      clear q1
      go_wp2_with fail
      refine (ps_fail w3 p s q 0 e 15 HP3.out).mono ?_
      rintro e2 w4 ⟨rfl, hb4, ht4⟩
      rw [if_neg HE0.out] at hb4
      have HB4 := Lib.hid hb4
      have HT4 := Lib.hid (HT3.out.trans ht4)
      clear hb4 ht4
      go_upto_region 5 with fail
      have HN4 := Lib.hid (show w4.heap[w.heap.size]? = _ from (HT4.out.block w.heap.size (Array.getElem?_eq_some_iff.1 HN2.out).1 (by have := HPN.out; intro e; cases e; omega)).trans HN2.out)
      have HB6 := Lib.hid (show Below w.heap.size w w4 from turn_new HT2.out HT4.out (by have := HPN.out; omega))
      obtain ⟨-, c1, -, c3, -, -, -, -⟩ := HB4.out.pc
      have hq0 : ((e : Int) == 0) = false := beq_eq_false_iff_ne.2 HE0.out
      have hq1 : ((e : Int) != 0) = true := by rw [bne, hq0]; rfl
      go_upto_region 6 with fail
      clear hq0 hq1
      have x1 : w4.drew.cell? ⟨p, 1, none⟩ = some (.int .i64 ((q : Nat) : Int)) := c1
      have x3 : w4.drew.cell? ⟨p, 3, none⟩ = some (.int .i64 e) := c3
      have HN5 := Lib.hid (drew_row HN4.out)
      have h9 := setTen_turn w4 w.heap.size 0 [] noUseI (.slice none 0 0)
      have HRW := Lib.hid (drew_row (setTen_row (k := 0) (t := []) (u := noUseI) (kv := .slice none 0 0) HN4.out))
      have hbe := turn_new HB6.out h9 (Nat.le_refl _)
      have HBE := Lib.hid (below_drewn hbe)
      obtain ⟨f0, f1, f2, f3, f4, f5, f6, f7, f8, f9⟩ := ten_frozen HN5.out
      obtain ⟨g0, g1, g2, g3, g4, g5, g6, g7, g8, g9⟩ := ten_live HN5.out
      obtain ⟨e0, e1, e2, e3, e4, e5, e6, e7, e8, e9⟩ := ten_frozen HN4.out
      obtain ⟨d0, d1, d2, d3, d4, d5, d6, d7, d8, d9⟩ := ten_live HN4.out
      have hpn := HPN.out
      clear h9 hbe
      subst hpn
      go_region
      clear f0 f1 f2 f3 f4 f5 f6 f7 f8 f9 g0 g1 g2 g3 g4 g5 g6 g7 g8 g9 e0 e1 e2 e3 e4 e5 e6 e7 e8 e9 d0 d1 d2 d3 d4 d5 d6 d7 d8 d9 x1 x3 c1 c3
      go_wp2_with fail
      refine bodyPost_ret (v := .tuple #[exV 0 [] noUseI (.slice none 0 0), .int .i64 ((q : Nat) : Int), .int .i64 e]) ?_ rfl ⟨exV 0 [] noUseI (.slice none 0 0), by rw [HTB.out], HBE.out, Lib.hid (by rw [HTB.out]; exact noEx_at _ _)⟩
      exact results_ten3 (b := w.heap.size) rfl rfl rfl rfl HRW.out
  | good x tt =>
    obtain ⟨⟨a0, ha0, htl, hra, hpb⟩, hx⟩ : Res W2 p s 0 (From W0.heap.size) (.good x tt) _ := HR2.out
    have HPB := Lib.hid hpb
    have HX := Lib.hid hx
    have HPA := Lib.hid (show pa s a0 = pa s tt by unfold pa; rw [hra])
    have HRA := Lib.hid hra
    clear hpb hx hra
    go_wp2_with fail
    refine (ps_rest_ok W2 p s a0 0 ha0 hs HPB.out).mono ?_
    rintro e2 w3 ⟨rfl, hb3, ht3⟩
    rw [HPA.out] at hb3
    rw [HRA.out]
    have HP3 := Lib.hid hb3
    have HT3 := Lib.hid ht3
    clear hb3 ht3
    cases hd : rs s tt with
    | nil =>
      have HTB := Lib.hid (testB_end HGT.out ((rs_nil_iff htl).1 hd))
      clear hd
      go_upto_region 5 with fail
      have HN4 := Lib.hid (show w3.heap[w.heap.size]? = _ from (HT3.out.block w.heap.size (Array.getElem?_eq_some_iff.1 HN2.out).1 (by have := HPN.out; intro e; cases e; omega)).trans HN2.out)
      have HB6 := Lib.hid (show Below w.heap.size w w3 from turn_new HT2.out HT3.out (by have := HPN.out; omega))
      have HX3 := Lib.hid (HX.out.turn HT3.out (fun h => by have : W0.heap.size ≤ p := h; have := HS0.out; have := HPN.out; omega))
      obtain ⟨-, -, -, c3, -, -, -, -⟩ := HP3.out.pc
      go_upto_region 7 with fail
      clear c3
      have h9 := setTen_turn w3 w.heap.size k t u (.slice a n c)
      have HRW := Lib.hid (setTen_row (k := k) (t := t) (u := u) (kv := .slice a n c) HN4.out)
      have HBE := Lib.hid (turn_new HB6.out h9 (Nat.le_refl _))
      have HXE := Lib.hid (exAt_lo (A' := From w.heap.size) (fun z _ h => by have : W0.heap.size ≤ z := h; have := HS0.out; show w.heap.size ≤ z; omega) _ _ (HX3.out.turn h9 (fun h => by have : W0.heap.size ≤ w.heap.size := h; have := HS0.out; omega)))
      obtain ⟨f0, f1, f2, f3, f4, f5, f6, f7, f8, f9⟩ := ten_frozen HN4.out
      obtain ⟨g0, g1, g2, g3, g4, g5, g6, g7, g8, g9⟩ := ten_cells HN4.out
      clear h9
      go_wp2_with fail
      clear f0 f1 f2 f3 f4 f5 f6 f7 f8 f9 g0 g1 g2 g3 g4 g5 g6 g7 g8 g9
      refine bodyPost_ret (v := .tuple #[exV k t u (.slice a n c), .int .i64 0, .int .i64 0]) ?_ rfl ⟨exV k t u (.slice a n c), by rw [HTB.out]; rfl, HBE.out, Lib.hid (by rw [HTB.out]; exact HXE.out)⟩
      exact results_ten3 (b := w.heap.size) rfl rfl rfl rfl HRW.out
    | cons c2 r2 =>
      have HTB := Lib.hid (testB_more HGT.out ((rs_nil_iff htl).2 (by rw [hd]; exact fun h => by cases h)))
      clear hd
      have HE0 := Lib.hid (show (15 : Int) ≠ 0 by decide)
      have q1 : ((c2 : UInt8) :: r2 == []) = false := rfl
      go_upto_region 4 with fail
      clear q1
      go_wp2_with fail
      refine (ps_fail w3 p s (pa s tt) 0 0 15 HP3.out).mono ?_
      rintro e2 w4 ⟨rfl, hb4, ht4⟩
      rw [if_pos rfl] at hb4
      have HB4 := Lib.hid hb4
      have HT4 := Lib.hid (HT3.out.trans ht4)
      clear hb4 ht4
      go_upto_region 5 with fail
      have HN4 := Lib.hid (show w4.heap[w.heap.size]? = _ from (HT4.out.block w.heap.size (Array.getElem?_eq_some_iff.1 HN2.out).1 (by have := HPN.out; intro e; cases e; omega)).trans HN2.out)
      have HB6 := Lib.hid (show Below w.heap.size w w4 from turn_new HT2.out HT4.out (by have := HPN.out; omega))
      obtain ⟨-, c1, -, c3, -, -, -, -⟩ := HB4.out.pc
      have hq0 : ((15 : Int) == 0) = false := beq_eq_false_iff_ne.2 HE0.out
      have hq1 : ((15 : Int) != 0) = true := by rw [bne, hq0]; rfl
      go_upto_region 6 with fail
      clear hq0 hq1
      have x1 : w4.drew.cell? ⟨p, 1, none⟩ = some (.int .i64 ((pa s tt : Nat) : Int)) := c1
      have x3 : w4.drew.cell? ⟨p, 3, none⟩ = some (.int .i64 15) := c3
      have HN5 := Lib.hid (drew_row HN4.out)
      have h9 := setTen_turn w4 w.heap.size 0 [] noUseI (.slice none 0 0)
      have HRW := Lib.hid (drew_row (setTen_row (k := 0) (t := []) (u := noUseI) (kv := .slice none 0 0) HN4.out))
      have hbe := turn_new HB6.out h9 (Nat.le_refl _)
      have HBE := Lib.hid (below_drewn hbe)
      obtain ⟨f0, f1, f2, f3, f4, f5, f6, f7, f8, f9⟩ := ten_frozen HN5.out
      obtain ⟨g0, g1, g2, g3, g4, g5, g6, g7, g8, g9⟩ := ten_live HN5.out
      obtain ⟨e0, e1, e2, e3, e4, e5, e6, e7, e8, e9⟩ := ten_frozen HN4.out
      obtain ⟨d0, d1, d2, d3, d4, d5, d6, d7, d8, d9⟩ := ten_live HN4.out
      have hpn := HPN.out
      clear h9 hbe
      subst hpn
      go_region
      clear f0 f1 f2 f3 f4 f5 f6 f7 f8 f9 g0 g1 g2 g3 g4 g5 g6 g7 g8 g9 e0 e1 e2 e3 e4 e5 e6 e7 e8 e9 d0 d1 d2 d3 d4 d5 d6 d7 d8 d9 x1 x3 c1 c3
      go_wp2_with fail
      refine bodyPost_ret (v := .tuple #[exV 0 [] noUseI (.slice none 0 0), .int .i64 ((pa s tt : Nat) : Int), .int .i64 15]) ?_ rfl ⟨exV 0 [] noUseI (.slice none 0 0), by rw [HTB.out], HBE.out, Lib.hid (by rw [HTB.out]; exact noEx_at _ _)⟩
      exact results_ten3 (b := w.heap.size) rfl rfl rfl rfl HRW.out
end Go.Proofs.YtbkhmkpbbggcbaaGreatDoor
