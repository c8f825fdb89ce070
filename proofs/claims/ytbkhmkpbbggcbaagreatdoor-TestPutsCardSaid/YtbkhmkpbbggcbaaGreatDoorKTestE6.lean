/- The walks of the reference's alike and Same on trees, and of theirs: a tree of the program's as one of the reference's. The walk of shape: a tree as letters. The walks of plain, of EqualFunc over trees, and of the program's Same. The laws' own functions on tests: is, fails, awake. -/
import Derived.Test.YtbkhmkpbbggcbaaGreatDoorKTestR7
import Derived.Test.YtbkhmkpbbggcbaaGreatDoorKTestE0
namespace Go.Proofs.YtbkhmkpbbggcbaaGreatDoor
open Go.RowKit
set_option linter.unusedVariables false
theorem equal_use (u u2 : UseI) (W : World) : (Op.equalIn 10000 34 (useIV u) (useIV u2)).run Tryz.prog W = .ok (useEq u u2) W := by
  simp only [useEq, useSame]
  simp [useIV, go_sem]
  repeat' split
  all_goals simp_all
theorem equal_alike (u u2 : UseI) (W : World) : (Op.equalIn 10000 34 (.agg #[.int .i64 u2.src, .int .i64 u2.till, .string ⟨u.name.toArray⟩, .string ⟨u.key.toArray⟩, .string ⟨u.dft.toArray⟩, .bool u.hk, .bool u.hd]) (.agg #[.int .i64 u2.src, .int .i64 u2.till, .string ⟨u2.name.toArray⟩, .string ⟨u2.key.toArray⟩, .string ⟨u2.dft.toArray⟩, .bool u2.hk, .bool u2.hd])).run Tryz.prog W = .ok (useSame u u2) W := by
  have h := equal_use ⟨u2.src, u2.till, u.name, u.key, u.dft, u.hk, u.hd⟩ u2 W
  rw [show useEq ⟨u2.src, u2.till, u.name, u.key, u.dft, u.hk, u.hd⟩ u2 = useSame u u2 by simp [useEq, useSame]] at h
  exact h
set_option maxRecDepth 100000 in
set_option maxHeartbeats 4000000 in
theorem ref27_alike (u u2 : UseI) (w : World) : Calls Tryz.prog 21 #[useIV u, useIV u2] w (Ret w (.bool (useSame u u2))) := by
  have HT := Lib.hid (two_new w (.cells #[.int .i64 u2.src, .int .i64 u2.till, .string ⟨u.name.toArray⟩, .string ⟨u.key.toArray⟩, .string ⟨u.dft.toArray⟩, .bool u.hk, .bool u.hd] 34) (.cells #[.int .i64 u2.src, .int .i64 u2.till, .string ⟨u2.name.toArray⟩, .string ⟨u2.key.toArray⟩, .string ⟨u2.dft.toArray⟩, .bool u2.hk, .bool u2.hd] 34))
  have HEQ := Lib.hid (equal_alike u u2)
  go_enter Tryz.func21, Tryz.ntmps21
  go_upto_region 3 with fail
  have heq := HEQ.out
  go_wp2_with fail
  go_ret
  exact ⟨rfl, HT.out.below⟩
set_option maxRecDepth 100000 in
set_option maxHeartbeats 4000000 in
theorem ref27_Same_step (x y : Ex) (hnar : narrowE x) (ih : ∀ x', x' ∈ x.kids → ∀ (y' : Ex) (v v2 : Value) (W : World), ExAt (fun _ => True) W x' v → ExAt (fun _ => True) W y' v2 → Calls Tryz.prog 10 #[v, v2] W (Ret W (.bool (sameE x' y')))) (v v2 : Value) (w : World) (hx : ExAt (fun _ => True) w x v) (hy : ExAt (fun _ => True) w y v2) :
    Calls Tryz.prog 10 #[v, v2] w (Ret w (.bool (sameE x y))) := by
  obtain ⟨k, t, u, l⟩ := x
  obtain ⟨k2, t2, u2, l2⟩ := y
  have HIH := Lib.hid ih
  have HLM := Lib.hid (show l.length ≤ 1000000 by unfold narrowE at hnar; exact hnar.1)
  clear hnar
  obtain ⟨kv, rfl, hk⟩ := exAt_iff.1 hx
  obtain ⟨kv2, rfl, hk2⟩ := exAt_iff.1 hy
  have HKID := Lib.hid hk
  have HKID2 := Lib.hid hk2
  have hl : ∃ a c, kv = .slice a l.length c := by rcases hk with ⟨rfl, a, c, rfl⟩ | ⟨b, o, c, rfl, _⟩ <;> exact ⟨_, _, rfl⟩
  have hl2 : ∃ a c, kv2 = .slice a l2.length c := by rcases hk2 with ⟨rfl, a, c, rfl⟩ | ⟨b, o, c, rfl, _⟩ <;> exact ⟨_, _, rfl⟩
  obtain ⟨a, c, rfl⟩ := hl
  obtain ⟨a2, c2, rfl⟩ := hl2
  have HT := Lib.hid (ten_two (w := w) (W := w) (k := k) (t := t) (u := u) (kv := .slice a l.length c) (k2 := k2) (t2 := t2) (u2 := u2) (kv2 := .slice a2 l2.length c2) (T := 37))
  clear ih hx hy hk hk2
  go_enter Tryz.func10, Tryz.ntmps10
  go_upto_region 1 with fail
  generalize ((w.alloc (.cells (exL k t u (.slice a l.length c)).toArray 37)).alloc (.cells (exL k2 t2 u2 (.slice a2 l2.length c2)).toArray 37)) = W0 at *
  have hb1 := HT.out.b1
  have hb2 := HT.out.b2
  have HB := Lib.hid HT.out.below
  obtain ⟨p0, p1, p2, p3, p4, p5, p6, p7, p8, p9⟩ := ten_cells hb1
  obtain ⟨r0, r1, r2, r3, r4, r5, r6, r7, r8, r9⟩ := ten_cells hb2
  have HB1 := Lib.hid hb1
  have HB2 := Lib.hid hb2
  clear HT hb1 hb2
  by_cases h1 : k = k2
  · subst h1
    by_cases h2 : t = t2
    · subst h2
      go_wp2_with fail
      refine (ref27_alike u u2 W0).mono ?_
      rintro e w1 ⟨rfl, hb⟩
      have HB3 := Lib.hid (HB.out.trans (hb.mono HB.out.size))
      have HR1 := Lib.hid ((hb.block _ (Array.getElem?_eq_some_iff.1 HB1.out).1).trans HB1.out)
      have HR2 := Lib.hid ((hb.block _ (Array.getElem?_eq_some_iff.1 HB2.out).1).trans HB2.out)
      clear hb p0 p1 p2 p3 p4 p5 p6 p7 p8 p9 r0 r1 r2 r3 r4 r5 r6 r7 r8 r9
      obtain ⟨p0, p1, p2, p3, p4, p5, p6, p7, p8, p9⟩ := ten_cells HR1.out
      obtain ⟨r0, r1, r2, r3, r4, r5, r6, r7, r8, r9⟩ := ten_cells HR2.out
      cases hu : useSame u u2
      · go_wp2_with fail
        go_ret
        exact ⟨by rw [sameE_mk, hu]; simp, HB3.out⟩
      · by_cases hl : l.length = l2.length
        · have HLN := Lib.hid hl
          have hn6 : l2.length ≤ 1000000 := by have := HLM.out; omega
          have HU := Lib.hid hu
          have hl3 : ((l2.length : Int) == (l2.length : Int)) = true := beq_self_eq_true _
          rw [hl]
          rw [hl] at p9 HKID
          obtain ⟨n, hn⟩ : ∃ n, l2.length = n := ⟨_, rfl⟩
          rw [hn] at HKID HKID2 p9 r9 HLN hn6
          rw [hn]
          have HN2 := Lib.hid hn
          clear hl hu hl3 hn
          go_upto_region 4 with fail
          go_loopw [5] (fun iv wr => ∃ i : Nat, i ≤ n ∧ iv = .int .i64 i ∧ Hid (sameL l l2 = sameL (l.drop i) (l2.drop i)) ∧ Hid (Below w1.heap.size w1 wr)) (fun iv _ => n - (intOf iv).toNat)
          case atStart => exact ⟨0, Nat.zero_le _, rfl, Lib.hid rfl, Lib.hid (Below.refl _ _)⟩
          case round =>
            obtain ⟨i, hi, rfl, HS, HW⟩ := hrel
            have HQ1 := Lib.hid ((HW.out.block _ (Array.getElem?_eq_some_iff.1 HR1.out).1).trans HR1.out)
            have HQ2 := Lib.hid ((HW.out.block _ (Array.getElem?_eq_some_iff.1 HR2.out).1).trans HR2.out)
            have HBB := Lib.hid (HB3.out.trans (HW.out.mono HB3.out.size))
            clear p0 p1 p2 p3 p4 p5 p6 p7 p8 p9 r0 r1 r2 r3 r4 r5 r6 r7 r8 r9
            obtain ⟨-, -, -, -, -, -, -, -, -, p9⟩ := ten_cells HQ1.out
            obtain ⟨-, -, -, -, -, -, -, -, -, r9⟩ := ten_cells HQ2.out
            rw [HLN.out] at p9
            rw [HN2.out] at r9
            by_cases hlt : i < n
            · have i1 : (i : Int) < (n : Int) := by omega
              obtain ⟨x, hx⟩ : ∃ x, l[i]? = some x := ⟨_, List.getElem?_eq_getElem (by rw [HLN.out]; exact hlt)⟩
              obtain ⟨y, hy⟩ : ∃ y, l2[i]? = some y := ⟨_, List.getElem?_eq_getElem (by rw [HN2.out]; exact hlt)⟩
              have HMEM := Lib.hid (show x ∈ (Ex.mk k t u l).kids from List.mem_of_getElem? hx)
              have HST := Lib.hid (sameL_step hx hy)
              obtain ⟨b, o, c', he, hlc, hbl, hrow⟩ := kids_row HKID.out hx
              obtain ⟨b', o', c2', he', hlc', hbl', hrow'⟩ := kids_row HKID2.out hy
              obtain ⟨rfl, rfl⟩ : a = some ⟨b, o, none⟩ ∧ c = c' := by injection he with h1 h2 h3; exact ⟨h1, h3⟩
              obtain ⟨rfl, rfl⟩ : a2 = some ⟨b', o', none⟩ ∧ c2 = c2' := by injection he' with h1 h2 h3; exact ⟨h1, h3⟩
              obtain ⟨k1, t1, u1, a1, n1, c1, hk1⟩ := kid_get hrow hx HBB.out hbl
              obtain ⟨k3, t3, u3, a3, n3, c3, hk3⟩ := kid_get hrow' hy HBB.out hbl'
              have HK1 := Lib.hid hk1
              have HK3 := Lib.hid hk3
              have i0 : (0 : Int) ≤ (i : Int) := by omega
              obtain ⟨q, hq⟩ : ∃ q, sameE x y = q := ⟨_, rfl⟩
              have HCALL := Lib.hid (show ∀ B : BW wr, Calls Tryz.prog 10 #[exV k1 t1 u1 (.slice a1 n1 c1), exV k3 t3 u3 (.slice a3 n3 c3)] B.val (Ret B.val (.bool q)) from fun B => hq ▸ HIH.out x HMEM.out y _ _ _ (hk1.ex B) (hk3.ex B))
              have HQ := Lib.hid hq
              clear hq hx hy hrow hrow' hbl hbl' he he' hk1 hk3 hlc hlc'
              go_upto_region 6 with fail
              have p9' : ∀ B : BW wr, B.val.cell? ⟨w.heap.size, 9, none⟩ = some (.slice (some ⟨b, o, none⟩) n c) := fun B => (B.below.cell (p := ⟨w.heap.size, 9, none⟩) (cell_lt p9)).trans p9
              have r9' : ∀ B : BW wr, B.val.cell? ⟨w.heap.size + 1, 9, none⟩ = some (.slice (some ⟨b', o', none⟩) n c2) := fun B => (B.below.cell (p := ⟨w.heap.size + 1, 9, none⟩) (cell_lt r9)).trans r9
              obtain ⟨-, y0, y1, y2, y3, y4, y5, y6, y7, y8, y9⟩ := HK1.out
              obtain ⟨-, z0, z1, z2, z3, z4, z5, z6, z7, z8, z9⟩ := HK3.out
              haveI : Nonempty (BW wr) := ⟨⟨wr, Below.refl _ _⟩⟩
              clear p9 r9
              refine wp_region_last_lit 11 (fun B : BW wr => B.val) ⟨wr.drew, below_drewn (Below.refl _ _)⟩ rfl (by kernel_rfl) (by rfl) (by rfl) (by kernel_rfl) (by kernel_rfl) (by kernel_rfl) ?_
              simp only [List.take_succ_cons, List.take_zero]
              repeat (quiet_step ((go_at_call 10; refine (HCALL.out _).mono ?_; rintro e v1 ⟨rfl, hb1⟩; exact ⟨rfl, ⟨v1, BW.next _ hb1⟩, rfl⟩)))
              refine wpQuiet_nil ?_
              rintro w' ⟨B, rfl⟩
              rw [if_pos (by rfl)]
              have HB5 := Lib.hid (HW.out.trans (B.below.mono HW.out.size))
              clear y0 y1 y2 y3 y4 y5 y6 y7 y8 y9 z0 z1 z2 z3 z4 z5 z6 z7 z8 z9 p9' r9'
              cases q
              · have HE := Lib.hid (show sameL l l2 = false by rw [HS.out, HST.out, HQ.out]; rfl)
                go_simp
                go_wp2_with fail
                go_ret
                exact ⟨by rw [sameE_mk, HE.out]; simp, HB3.out.trans (HB5.out.mono HB3.out.size)⟩
              · have HE := Lib.hid (show sameL l l2 = sameL (l.drop (i + 1)) (l2.drop (i + 1)) by rw [HS.out, HST.out, HQ.out]; rfl)
                go_simp
                go_wp2_with fail
                go_roundw
                case rel => exact ⟨i + 1, by omega, by go_num, Lib.hid HE.out, HB5⟩
                case measure => (simp [intOf] <;> omega)
            · obtain rfl : i = n := by omega
              have HE := Lib.hid (show sameL l l2 = true by rw [HS.out]; have := sameL_end (l := l) (l2 := l2) (by rw [HLN.out, HN2.out]); rw [HLN.out] at this; exact this)
              clear hlt
              go_wp2_with fail
              go_ret
              exact ⟨by rw [sameE_mk, HE.out, HU.out]; simp, HBB.out⟩
        · have hl3 : ((l.length : Int) == (l2.length : Int)) = false := by rw [beq_eq_false_iff_ne]; omega
          have HS := Lib.hid (sameL_ne hl)
          clear hl
          go_wp2_with fail
          go_ret
          exact ⟨by rw [sameE_mk, HS.out]; simp, HB3.out⟩
    · have h2b : (t == t2) = false := by rw [beq_eq_false_iff_ne]; exact h2
      clear h2
      have H2 := Lib.hid h2b
      have h2c : (t != t2) = true := by rw [bne, h2b]; rfl
      go_wp2_with fail
      go_ret
      exact ⟨by rw [sameE_mk, H2.out]; simp, HB.out⟩
  · have h1b : (k == k2) = false := by rw [beq_eq_false_iff_ne]; exact h1
    have h1c : (k != k2) = true := by rw [bne, h1b]; rfl
    have H1 := Lib.hid (decide_eq_false h1)
    clear h1
    go_wp2_with fail
    go_ret
    exact ⟨by rw [sameE_mk, H1.out]; simp, HB.out⟩
theorem ref27_Same (x : Ex) : narrowE x → ∀ (y : Ex) (v v2 : Value) (w : World), ExAt (fun _ => True) w x v → ExAt (fun _ => True) w y v2 → Calls Tryz.prog 10 #[v, v2] w (Ret w (.bool (sameE x y))) := by
  refine Ex.ind (P := fun x => narrowE x → ∀ (y : Ex) (v v2 : Value) (w : World), ExAt (fun _ => True) w x v → ExAt (fun _ => True) w y v2 → Calls Tryz.prog 10 #[v, v2] w (Ret w (.bool (sameE x y)))) (fun k t u l ih hn y v v2 w hx hy => ?_) x
  have hl : narrowL l := by unfold narrowE at hn; exact hn.2
  exact ref27_Same_step (.mk k t u l) y hn (fun x' hx' y' v v2 W h1 h2 => ih x' hx' (narrow_mem hl hx') y' v v2 W h1 h2) v v2 w hx hy
end Go.Proofs.YtbkhmkpbbggcbaaGreatDoor
namespace Go.Proofs.YtbkhmkpbbggcbaaGreatDoor
open Go.RowKit
set_option linter.unusedVariables false
structure TH (w W : World) (k : Int) (t : Bs) (u : UseI) (a : Option Addr) (n0 c : Nat) (done : List Ex) (v : Value) (xs : List Value) : Prop where
  below : Below w.heap.size w W
  bx : W.heap[w.heap.size]? = some (.cells (exL k t u (.slice a n0 c)).toArray 26)
  br : W.heap[w.heap.size + 1]? = some (.cells (exL 0 [] noUseI (.slice none 0 0)).toArray 37)
  bn : W.heap[w.heap.size + 2]? = some (.cells (exL k t u v).toArray 37)
  own : W.ownsRow (w.heap.size + 3) 37 10 v done.length xs
  rows : RowC (fun z => w.heap.size + 3 ≤ z ∧ some z ≠ v.ownBlock) W done xs
  lt : w.heap.size + 3 ≤ W.heap.size
theorem th_next {w W w3 w5 : World} {k k1 : Int} {t t1 : Bs} {u u1 : UseI} {a a1 : Option Addr} {n0 c n1 c1 g cap : Nat} {done : List Ex} {v : Value} {xs : List Value} {y : Ex} (h : TH w W k t u a n0 c done v xs) (hb : Below W.heap.size W w3) (hy : ExAt (From W.heap.size) w3 y (exV k1 t1 u1 (.slice a1 n1 c1)))
    (ho : w5.ownsRow (w.heap.size + 3) 37 10 (.slice (some ⟨g, 0, none⟩) (done.length + 1) cap) (done.length + 1) (xs ++ exL k1 t1 u1 (.slice a1 n1 c1))) (hg : (w3.alloc (.cells (exL k1 t1 u1 (.slice a1 n1 c1)).toArray 37)).grownBy w5 v.ownBlock) (hn : some g = v.ownBlock ∨ w3.heap.size + 1 ≤ g) :
    TH w (w5.setCell ⟨w.heap.size + 2, 9, none⟩ (.slice (some ⟨g, 0, none⟩) (done.length + 1) cap)) k t u a n0 c (done ++ [y]) (.slice (some ⟨g, 0, none⟩) (done.length + 1) cap) (xs ++ exL k1 t1 u1 (.slice a1 n1 c1)) := by
  have hA : Below w3.heap.size w3 (w3.alloc (.cells (exL k1 t1 u1 (.slice a1 n1 c1)).toArray 37)) := (Below.refl _ _).alloc (Nat.le_refl _) _
  have hlt := h.lt
  have hs1 := hb.size
  have hs2 := hA.size
  have hs3 := hg.size
  have hol : ∀ q, v.ownBlock = some q → w.heap.size + 3 ≤ q ∧ q < W.heap.size := fun q hq => h.own.lt q hq
  have ht : Turn (w.heap.size + 2) w5 (w5.setCell ⟨w.heap.size + 2, 9, none⟩ (.slice (some ⟨g, 0, none⟩) (done.length + 1) cap)) := (Turn.refl _ _).set
  have hs4 := ht.size
  have key3 : ∀ b, b < w3.heap.size → some b ≠ v.ownBlock → b ≠ w.heap.size + 2 → (w5.setCell ⟨w.heap.size + 2, 9, none⟩ (.slice (some ⟨g, 0, none⟩) (done.length + 1) cap)).heap[b]? = w3.heap[b]? := fun b h1 h2 h3 =>
    (ht.block b (by omega) (by intro e; cases e; exact h3 rfl)).trans ((hg.block b (by omega) h2).trans (hA.block b h1))
  have key : ∀ b, b < W.heap.size → some b ≠ v.ownBlock → b ≠ w.heap.size + 2 → (w5.setCell ⟨w.heap.size + 2, 9, none⟩ (.slice (some ⟨g, 0, none⟩) (done.length + 1) cap)).heap[b]? = W.heap[b]? := fun b h1 h2 h3 =>
    (key3 b (by omega) h2 h3).trans (hb.block b h1)
  have hne : ∀ b, b < w.heap.size + 3 → some b ≠ v.ownBlock := fun b hb2 e => by have := (hol b e.symm).1; omega
  have hbel := ((h.below.trans (hb.mono h.below.size)).trans (hA.mono (by omega))).grown hg (by omega) (fun q hq => by have := (hol q hq).1; omega)
  refine ⟨hbel.trans (ht.below (by omega) (by omega)), (key _ (by omega) (hne _ (by omega)) (by omega)).trans h.bx, (key _ (by omega) (hne _ (by omega)) (by omega)).trans h.br, ?_, ?_, ?_, by omega⟩
  · have h5 : w5.heap[w.heap.size + 2]? = _ := ((hg.block (w.heap.size + 2) (by omega) (hne _ (by omega))).trans ((hA.block _ (by omega)).trans (hb.block _ (by omega)))).trans h.bn
    exact row_set (j := 9) h5
  · rw [List.length_append]
    refine ho.kept ht (.inr ?_)
    have := (ho.lt g rfl).1
    intro e
    simp [Value.ownBlock] at e
    omega
  · refine RowC.snoc ?_ (h.rows.map (fun x v2 hx => ?_))
    · have h1 := exAt_lo (A' := fun z => W.heap.size ≤ z ∧ z < w3.heap.size) (fun z hz h => ⟨h, hz⟩) _ _ hy
      have h2 := exAt_keep (W' := w5.setCell ⟨w.heap.size + 2, 9, none⟩ (.slice (some ⟨g, 0, none⟩) (done.length + 1) cap)) (by omega) (fun b hb1 hb2 => key3 b hb2 (fun e => by have := (hol b e.symm).2; omega) (by omega)) _ _ h1
      refine exAt_lo (fun z _ hz => ⟨by omega, fun e => ?_⟩) _ _ h2
      have e2 : z = g := by simpa [Value.ownBlock] using e
      subst e2
      rcases hn with hn | hn
      · have := (hol z hn.symm).2; omega
      · omega
    · have h1 := exAt_lo (A' := fun z => (w.heap.size + 3 ≤ z ∧ some z ≠ v.ownBlock) ∧ z < W.heap.size) (fun z hz h => ⟨h, hz⟩) _ _ hx
      have h2 := exAt_keep (W' := w5.setCell ⟨w.heap.size + 2, 9, none⟩ (.slice (some ⟨g, 0, none⟩) (done.length + 1) cap)) (by omega) (fun b hb1 hb2 => key b hb2 hb1.1.2 (by omega)) _ _ h1
      refine exAt_lo (fun z _ hz => ⟨hz.1.1, fun e => ?_⟩) _ _ h2
      have e2 : z = g := by simpa [Value.ownBlock] using e
      subst e2
      rcases hn with hn | hn
      · exact hz.1.2 hn
      · omega
theorem th_box {w W w3 w5 : World} {k : Int} {t : Bs} {u : UseI} {a : Option Addr} {n0 c : Nat} {done : List Ex} {v : Value} {xs : List Value} {O : Obj} (h : TH w W k t u a n0 c done v xs) (hb : Below W.heap.size W w3) (hg : (w3.alloc O).grownBy w5 v.ownBlock) : w5.heap[w.heap.size + 2]? = some (.cells (exL k t u v).toArray 37) := by
  have hA : Below w3.heap.size w3 (w3.alloc O) := (Below.refl _ _).alloc (Nat.le_refl _) _
  have hlt := h.lt
  have hs1 := hb.size
  have hs2 := hA.size
  exact ((hg.block (w.heap.size + 2) (by omega) (fun e => by have := (h.own.lt _ e.symm).1; omega)).trans ((hA.block _ (by omega)).trans (hb.block _ (by omega)))).trans h.bn
theorem results_tenR {fn : Func} {W : World} {tmps : Array Value} {b slot : Nat} {v0 v1 v2 v3 v4 v5 v6 v7 v8 v9 : Value} (h : fn.results = #[.cell slot 37]) (ht : tmps.getD slot undef = .pointer (some ⟨b, 0, none⟩)) (hW : W.heap[b]? = some (.cells #[v0, v1, v2, v3, v4, v5, v6, v7, v8, v9] 37)) :
    (results fn tmps).run Tryz.prog W = .ok (.agg #[v0, v1, v2, v3, v4, v5, v6, v7, v8, v9]) W := by
  obtain ⟨y0, y1, y2, y3, y4, y5, y6, y7, y8, y9⟩ := ten_live hW
  have ht2 : tmps[slot]?.getD undef = .pointer (some ⟨b, 0, none⟩) := by rw [← ht]; simp
  simp [results, h, go_sem, ht2, y0, y1, y2, y3, y4, y5, y6, y7, y8, y9]
theorem th_end {w W : World} {k : Int} {t : Bs} {u : UseI} {a : Option Addr} {n0 c : Nat} {l : List Ex} {v : Value} {xs : List Value} (h : TH w W k t u a n0 c l v xs) :
    Below w.heap.size w (setTen W (w.heap.size + 1) k t u v) ∧ ExAt (From w.heap.size) (setTen W (w.heap.size + 1) k t u v) (.mk k t u l) (exV k t u v) ∧ (setTen W (w.heap.size + 1) k t u v).heap[w.heap.size + 1]? = some (.cells (exL k t u v).toArray 37) := by
  have h9 := setTen_turn W (w.heap.size + 1) k t u v
  have hk := own_kids (A := fun z => w.heap.size + 3 ≤ z) h.own (h.rows.map (fun x v2 hx => exAt_lo (fun z _ hz => hz.1) _ _ hx)) (fun z hz => hz)
  have hx : ExAt (fun z => w.heap.size + 3 ≤ z) W (.mk k t u l) (exV k t u v) := exAt_iff.2 ⟨v, rfl, hk⟩
  exact ⟨h.below.trans (h9.below (by omega) h.below.size), exAt_lo (fun z _ hz => by show w.heap.size ≤ z; omega) _ _ (hx.turn h9 (by omega)), setTen_row h.br⟩
theorem th_start (w : World) (k : Int) (t : Bs) (u : UseI) (a : Option Addr) (n0 c : Nat) : TH w (((w.alloc (.cells (exL k t u (.slice a n0 c)).toArray 26)).alloc (.cells (exL 0 [] noUseI (.slice none 0 0)).toArray 37)).alloc (.cells (exL k t u (.slice none 0 0)).toArray 37)) k t u a n0 c [] (.slice none 0 0) [] := by
  have h1 := two_new w (.cells (exL k t u (.slice a n0 c)).toArray 26) (.cells (exL 0 [] noUseI (.slice none 0 0)).toArray 37)
  have h2 := heap_alloc_new ((w.alloc (.cells (exL k t u (.slice a n0 c)).toArray 26)).alloc (.cells (exL 0 [] noUseI (.slice none 0 0)).toArray 37)) (.cells (exL k t u (.slice none 0 0)).toArray 37)
  rw [h1.size] at h2
  exact ⟨h1.below.alloc h1.below.size _, row_alloc h1.b1 _, row_alloc h1.b2 _, h2, World.ownsRow_nil _ _ _ _, rfl, by rw [World.size_alloc, h1.size]; omega⟩
theorem einfo : (Tryz.prog.info? 37).map (fun i => (i.zero, i.size, i.bytes)) = some (some (.agg #[.int .i64 0, .string ⟨#[]⟩, .int .i64 0, .int .i64 0, .string ⟨#[]⟩, .string ⟨#[]⟩, .string ⟨#[]⟩, .bool false, .bool false, .slice none 0 0]), 10, 120) := by kernel_rfl
theorem eslice : Tryz.prog.underlying 35 = some (.slice 37) := by kernel_rfl
set_option maxRecDepth 100000 in
set_option maxHeartbeats 8000000 in
theorem law_theirs_step (x : Ex) (hnar : narrowE x) (ih : ∀ x', x' ∈ x.kids → ∀ (v : Value) (W : World), ExAt (fun _ => True) W x' v → Calls Tryz.prog 8 #[v] W fun e w' => ∃ v', e = .returned v' ∧ Below W.heap.size W w' ∧ Hid (ExAt (From W.heap.size) w' x' v')) (v : Value) (w : World) (hx : ExAt (fun _ => True) w x v) :
    Calls Tryz.prog 8 #[v] w fun e w' => ∃ v', e = .returned v' ∧ Below w.heap.size w w' ∧ Hid (ExAt (From w.heap.size) w' x v') := by
  obtain ⟨k, t, u, l⟩ := x
  have HIH := Lib.hid ih
  have HLM := Lib.hid (show l.length ≤ 1000000 by unfold narrowE at hnar; exact hnar.1)
  obtain ⟨kv, rfl, hk⟩ := exAt_iff.1 hx
  have HKID := Lib.hid hk
  have hl : ∃ a c, kv = .slice a l.length c := by rcases hk with ⟨rfl, a, c, rfl⟩ | ⟨b, o, c, rfl, _⟩ <;> exact ⟨_, _, rfl⟩
  obtain ⟨a, c, rfl⟩ := hl
  have HTH := Lib.hid (show TH w (((w.alloc (.cells (exL k t u (.slice a l.length c)).toArray 26)).alloc (.cells #[.int .i64 0, .string ⟨#[]⟩, .int .i64 0, .int .i64 0, .string ⟨#[]⟩, .string ⟨#[]⟩, .string ⟨#[]⟩, .bool false, .bool false, .slice none 0 0] 37)).alloc (.cells (exL k t u (.slice none 0 0)).toArray 37)) k t u a l.length c [] (.slice none 0 0) [] from th_start w k t u a l.length c)
  clear ih hnar hx hk
  go_enter Tryz.func8, Tryz.ntmps8
  go_upto_region 2 with fail
  generalize (((w.alloc (.cells (exL k t u (.slice a l.length c)).toArray 26)).alloc (.cells #[.int .i64 0, .string ⟨#[]⟩, .int .i64 0, .int .i64 0, .string ⟨#[]⟩, .string ⟨#[]⟩, .string ⟨#[]⟩, .bool false, .bool false, .slice none 0 0] 37)).alloc (.cells (exL k t u (.slice none 0 0)).toArray 37)) = W0 at *
  obtain ⟨n, hn⟩ : ∃ n, l.length = n := ⟨_, rfl⟩
  rw [hn] at HKID HTH HLM
  rw [hn]
  have HN := Lib.hid hn
  have hn6 := HLM.out
  clear hn
  go_upto_region 3 with fail
  go_loopw [4] (fun iv wr => ∃ (i : Nat) (v : Value) (xs : List Value), i ≤ n ∧ iv = .int .i64 i ∧ Hid (TH w wr k t u a n c (l.take i) v xs)) (fun iv _ => n - (intOf iv).toNat)
  case atStart => exact ⟨0, _, _, Nat.zero_le _, rfl, HTH⟩
  case round =>
    clear HTH
    obtain ⟨i, v, xs, hi, rfl, HTH⟩ := hrel
    have HBB := Lib.hid HTH.out.below
    obtain ⟨-, -, -, -, -, -, -, -, -, p9⟩ := ten_cells HTH.out.bx
    have hdl : (l.take i).length = i := by rw [List.length_take, HN.out]; omega
    have HDL := Lib.hid hdl
    clear hdl
    by_cases hlt : i < n
    · have i1 : (i : Int) < (n : Int) := by omega
      have i0 : (0 : Int) ≤ (i : Int) := by omega
      obtain ⟨x, hx⟩ : ∃ x, l[i]? = some x := ⟨_, List.getElem?_eq_getElem (by rw [HN.out]; exact hlt)⟩
      have HTK := Lib.hid (take_get hx)
      have HMEM := Lib.hid (show x ∈ (Ex.mk k t u l).kids from List.mem_of_getElem? hx)
      obtain ⟨b, o, c', he, hlc, hbl, hrow⟩ := kids_row HKID.out hx
      obtain ⟨rfl, rfl⟩ : a = some ⟨b, o, none⟩ ∧ c = c' := by injection he with h1 h2 h3; exact ⟨h1, h3⟩
      obtain ⟨k1, t1, u1, a1, n1, c1, hk1⟩ := kid_get hrow hx HBB.out hbl
      have HCALL := Lib.hid (HIH.out x HMEM.out _ wr.drew (hk1.ex ⟨wr.drew, below_drewn (Below.refl _ _)⟩))
      have HKD := Lib.hid hk1
      clear hx hrow hbl he hk1 hlc
      go_upto_region 5 with fail
      have x9 : wr.drew.cell? ⟨w.heap.size, 9, none⟩ = some (.slice (some ⟨b, o, none⟩) n c) := p9
      have v9 : wr.drew.cell? ⟨w.heap.size + 2, 9, none⟩ = some v := cell_of_row _ _ 9 _ _ _ HTH.out.bn
      have y0 : wr.drew.cell? ⟨b, o + i * 10, none⟩ = _ := HKD.out.c0 ⟨wr.drew, below_drewn (Below.refl _ _)⟩
      have y1 : wr.drew.cell? ⟨b, o + i * 10 + 1, none⟩ = _ := HKD.out.c1 ⟨wr.drew, below_drewn (Below.refl _ _)⟩
      have y2 : wr.drew.cell? ⟨b, o + i * 10 + 2, none⟩ = _ := HKD.out.c2 ⟨wr.drew, below_drewn (Below.refl _ _)⟩
      have y3 : wr.drew.cell? ⟨b, o + i * 10 + 3, none⟩ = _ := HKD.out.c3 ⟨wr.drew, below_drewn (Below.refl _ _)⟩
      have y4 : wr.drew.cell? ⟨b, o + i * 10 + 4, none⟩ = _ := HKD.out.c4 ⟨wr.drew, below_drewn (Below.refl _ _)⟩
      have y5 : wr.drew.cell? ⟨b, o + i * 10 + 5, none⟩ = _ := HKD.out.c5 ⟨wr.drew, below_drewn (Below.refl _ _)⟩
      have y6 : wr.drew.cell? ⟨b, o + i * 10 + 6, none⟩ = _ := HKD.out.c6 ⟨wr.drew, below_drewn (Below.refl _ _)⟩
      have y7 : wr.drew.cell? ⟨b, o + i * 10 + 7, none⟩ = _ := HKD.out.c7 ⟨wr.drew, below_drewn (Below.refl _ _)⟩
      have y8 : wr.drew.cell? ⟨b, o + i * 10 + 8, none⟩ = _ := HKD.out.c8 ⟨wr.drew, below_drewn (Below.refl _ _)⟩
      have y9 : wr.drew.cell? ⟨b, o + i * 10 + 9, none⟩ = _ := HKD.out.c9 ⟨wr.drew, below_drewn (Below.refl _ _)⟩
      clear p9
      go_region_law
        (first
          | (refine step_appN (by rfl) _ _ 35 (by rfl) 37 (.agg #[.int .i64 0, .string ⟨#[]⟩, .int .i64 0, .int .i64 0, .string ⟨#[]⟩, .string ⟨#[]⟩, .string ⟨#[]⟩, .bool false, .bool false, .slice none 0 0]) 10 120 eslice einfo (by rfl) (by decide) (w.heap.size + 3) w3 v i xs (by rfl) HOW.out (exL k2 t2 u2 (.slice a2 n2 c2)) (by rfl) (by rfl) (by rfl) (by simp [Value.oneCell']) (by omega) (by omega) (by have := HTH.out.lt; have := HB3.out.size; omega) ?_; intro g cap w5 hown5 hg5 hn5; have hbx5 := th_box HTH.out HB3.out hg5; have hnx := th_next HTH.out HB3.out HY3.out (HDL.out.symm ▸ hown5) hg5 hn5; rw [HDL.out] at hnx; have HNX := Lib.hid hnx; clear hnx; have g9 := cell_of_row _ _ 9 _ _ _ hbx5; have f9 := frozen_of_row _ _ 9 _ _ hbx5; clear hown5 hg5 hn5 hbx5)
          | (go_simp; refine HCALL.out.mono ?_; rintro e w3 ⟨v2, rfl, hb3, hy3⟩; obtain ⟨k2, t2, u2, a2, n2, c2, rfl⟩ := hy3.out.ten; have HB3 := Lib.hid (show Below wr.heap.size wr w3 from below_of_drew hb3); have HY3 := Lib.hid (show ExAt (From wr.heap.size) w3 x _ from hy3.out); have q9 : w3.cell? ⟨w.heap.size + 2, 9, none⟩ = some v := (HB3.out.cell (p := ⟨w.heap.size + 2, 9, none⟩) (by have := HTH.out.lt; show w.heap.size + 2 < _; omega)).trans v9; have q9' : ∀ O, (w3.alloc O).cell? ⟨w.heap.size + 2, 9, none⟩ = some v := fun O => cell_alloc9 q9 O; have HOW := Lib.hid (own_below (HDL.out ▸ HTH.out.own) HB3.out); clear hb3 hy3))
      all_goals
        clear x9 v9 y0 y1 y2 y3 y4 y5 y6 y7 y8 y9 q9 q9' g9 f9
        go_wp2_with fail
        go_roundw
        case rel => exact ⟨i + 1, _, _, by omega, by go_num, by rw [HTK.out]; exact HNX⟩
        case measure => (simp [intOf] <;> omega)
    · obtain rfl : i = n := by omega
      have HF := Lib.hid (show TH w wr k t u a i c l v xs by have := HTH.out; rw [List.take_of_length_le (by rw [HN.out]; exact Nat.le_refl _)] at this; exact this)
      obtain ⟨ga, gm, gc, hgv⟩ : ∃ ga gm gc, v = .slice ga gm gc := by rcases HF.out.own.2 with ⟨h1, _⟩ | ⟨g, cap, cur, h1, _⟩ <;> exact ⟨_, _, _, h1⟩
      subst hgv
      have HE := Lib.hid (th_end HF.out)
      obtain ⟨p0, p1, p2, p3, p4, p5, p6, p7, p8, p9'⟩ := ten_live HF.out.bn
      obtain ⟨f0, f1, f2, f3, f4, f5, f6, f7, f8, f9⟩ := ten_frozen HF.out.br
      obtain ⟨g0, g1, g2, g3, g4, g5, g6, g7, g8, g9⟩ := ten_live HF.out.br
      clear hlt
      go_wp2_with fail
      clear p0 p1 p2 p3 p4 p5 p6 p7 p8 p9' f0 f1 f2 f3 f4 f5 f6 f7 f8 f9 g0 g1 g2 g3 g4 g5 g6 g7 g8 g9 p9
      refine bodyPost_ret (v := exV k t u (.slice ga gm gc)) ?_ rfl ⟨_, rfl, HE.out.1, Lib.hid HE.out.2.1⟩
      exact results_tenR (b := w.heap.size + 1) rfl rfl HE.out.2.2
theorem law_theirs (x : Ex) : narrowE x → ∀ (v : Value) (w : World), ExAt (fun _ => True) w x v → Calls Tryz.prog 8 #[v] w fun e w' => ∃ v', e = .returned v' ∧ Below w.heap.size w w' ∧ Hid (ExAt (From w.heap.size) w' x v') := by
  refine Ex.ind (P := fun x => narrowE x → ∀ (v : Value) (w : World), ExAt (fun _ => True) w x v → Calls Tryz.prog 8 #[v] w fun e w' => ∃ v', e = .returned v' ∧ Below w.heap.size w w' ∧ Hid (ExAt (From w.heap.size) w' x v')) (fun k t u l ih hn v w hx => ?_) x
  have hl : narrowL l := by unfold narrowE at hn; exact hn.2
  exact law_theirs_step (.mk k t u l) hn (fun x' hx' v W h1 => ih x' hx' (narrow_mem hl hx') v W h1) v w hx
end Go.Proofs.YtbkhmkpbbggcbaaGreatDoor
namespace Go.Proofs.YtbkhmkpbbggcbaaGreatDoor
open Go.RowKit
set_option linter.unusedVariables false
mutual
def shapeE : Ex → Bs
  | .mk k t u l => if k = 10 then t else if k = 11 then t else if k = 12 then u.name else [UInt8.ofNat (64 + k.toNat), 40] ++ catS true l ++ [41]
def catS (first : Bool) : List Ex → Bs
  | [] => []
  | x :: r => (bif first then [] else [44]) ++ shapeE x ++ catS false r
end
mutual
def kindsE : Ex → Bool
  | .mk k _ _ l => decide (1 ≤ k ∧ k ≤ 12) && kindsL l
def kindsL : List Ex → Bool
  | [] => true
  | x :: r => kindsE x && kindsL r
end
theorem kinds_mem : ∀ {l : List Ex} {x : Ex}, kindsL l = true → x ∈ l → kindsE x = true
  | [], _, _, h => by cases h
  | y :: r, x, h, hx => by
    unfold kindsL at h
    rw [Bool.and_eq_true] at h
    rcases List.mem_cons.1 hx with e | hx
    · rw [e]; exact h.1
    · exact kinds_mem h.2 hx
theorem catS_snoc : ∀ (b : Bool) (l : List Ex) (x : Ex), catS b (l ++ [x]) = catS b l ++ ((bif (b && l.isEmpty) then [] else [44]) ++ shapeE x)
  | b, [], x => by simp [catS]
  | b, y :: r, x => by
    have ih := catS_snoc false r x
    rw [List.cons_append, catS, catS, ih]
    simp [List.append_assoc]
theorem catS_le : ∀ (b : Bool) (l : List Ex) (i : Nat), (catS b (l.take i)).length ≤ (catS b l).length
  | b, [], i => by simp
  | b, y :: r, 0 => by simp [catS]
  | b, y :: r, i + 1 => by
    have := catS_le false r i
    rw [List.take_succ_cons, catS, catS]; simp only [List.length_append]; omega
theorem shape_mk {k : Int} {t : Bs} {u : UseI} {l : List Ex} (h1 : k ≠ 10) (h2 : k ≠ 11) (h3 : k ≠ 12) : shapeE (.mk k t u l) = [UInt8.ofNat (64 + k.toNat), 40] ++ catS true l ++ [41] := by
  rw [shapeE, if_neg h1, if_neg h2, if_neg h3]
theorem sh_app (a b : Bs) : (⟨a.toArray⟩ : ByteArray) ++ ⟨b.toArray⟩ = ⟨(a ++ b).toArray⟩ := by
  apply ByteArray.ext; simp
theorem conv_one (w : World) (b : UInt8) (v : Int) (hv : v = (b.toNat : Int)) : (convert 76 9 (.slice (some ⟨w.heap.size, 0, none⟩) 1 1)).run Tryz.prog (w.alloc (.cells #[.int .u8 v] 5)) = .ok (.string ⟨[b].toArray⟩) (w.alloc (.cells #[.int .u8 v] 5)) := by
  subst hv
  have := run_convert_bytes_back (P := Tryz.prog) (w.alloc (.cells #[.int .u8 (b.toNat : Int)] 5)) 76 9 5 ⟨w.heap.size, 0, none⟩ 1 [b] u76 u5 u9 (fun j hj => by
    have hj0 : j = 0 := by simpa using hj
    subst hj0
    have : ((⟨w.heap.size, 0, none⟩ : Addr).add 0) = ⟨w.heap.size, 0, none⟩ := rfl
    rw [this]
    exact cell_new w _ _ 0 _ rfl)
  exact this
set_option maxRecDepth 100000 in
set_option maxHeartbeats 4000000 in
theorem law_shape_step (x : Ex) (hnar : narrowE x) (hkd : kindsE x = true) (hlen : (shapeE x).length ≤ 100000) (ih : ∀ x', x' ∈ x.kids → (shapeE x').length ≤ 100000 → ∀ (v : Value) (W : World), ExAt (fun _ => True) W x' v → Calls Tryz.prog 22 #[v] W (Ret W (.string ⟨(shapeE x').toArray⟩))) (v : Value) (w : World) (hx : ExAt (fun _ => True) w x v) :
    Calls Tryz.prog 22 #[v] w (Ret w (.string ⟨(shapeE x).toArray⟩)) := by
  obtain ⟨k, t, u, l⟩ := x
  have HIH := Lib.hid ih
  have HLM := Lib.hid (show l.length ≤ 1000000 by unfold narrowE at hnar; exact hnar.1)
  obtain ⟨kv, rfl, hk⟩ := exAt_iff.1 hx
  have HKID := Lib.hid hk
  have hl : ∃ a c, kv = .slice a l.length c := by rcases hk with ⟨rfl, a, c, rfl⟩ | ⟨b, o, c, rfl, _⟩ <;> exact ⟨_, _, rfl⟩
  obtain ⟨a, c, rfl⟩ := hl
  have HKD := Lib.hid (show 1 ≤ k ∧ k ≤ 12 by unfold kindsE at hkd; rw [Bool.and_eq_true, decide_eq_true_eq] at hkd; exact hkd.1)
  have HLE := Lib.hid hlen
  have HB := Lib.hid ((Below.refl w.heap.size w).alloc (Nat.le_refl _) (.cells (exL k t u (.slice a l.length c)).toArray 26))
  have HN0 := Lib.hid (heap_alloc_new w (.cells (exL k t u (.slice a l.length c)).toArray 26))
  clear ih hnar hx hk hkd hlen
  go_enter Tryz.func22, Tryz.ntmps22
  go_upto_region 1 with fail
  generalize w.alloc (.cells (exL k t u (.slice a l.length c)).toArray 26) = W0 at *
  obtain ⟨p0, p1, p2, p3, p4, p5, p6, p7, p8, p9⟩ := ten_cells HN0.out
  by_cases h10 : k = 10
  · subst h10
    go_wp2_with fail
    go_ret
    exact ⟨rfl, HB.out⟩
  · by_cases h11 : k = 11
    · subst h11
      go_wp2_with fail
      go_ret
      exact ⟨rfl, HB.out⟩
    · by_cases h12 : k = 12
      · subst h12
        go_wp2_with fail
        go_ret
        exact ⟨rfl, HB.out⟩
      · have HSH := Lib.hid (shape_mk (t := t) (u := u) (l := l) h10 h11 h12)
        have e10 : (k == 10) = false := beq_eq_false_iff_ne.2 h10
        have e11 : (k == 11) = false := beq_eq_false_iff_ne.2 h11
        have e12 : (k == 12) = false := beq_eq_false_iff_ne.2 h12
        have hk1 : 1 ≤ k := HKD.out.1
        have hk9 : k ≤ 9 := by have := HKD.out.2; omega
        clear h10 h11 h12
        go_upto_region 7 with fail
        clear e10 e11 e12
        obtain ⟨B, hB⟩ : ∃ B, UInt8.ofNat (64 + k.toNat) = B := ⟨_, rfl⟩
        have HBT := Lib.hid (show 65 + (k + 25) % 26 = (B.toNat : Int) by
          rw [← hB, UInt8.toNat_ofNat']; omega)
        rw [hB] at HSH
        have hcv := conv_one W0 B (65 + (k + 25) % 26) HBT.out
        have hA : Below W0.heap.size W0 (W0.alloc (.cells #[.int .u8 (65 + (k + 25) % 26)] 5)) := (Below.refl _ _).alloc (Nat.le_refl _) _
        have HA := Lib.hid hA
        rw [HSH.out] at HLE
        have HCL := Lib.hid (show (catS true l).length ≤ 99997 by have := HLE.out; simp only [List.length_append, List.length_cons, List.length_nil] at this; omega)
        clear hA hB
        go_upto_region 8 with fail
        clear hcv p0 p1 p2 p3 p4 p5 p6 p7 p8 p9
        generalize W0.alloc (.cells #[.int .u8 (65 + (k + 25) % 26)] 5) = W1 at *
        obtain ⟨S0, hS0⟩ : ∃ S0, [B, 40] ++ catS true (l.take 0) = S0 := ⟨_, rfl⟩
        rw [show ({ data := #[B] } : ByteArray) ++ { data := #[40] } = ⟨S0.toArray⟩ from by rw [← hS0, show catS true (l.take 0) = [] from rfl]; exact sh_app [B] [40]]
        have HS0 := Lib.hid hS0
        clear hS0
        obtain ⟨n, hn⟩ : ∃ n, l.length = n := ⟨_, rfl⟩
        rw [hn] at HKID HLM HN0
        rw [hn]
        have HN := Lib.hid hn
        have hn6 := HLM.out
        have HB1 := Lib.hid (HB.out.trans (HA.out.mono HB.out.size))
        clear hn
        go_upto_region 9 with fail
        go_loopw [3, 4] (fun sv iv wr => ∃ i : Nat, i ≤ n ∧ iv = .int .i64 i ∧ sv = .string ⟨([B, 40] ++ catS true (l.take i)).toArray⟩ ∧ Hid (Below W0.heap.size W0 wr)) (fun _ iv _ => n - (intOf iv).toNat)
        case atStart => exact ⟨0, Nat.zero_le _, rfl, by rw [HS0.out], HA⟩
        case round =>
          obtain ⟨i, hi, rfl, rfl, HW⟩ := hrel
          have HBB := Lib.hid (HB.out.trans (HW.out.mono HB.out.size))
          have HQ := Lib.hid ((HW.out.block _ (Array.getElem?_eq_some_iff.1 HN0.out).1).trans HN0.out)
          obtain ⟨-, -, -, -, -, -, -, -, -, p9⟩ := ten_cells HQ.out
          obtain ⟨S, hS⟩ : ∃ S, [B, 40] ++ catS true (l.take i) = S := ⟨_, rfl⟩
          have hsl : S.length ≤ 100000 := by rw [← hS, List.length_append]; have := catS_le true l i; have := HCL.out; simp only [List.length_cons, List.length_nil]; omega
          rw [hS]
          by_cases hlt : i < n
          · have i1 : (i : Int) < (n : Int) := by omega
            have i0 : (0 : Int) ≤ (i : Int) := by omega
            obtain ⟨x, hx⟩ : ∃ x, l[i]? = some x := ⟨_, List.getElem?_eq_getElem (by rw [HN.out]; exact hlt)⟩
            have htk : l.take (i + 1) = l.take i ++ [x] := by rw [List.take_add_one, hx]; rfl
            have hsn := catS_snoc true (l.take i) x
            rw [← htk] at hsn
            have hl1 := catS_le true l (i + 1)
            have HMEM := Lib.hid (show x ∈ (Ex.mk k t u l).kids from List.mem_of_getElem? hx)
            obtain ⟨b, o, c', he, hlc, hbl, hrow⟩ := kids_row HKID.out hx
            obtain ⟨rfl, rfl⟩ : a = some ⟨b, o, none⟩ ∧ c = c' := by injection he with h1 h2 h3; exact ⟨h1, h3⟩
            obtain ⟨k1, t1, u1, a1, n1, c1, hk1⟩ := kid_get hrow hx HBB.out hbl
            obtain ⟨R, hR⟩ : ∃ R, shapeE x = R := ⟨_, rfl⟩
            rw [hR] at hsn
            have hsz : R.length ≤ 99997 := by rw [hsn] at hl1; simp only [List.length_append] at hl1; have := HCL.out; omega
            have HCALL := Lib.hid (show Calls Tryz.prog 22 #[exV k1 t1 u1 (.slice a1 n1 c1)] wr (Ret wr (.string ⟨R.toArray⟩)) from hR ▸ HIH.out x HMEM.out (by rw [hR]; omega) _ wr (hk1.ex ⟨wr, Below.refl _ _⟩))
            have hemp : (l.take i).isEmpty = decide (i = 0) := by
              rw [Bool.eq_iff_iff, decide_eq_true_eq, List.isEmpty_iff, List.take_eq_nil_iff]
              constructor
              · rintro (h | h)
                · exact h
                · rw [h] at hx; simp at hx
              · exact Or.inl
            rw [hemp] at hsn
            have HSN := Lib.hid hsn
            obtain ⟨-, y0, y1, y2, y3, y4, y5, y6, y7, y8, y9⟩ := hk1
            have z0 := y0 ⟨wr, Below.refl _ _⟩
            have z1 := y1 ⟨wr, Below.refl _ _⟩
            have z2 := y2 ⟨wr, Below.refl _ _⟩
            have z3 := y3 ⟨wr, Below.refl _ _⟩
            have z4 := y4 ⟨wr, Below.refl _ _⟩
            have z5 := y5 ⟨wr, Below.refl _ _⟩
            have z6 := y6 ⟨wr, Below.refl _ _⟩
            have z7 := y7 ⟨wr, Below.refl _ _⟩
            have z8 := y8 ⟨wr, Below.refl _ _⟩
            have z9 := y9 ⟨wr, Below.refl _ _⟩
            dsimp only at z0 z1 z2 z3 z4 z5 z6 z7 z8 z9
            have HSS := Lib.hid hS
            clear hx hrow hbl he hlc y0 y1 y2 y3 y4 y5 y6 y7 y8 y9 htk hsn hl1 hR hemp hS
            by_cases hi0 : 0 < i
            · have i2 : (0 : Int) < (i : Int) := by omega
              have hg := sh_app S [44]
              have hg2 := sh_app (S ++ [44]) R
              have HG := Lib.hid (show S ++ [44] ++ R = [B, 40] ++ catS true (l.take (i + 1)) by rw [HSN.out, decide_eq_false (by omega), ← HSS.out]; simp)
              obtain ⟨S2, hS2⟩ : ∃ S2, S ++ [44] = S2 := ⟨_, rfl⟩
              have hl2 : S2.length ≤ 100001 := by rw [← hS2, List.length_append, List.length_singleton]; omega
              rw [hS2] at hg hg2 HG
              obtain ⟨S3, hS3⟩ : ∃ S3, S2 ++ R = S3 := ⟨_, rfl⟩
              rw [hS3] at hg2 HG
              clear hi0 hS2 hS3
              go_wp2_with fail
              refine HCALL.out.mono ?_
              rintro e w3 ⟨rfl, hb3⟩
              have HB3 := Lib.hid (HW.out.trans (hb3.mono HW.out.size))
              clear hb3 z0 z1 z2 z3 z4 z5 z6 z7 z8 z9 p9
              go_wp2_with fail
              go_roundw
              case rel => exact ⟨i + 1, by omega, by go_num, by rw [← HG.out], HB3⟩
              case measure => (simp [intOf] <;> omega)
            · have i2 : ¬ (0 : Int) < (i : Int) := by omega
              have hg := sh_app S R
              have HG := Lib.hid (show S ++ R = [B, 40] ++ catS true (l.take (i + 1)) by rw [HSN.out, decide_eq_true (by omega), ← HSS.out]; simp)
              obtain ⟨S3, hS3⟩ : ∃ S3, S ++ R = S3 := ⟨_, rfl⟩
              rw [hS3] at hg HG
              clear hi0 hS3
              go_wp2_with fail
              refine HCALL.out.mono ?_
              rintro e w3 ⟨rfl, hb3⟩
              have HB3 := Lib.hid (HW.out.trans (hb3.mono HW.out.size))
              clear hb3 z0 z1 z2 z3 z4 z5 z6 z7 z8 z9 p9
              go_wp2_with fail
              go_roundw
              case rel => exact ⟨i + 1, by omega, by go_num, by rw [← HG.out], HB3⟩
              case measure => (simp [intOf] <;> omega)
          · obtain rfl : i = n := by omega
            have hg := sh_app S [41]
            have HSS := Lib.hid (show shapeE (.mk k t u l) = S ++ [41] by rw [HSH.out, ← hS, List.take_of_length_le (by rw [HN.out]; exact Nat.le_refl _)])
            clear hlt hS
            go_wp2_with fail
            go_ret
            exact ⟨by rw [HSS.out, ← hg]; rfl, HBB.out⟩
theorem law_shape (x : Ex) : narrowE x → kindsE x = true → (shapeE x).length ≤ 100000 → ∀ (v : Value) (w : World), ExAt (fun _ => True) w x v → Calls Tryz.prog 22 #[v] w (Ret w (.string ⟨(shapeE x).toArray⟩)) := by
  refine Ex.ind (P := fun x => narrowE x → kindsE x = true → (shapeE x).length ≤ 100000 → ∀ (v : Value) (w : World), ExAt (fun _ => True) w x v → Calls Tryz.prog 22 #[v] w (Ret w (.string ⟨(shapeE x).toArray⟩))) (fun k t u l ih hn hk hlen v w hx => ?_) x
  have hl : narrowL l := by unfold narrowE at hn; exact hn.2
  have hl2 : kindsL l = true := by unfold kindsE at hk; rw [Bool.and_eq_true] at hk; exact hk.2
  exact law_shape_step (.mk k t u l) hn hk hlen (fun x' hx' hlen' v W h1 => ih x' hx' (narrow_mem hl hx') (kinds_mem hl2 hx') hlen' v W h1) v w hx
end Go.Proofs.YtbkhmkpbbggcbaaGreatDoor
namespace Go.Proofs.YtbkhmkpbbggcbaaGreatDoor
open Go.RowKit
set_option linter.unusedVariables false
theorem results_seven {fn : Func} {W : World} {tmps : Array Value} {b slot : Nat} {v0 v1 v2 v3 v4 v5 v6 : Value} (h : fn.results = #[.cell slot 23]) (ht : tmps.getD slot undef = .pointer (some ⟨b, 0, none⟩)) (hW : W.heap[b]? = some (.cells #[v0, v1, v2, v3, v4, v5, v6] 23)) :
    (results fn tmps).run Tryz.prog W = .ok (.agg #[v0, v1, v2, v3, v4, v5, v6]) W := by
  obtain ⟨-, -, -, -, -, -, -, y0, y1, y2, y3, y4, y5, y6⟩ := seven_live hW
  have ht2 : tmps[slot]?.getD undef = .pointer (some ⟨b, 0, none⟩) := by rw [← ht]; simp
  simp [results, h, go_sem, ht2, y0, y1, y2, y3, y4, y5, y6]
set_option maxRecDepth 100000 in
theorem test_plain (u : UseI) (w : World) : Calls Tryz.prog 19 #[useIV u] w (Ret w (.agg #[.int .i64 0, .int .i64 0, .string ⟨u.name.toArray⟩, .string ⟨u.key.toArray⟩, .string ⟨u.dft.toArray⟩, .bool u.hk, .bool u.hd])) := by
  go_enter Tryz.func19, Tryz.ntmps19
  go_wp2_with fail
  have HT := Lib.hid (two_new w (.cells #[.int .i64 0, .int .i64 0, .string ⟨u.name.toArray⟩, .string ⟨u.key.toArray⟩, .string ⟨u.dft.toArray⟩, .bool u.hk, .bool u.hd] 23) (.cells #[.int .i64 0, .int .i64 0, .string ⟨u.name.toArray⟩, .string ⟨u.key.toArray⟩, .string ⟨u.dft.toArray⟩, .bool u.hk, .bool u.hd] 23))
  refine bodyPost_ret (v := .agg #[.int .i64 0, .int .i64 0, .string ⟨u.name.toArray⟩, .string ⟨u.key.toArray⟩, .string ⟨u.dft.toArray⟩, .bool u.hk, .bool u.hd]) ?_ rfl ⟨rfl, HT.out.below⟩
  exact results_seven (b := w.heap.size + 1) rfl rfl HT.out.b2
set_option maxRecDepth 100000 in
set_option maxHeartbeats 4000000 in
theorem lib_EqualFunc (l l2 : List Ex) (hlm : l.length ≤ 1000000) (hcb : ∀ x, x ∈ l → ∀ (y : Ex) (v v2 : Value) (W : World), ExAt (fun _ => True) W x v → ExAt (fun _ => True) W y v2 → Calls Tryz.prog 9 #[v, v2] W (Ret W (.bool (sameE x y)))) (a a2 : Option Addr) (c c2 : Nat) (w : World) (hk : KidsAt (fun _ => True) w l (.slice a l.length c)) (hk2 : KidsAt (fun _ => True) w l2 (.slice a2 l2.length c2)) :
    Calls Tryz.prog 20 #[.slice a l.length c, .slice a2 l2.length c2, .func (.func 9) #[] #[]] w (Ret w (.bool (sameL l l2))) := by
  have HCB := Lib.hid hcb
  have HKID := Lib.hid hk
  have HKID2 := Lib.hid hk2
  have HLM := Lib.hid hlm
  clear hcb hk hk2
  go_enter Tryz.func20, Tryz.ntmps20
  go_upto_region 1 with fail
  by_cases hl : l.length = l2.length
  · have HLN := Lib.hid hl
    have hn6 : l2.length ≤ 1000000 := by have := HLM.out; omega
    rw [hl]
    rw [hl] at HKID
    obtain ⟨n, hn⟩ : ∃ n, l2.length = n := ⟨_, rfl⟩
    rw [hn] at HKID HKID2 HLN hn6
    rw [hn]
    have HN2 := Lib.hid hn
    clear hl hn hlm
    go_upto_region 4 with fail
    go_loopw [17] (fun iv wr => ∃ i : Nat, i ≤ n ∧ iv = .int .i64 i ∧ Hid (sameL l l2 = sameL (l.drop i) (l2.drop i)) ∧ Hid (Below w.heap.size w wr)) (fun iv _ => n - (intOf iv).toNat)
    case atStart => exact ⟨0, Nat.zero_le _, rfl, Lib.hid rfl, Lib.hid (Below.refl _ _)⟩
    case round =>
      obtain ⟨i, hi, rfl, HS, HW⟩ := hrel
      by_cases hlt : i < n
      · have i1 : (i : Int) < (n : Int) := by omega
        have i0 : (0 : Int) ≤ (i : Int) := by omega
        obtain ⟨x, hx⟩ : ∃ x, l[i]? = some x := ⟨_, List.getElem?_eq_getElem (by rw [HLN.out]; exact hlt)⟩
        obtain ⟨y, hy⟩ : ∃ y, l2[i]? = some y := ⟨_, List.getElem?_eq_getElem (by rw [HN2.out]; exact hlt)⟩
        have HMEM := Lib.hid (show x ∈ l from List.mem_of_getElem? hx)
        have HST := Lib.hid (sameL_step hx hy)
        obtain ⟨b, o, c', he, hlc, hbl, hrow⟩ := kids_row HKID.out hx
        obtain ⟨b', o', c2', he', hlc', hbl', hrow'⟩ := kids_row HKID2.out hy
        obtain ⟨rfl, rfl⟩ : a = some ⟨b, o, none⟩ ∧ c = c' := by injection he with h1 h2 h3; exact ⟨h1, h3⟩
        obtain ⟨rfl, rfl⟩ : a2 = some ⟨b', o', none⟩ ∧ c2 = c2' := by injection he' with h1 h2 h3; exact ⟨h1, h3⟩
        obtain ⟨k1, t1, u1, a1, n1, c1, hk1⟩ := kid_get hrow hx HW.out hbl
        obtain ⟨k3, t3, u3, a3, n3, c3, hk3⟩ := kid_get hrow' hy HW.out hbl'
        have HK1 := Lib.hid hk1
        have HK3 := Lib.hid hk3
        obtain ⟨q, hq⟩ : ∃ q, sameE x y = q := ⟨_, rfl⟩
        have HCALL := Lib.hid (show ∀ W, Below wr.heap.size wr W → Calls Tryz.prog 9 #[exV k1 t1 u1 (.slice a1 n1 c1), exV k3 t3 u3 (.slice a3 n3 c3)] W (Ret W (.bool q)) from fun W hW => hq ▸ HCB.out x HMEM.out y _ _ _ (hk1.ex ⟨W, hW⟩) (hk3.ex ⟨W, hW⟩))
        have HQ := Lib.hid hq
        clear hq hx hy hrow hrow' hbl hbl' he he' hk1 hk3 hlc hlc'
        have y0 : wr.cell? ⟨b, o + i * 10, none⟩ = _ := HK1.out.c0 ⟨wr, Below.refl _ _⟩
        have y1 : wr.cell? ⟨b, o + i * 10 + 1, none⟩ = _ := HK1.out.c1 ⟨wr, Below.refl _ _⟩
        have y2 : wr.cell? ⟨b, o + i * 10 + 2, none⟩ = _ := HK1.out.c2 ⟨wr, Below.refl _ _⟩
        have y3 : wr.cell? ⟨b, o + i * 10 + 3, none⟩ = _ := HK1.out.c3 ⟨wr, Below.refl _ _⟩
        have y4 : wr.cell? ⟨b, o + i * 10 + 4, none⟩ = _ := HK1.out.c4 ⟨wr, Below.refl _ _⟩
        have y5 : wr.cell? ⟨b, o + i * 10 + 5, none⟩ = _ := HK1.out.c5 ⟨wr, Below.refl _ _⟩
        have y6 : wr.cell? ⟨b, o + i * 10 + 6, none⟩ = _ := HK1.out.c6 ⟨wr, Below.refl _ _⟩
        have y7 : wr.cell? ⟨b, o + i * 10 + 7, none⟩ = _ := HK1.out.c7 ⟨wr, Below.refl _ _⟩
        have y8 : wr.cell? ⟨b, o + i * 10 + 8, none⟩ = _ := HK1.out.c8 ⟨wr, Below.refl _ _⟩
        have y9 : wr.cell? ⟨b, o + i * 10 + 9, none⟩ = _ := HK1.out.c9 ⟨wr, Below.refl _ _⟩
        have z0 : ∀ O, (wr.alloc O).cell? ⟨b', o' + i * 10, none⟩ = _ := fun O => HK3.out.c0 ⟨wr.alloc O, (Below.refl _ _).alloc (Nat.le_refl _) _⟩
        have z1 : ∀ O, (wr.alloc O).cell? ⟨b', o' + i * 10 + 1, none⟩ = _ := fun O => HK3.out.c1 ⟨wr.alloc O, (Below.refl _ _).alloc (Nat.le_refl _) _⟩
        have z2 : ∀ O, (wr.alloc O).cell? ⟨b', o' + i * 10 + 2, none⟩ = _ := fun O => HK3.out.c2 ⟨wr.alloc O, (Below.refl _ _).alloc (Nat.le_refl _) _⟩
        have z3 : ∀ O, (wr.alloc O).cell? ⟨b', o' + i * 10 + 3, none⟩ = _ := fun O => HK3.out.c3 ⟨wr.alloc O, (Below.refl _ _).alloc (Nat.le_refl _) _⟩
        have z4 : ∀ O, (wr.alloc O).cell? ⟨b', o' + i * 10 + 4, none⟩ = _ := fun O => HK3.out.c4 ⟨wr.alloc O, (Below.refl _ _).alloc (Nat.le_refl _) _⟩
        have z5 : ∀ O, (wr.alloc O).cell? ⟨b', o' + i * 10 + 5, none⟩ = _ := fun O => HK3.out.c5 ⟨wr.alloc O, (Below.refl _ _).alloc (Nat.le_refl _) _⟩
        have z6 : ∀ O, (wr.alloc O).cell? ⟨b', o' + i * 10 + 6, none⟩ = _ := fun O => HK3.out.c6 ⟨wr.alloc O, (Below.refl _ _).alloc (Nat.le_refl _) _⟩
        have z7 : ∀ O, (wr.alloc O).cell? ⟨b', o' + i * 10 + 7, none⟩ = _ := fun O => HK3.out.c7 ⟨wr.alloc O, (Below.refl _ _).alloc (Nat.le_refl _) _⟩
        have z8 : ∀ O, (wr.alloc O).cell? ⟨b', o' + i * 10 + 8, none⟩ = _ := fun O => HK3.out.c8 ⟨wr.alloc O, (Below.refl _ _).alloc (Nat.le_refl _) _⟩
        have z9 : ∀ O, (wr.alloc O).cell? ⟨b', o' + i * 10 + 9, none⟩ = _ := fun O => HK3.out.c9 ⟨wr.alloc O, (Below.refl _ _).alloc (Nat.le_refl _) _⟩
        go_wp2_with fail
        refine (HCALL.out _ (two_new wr _ _).below).mono ?_
        rintro e w3 ⟨rfl, hb3⟩
        have HB3 := Lib.hid (HW.out.trans (((two_new wr _ _).below.trans (hb3.mono (two_new wr _ _).below.size)).mono HW.out.size))
        clear hb3 y0 y1 y2 y3 y4 y5 y6 y7 y8 y9 z0 z1 z2 z3 z4 z5 z6 z7 z8 z9
        cases q
        · have HE := Lib.hid (show sameL l l2 = false by rw [HS.out, HST.out, HQ.out]; rfl)
          go_wp2_with fail
          go_ret
          exact ⟨by rw [HE.out]; rfl, HB3.out⟩
        · have HE := Lib.hid (show sameL l l2 = sameL (l.drop (i + 1)) (l2.drop (i + 1)) by rw [HS.out, HST.out, HQ.out]; rfl)
          go_wp2_with fail
          go_roundw
          case rel => exact ⟨i + 1, by omega, by go_num, Lib.hid HE.out, HB3⟩
          case measure => (simp [intOf] <;> omega)
      · obtain rfl : i = n := by omega
        have HE := Lib.hid (show sameL l l2 = true by rw [HS.out]; have := sameL_end (l := l) (l2 := l2) (by rw [HLN.out, HN2.out]); rw [HLN.out] at this; exact this)
        clear hlt
        go_wp2_with fail
        go_ret
        exact ⟨by rw [HE.out]; rfl, HW.out⟩
  · have hl3 : ((l.length : Int) == (l2.length : Int)) = false := by rw [beq_eq_false_iff_ne]; omega
    have HS := Lib.hid (sameL_ne hl)
    clear hl
    go_wp2_with fail
    go_ret
    exact ⟨by rw [HS.out]; rfl, Below.refl _ _⟩
theorem equal_useP (u u2 : UseI) (W : World) : (Op.equalIn 10000 23 (.agg #[.int .i64 0, .int .i64 0, .string ⟨u.name.toArray⟩, .string ⟨u.key.toArray⟩, .string ⟨u.dft.toArray⟩, .bool u.hk, .bool u.hd]) (.agg #[.int .i64 0, .int .i64 0, .string ⟨u2.name.toArray⟩, .string ⟨u2.key.toArray⟩, .string ⟨u2.dft.toArray⟩, .bool u2.hk, .bool u2.hd])).run Tryz.prog W = .ok (useSame u u2) W := by
  simp only [useSame]
  simp [go_sem]
  repeat' split
  all_goals simp_all
set_option maxRecDepth 100000 in
set_option maxHeartbeats 8000000 in
theorem test_Same_step (x y : Ex) (hnar : narrowE x) (ih : ∀ x', x' ∈ x.kids → ∀ (y' : Ex) (v v2 : Value) (W : World), ExAt (fun _ => True) W x' v → ExAt (fun _ => True) W y' v2 → Calls Tryz.prog 9 #[v, v2] W (Ret W (.bool (sameE x' y')))) (v v2 : Value) (w : World) (hx : ExAt (fun _ => True) w x v) (hy : ExAt (fun _ => True) w y v2) :
    Calls Tryz.prog 9 #[v, v2] w (Ret w (.bool (sameE x y))) := by
  obtain ⟨k, t, u, l⟩ := x
  obtain ⟨k2, t2, u2, l2⟩ := y
  have hlm : l.length ≤ 1000000 := by unfold narrowE at hnar; exact hnar.1
  obtain ⟨kv, rfl, hk⟩ := exAt_iff.1 hx
  obtain ⟨kv2, rfl, hk2⟩ := exAt_iff.1 hy
  have hl : ∃ a c, kv = .slice a l.length c := by rcases hk with ⟨rfl, a, c, rfl⟩ | ⟨b, o, c, rfl, _⟩ <;> exact ⟨_, _, rfl⟩
  have hl2 : ∃ a c, kv2 = .slice a l2.length c := by rcases hk2 with ⟨rfl, a, c, rfl⟩ | ⟨b, o, c, rfl, _⟩ <;> exact ⟨_, _, rfl⟩
  obtain ⟨a, c, rfl⟩ := hl
  obtain ⟨a2, c2, rfl⟩ := hl2
  have HT := Lib.hid (ten_two (w := w) (W := w) (k := k) (t := t) (u := u) (kv := .slice a l.length c) (k2 := k2) (t2 := t2) (u2 := u2) (kv2 := .slice a2 l2.length c2) (T := 26))
  have HEQ := Lib.hid (equal_useP u u2)
  obtain ⟨q, hq⟩ : ∃ q, sameL l l2 = q := ⟨_, rfl⟩
  have hef := fun (W : World) (hW : Below w.heap.size w W) => lib_EqualFunc l l2 hlm (fun x' hx' y' v v2 W h1 h2 => ih x' hx' y' v v2 W h1 h2) a a2 c c2 W (kids_next hk hW) (kids_next hk2 hW)
  rw [hq] at hef
  have HQ := Lib.hid hq
  have HEF0 := Lib.hid hef
  clear ih hnar hx hy hk hk2 hef hq hlm
  go_enter Tryz.func9, Tryz.ntmps9
  go_upto_region 1 with fail
  generalize ((w.alloc (.cells (exL k t u (.slice a l.length c)).toArray 26)).alloc (.cells (exL k2 t2 u2 (.slice a2 l2.length c2)).toArray 26)) = W0 at *
  have HB := Lib.hid HT.out.below
  have HB1 := Lib.hid HT.out.b1
  have HB2 := Lib.hid HT.out.b2
  have HEF := Lib.hid (fun B : BW W0 => HEF0.out B.val (HB.out.trans (B.below.mono HB.out.size)))
  have p0 : ∀ B : BW W0, B.val.cell? ⟨w.heap.size, 0, none⟩ = _ := fun B => cell_of_row _ _ 0 _ _ _ ((B.below.block _ (Array.getElem?_eq_some_iff.1 HB1.out).1).trans HB1.out)
  have p1 : ∀ B : BW W0, B.val.cell? ⟨w.heap.size, 1, none⟩ = _ := fun B => cell_of_row _ _ 1 _ _ _ ((B.below.block _ (Array.getElem?_eq_some_iff.1 HB1.out).1).trans HB1.out)
  have p2 : ∀ B : BW W0, B.val.cell? ⟨w.heap.size, 2, none⟩ = _ := fun B => cell_of_row _ _ 2 _ _ _ ((B.below.block _ (Array.getElem?_eq_some_iff.1 HB1.out).1).trans HB1.out)
  have p3 : ∀ B : BW W0, B.val.cell? ⟨w.heap.size, 3, none⟩ = _ := fun B => cell_of_row _ _ 3 _ _ _ ((B.below.block _ (Array.getElem?_eq_some_iff.1 HB1.out).1).trans HB1.out)
  have p4 : ∀ B : BW W0, B.val.cell? ⟨w.heap.size, 4, none⟩ = _ := fun B => cell_of_row _ _ 4 _ _ _ ((B.below.block _ (Array.getElem?_eq_some_iff.1 HB1.out).1).trans HB1.out)
  have p5 : ∀ B : BW W0, B.val.cell? ⟨w.heap.size, 5, none⟩ = _ := fun B => cell_of_row _ _ 5 _ _ _ ((B.below.block _ (Array.getElem?_eq_some_iff.1 HB1.out).1).trans HB1.out)
  have p6 : ∀ B : BW W0, B.val.cell? ⟨w.heap.size, 6, none⟩ = _ := fun B => cell_of_row _ _ 6 _ _ _ ((B.below.block _ (Array.getElem?_eq_some_iff.1 HB1.out).1).trans HB1.out)
  have p7 : ∀ B : BW W0, B.val.cell? ⟨w.heap.size, 7, none⟩ = _ := fun B => cell_of_row _ _ 7 _ _ _ ((B.below.block _ (Array.getElem?_eq_some_iff.1 HB1.out).1).trans HB1.out)
  have p8 : ∀ B : BW W0, B.val.cell? ⟨w.heap.size, 8, none⟩ = _ := fun B => cell_of_row _ _ 8 _ _ _ ((B.below.block _ (Array.getElem?_eq_some_iff.1 HB1.out).1).trans HB1.out)
  have p9 : ∀ B : BW W0, B.val.cell? ⟨w.heap.size, 9, none⟩ = _ := fun B => cell_of_row _ _ 9 _ _ _ ((B.below.block _ (Array.getElem?_eq_some_iff.1 HB1.out).1).trans HB1.out)
  have r0 : ∀ B : BW W0, B.val.cell? ⟨w.heap.size + 1, 0, none⟩ = _ := fun B => cell_of_row _ _ 0 _ _ _ ((B.below.block _ (Array.getElem?_eq_some_iff.1 HB2.out).1).trans HB2.out)
  have r1 : ∀ B : BW W0, B.val.cell? ⟨w.heap.size + 1, 1, none⟩ = _ := fun B => cell_of_row _ _ 1 _ _ _ ((B.below.block _ (Array.getElem?_eq_some_iff.1 HB2.out).1).trans HB2.out)
  have r2 : ∀ B : BW W0, B.val.cell? ⟨w.heap.size + 1, 2, none⟩ = _ := fun B => cell_of_row _ _ 2 _ _ _ ((B.below.block _ (Array.getElem?_eq_some_iff.1 HB2.out).1).trans HB2.out)
  have r3 : ∀ B : BW W0, B.val.cell? ⟨w.heap.size + 1, 3, none⟩ = _ := fun B => cell_of_row _ _ 3 _ _ _ ((B.below.block _ (Array.getElem?_eq_some_iff.1 HB2.out).1).trans HB2.out)
  have r4 : ∀ B : BW W0, B.val.cell? ⟨w.heap.size + 1, 4, none⟩ = _ := fun B => cell_of_row _ _ 4 _ _ _ ((B.below.block _ (Array.getElem?_eq_some_iff.1 HB2.out).1).trans HB2.out)
  have r5 : ∀ B : BW W0, B.val.cell? ⟨w.heap.size + 1, 5, none⟩ = _ := fun B => cell_of_row _ _ 5 _ _ _ ((B.below.block _ (Array.getElem?_eq_some_iff.1 HB2.out).1).trans HB2.out)
  have r6 : ∀ B : BW W0, B.val.cell? ⟨w.heap.size + 1, 6, none⟩ = _ := fun B => cell_of_row _ _ 6 _ _ _ ((B.below.block _ (Array.getElem?_eq_some_iff.1 HB2.out).1).trans HB2.out)
  have r7 : ∀ B : BW W0, B.val.cell? ⟨w.heap.size + 1, 7, none⟩ = _ := fun B => cell_of_row _ _ 7 _ _ _ ((B.below.block _ (Array.getElem?_eq_some_iff.1 HB2.out).1).trans HB2.out)
  have r8 : ∀ B : BW W0, B.val.cell? ⟨w.heap.size + 1, 8, none⟩ = _ := fun B => cell_of_row _ _ 8 _ _ _ ((B.below.block _ (Array.getElem?_eq_some_iff.1 HB2.out).1).trans HB2.out)
  have r9 : ∀ B : BW W0, B.val.cell? ⟨w.heap.size + 1, 9, none⟩ = _ := fun B => cell_of_row _ _ 9 _ _ _ ((B.below.block _ (Array.getElem?_eq_some_iff.1 HB2.out).1).trans HB2.out)
  haveI : Nonempty (BW W0) := ⟨⟨W0, Below.refl _ _⟩⟩
  clear HT
  by_cases h1 : k = k2
  · subst h1
    by_cases h2 : t = t2
    · subst h2
      have heq := HEQ.out
      cases hu : useSame u u2
      · rw [hu] at heq
        refine wp_region_last_lit 28 (fun B : BW W0 => B.val) ⟨W0.drew, below_drewn (Below.refl _ _)⟩ rfl (by kernel_rfl) (by rfl) (by rfl) (by kernel_rfl) (by kernel_rfl) (by kernel_rfl) ?_
        simp only [List.take_succ_cons, List.take_zero]
        repeat (quiet_step ((first
          | (go_at_call 19; refine (test_plain u _).mono ?_; rintro e v1 ⟨rfl, hb1⟩; exact ⟨rfl, ⟨v1, BW.next _ hb1⟩, rfl⟩)
          | (go_at_call 19; refine (test_plain u2 _).mono ?_; rintro e v1 ⟨rfl, hb1⟩; exact ⟨rfl, ⟨v1, BW.next _ hb1⟩, rfl⟩)
          | (go_at_call 20; refine (HEF.out _).mono ?_; rintro e v1 ⟨rfl, hb1⟩; exact ⟨rfl, ⟨v1, BW.next _ hb1⟩, rfl⟩))))
        refine wpQuiet_nil ?_
        rintro w' ⟨B, rfl⟩
        rw [if_pos (by rfl)]
        have HBE := Lib.hid (HB.out.trans (B.below.mono HB.out.size))
        go_simp
        go_wp2_with fail
        go_ret
        exact ⟨by rw [sameE_mk, hu]; simp, HBE.out⟩
      · rw [hu] at heq
        refine wp_region_last_lit 28 (fun B : BW W0 => B.val) ⟨W0.drew, below_drewn (Below.refl _ _)⟩ rfl (by kernel_rfl) (by rfl) (by rfl) (by kernel_rfl) (by kernel_rfl) (by kernel_rfl) ?_
        simp only [List.take_succ_cons, List.take_zero]
        repeat (quiet_step ((first
          | (go_at_call 19; refine (test_plain u _).mono ?_; rintro e v1 ⟨rfl, hb1⟩; exact ⟨rfl, ⟨v1, BW.next _ hb1⟩, rfl⟩)
          | (go_at_call 19; refine (test_plain u2 _).mono ?_; rintro e v1 ⟨rfl, hb1⟩; exact ⟨rfl, ⟨v1, BW.next _ hb1⟩, rfl⟩)
          | (go_at_call 20; refine (HEF.out _).mono ?_; rintro e v1 ⟨rfl, hb1⟩; exact ⟨rfl, ⟨v1, BW.next _ hb1⟩, rfl⟩))))
        refine wpQuiet_nil ?_
        rintro w' ⟨B, rfl⟩
        rw [if_pos (by rfl)]
        have HBE := Lib.hid (HB.out.trans (B.below.mono HB.out.size))
        go_simp
        go_wp2_with fail
        go_ret
        exact ⟨by rw [sameE_mk, hu, HQ.out]; simp, HBE.out⟩
    · have h2b : (t == t2) = false := by rw [beq_eq_false_iff_ne]; exact h2
      have H2 := Lib.hid h2b
      clear h2
      refine wp_region_last_lit 28 (fun B : BW W0 => B.val) ⟨W0.drew, below_drewn (Below.refl _ _)⟩ rfl (by kernel_rfl) (by rfl) (by rfl) (by kernel_rfl) (by kernel_rfl) (by kernel_rfl) ?_
      simp only [List.take_succ_cons, List.take_zero]
      repeat (quiet_step ((first
        | (go_at_call 19; refine (test_plain u _).mono ?_; rintro e v1 ⟨rfl, hb1⟩; exact ⟨rfl, ⟨v1, BW.next _ hb1⟩, rfl⟩)
        | (go_at_call 19; refine (test_plain u2 _).mono ?_; rintro e v1 ⟨rfl, hb1⟩; exact ⟨rfl, ⟨v1, BW.next _ hb1⟩, rfl⟩)
        | (go_at_call 20; refine (HEF.out _).mono ?_; rintro e v1 ⟨rfl, hb1⟩; exact ⟨rfl, ⟨v1, BW.next _ hb1⟩, rfl⟩))))
      refine wpQuiet_nil ?_
      rintro w' ⟨B, rfl⟩
      rw [if_pos (by rfl)]
      have HBE := Lib.hid (HB.out.trans (B.below.mono HB.out.size))
      go_simp
      go_wp2_with fail
      go_ret
      exact ⟨by rw [sameE_mk, H2.out]; simp, HBE.out⟩
  · have h1b : (k == k2) = false := by rw [beq_eq_false_iff_ne]; exact h1
    have H1 := Lib.hid (decide_eq_false h1)
    clear h1
    refine wp_region_last_lit 28 (fun B : BW W0 => B.val) ⟨W0.drew, below_drewn (Below.refl _ _)⟩ rfl (by kernel_rfl) (by rfl) (by rfl) (by kernel_rfl) (by kernel_rfl) (by kernel_rfl) ?_
    simp only [List.take_succ_cons, List.take_zero]
    repeat (quiet_step ((first
      | (go_at_call 19; refine (test_plain u _).mono ?_; rintro e v1 ⟨rfl, hb1⟩; exact ⟨rfl, ⟨v1, BW.next _ hb1⟩, rfl⟩)
      | (go_at_call 19; refine (test_plain u2 _).mono ?_; rintro e v1 ⟨rfl, hb1⟩; exact ⟨rfl, ⟨v1, BW.next _ hb1⟩, rfl⟩)
      | (go_at_call 20; refine (HEF.out _).mono ?_; rintro e v1 ⟨rfl, hb1⟩; exact ⟨rfl, ⟨v1, BW.next _ hb1⟩, rfl⟩))))
    refine wpQuiet_nil ?_
    rintro w' ⟨B, rfl⟩
    rw [if_pos (by rfl)]
    have HBE := Lib.hid (HB.out.trans (B.below.mono HB.out.size))
    go_simp
    go_wp2_with fail
    go_ret
    exact ⟨by rw [sameE_mk, H1.out]; simp, HBE.out⟩
theorem test_Same (x : Ex) : narrowE x → ∀ (y : Ex) (v v2 : Value) (w : World), ExAt (fun _ => True) w x v → ExAt (fun _ => True) w y v2 → Calls Tryz.prog 9 #[v, v2] w (Ret w (.bool (sameE x y))) := by
  refine Ex.ind (P := fun x => narrowE x → ∀ (y : Ex) (v v2 : Value) (w : World), ExAt (fun _ => True) w x v → ExAt (fun _ => True) w y v2 → Calls Tryz.prog 9 #[v, v2] w (Ret w (.bool (sameE x y)))) (fun k t u l ih hn y v v2 w hx hy => ?_) x
  have hl : narrowL l := by unfold narrowE at hn; exact hn.2
  exact test_Same_step (.mk k t u l) y hn (fun x' hx' y' v v2 W h1 h2 => ih x' hx' (narrow_mem hl hx') y' v v2 W h1 h2) v v2 w hx hy
end Go.Proofs.YtbkhmkpbbggcbaaGreatDoor
namespace Go.Proofs.YtbkhmkpbbggcbaaGreatDoor
open Go.RowKit
set_option linter.unusedVariables false
set_option maxRecDepth 100000 in
set_option maxHeartbeats 4000000 in
theorem law27_is (s want : Bs) (w : World) (hG : Good w) (hs : s.length ≤ 100000) (h1 : (testB s).2.1 = 0) (h2 : (testB s).2.2 = 0) (h3 : shapeE (testB s).1 = want) (h4 : kindsE (testB s).1 = true) (h5 : want.length ≤ 100000) :
    Calls Tryz.prog 12 #[.string ⟨s.toArray⟩, .string ⟨want.toArray⟩] w (Ret w (.bool true)) := by
  have HNR := Lib.hid (testB_narrow s)
  go_enter Tryz.func12, Tryz.ntmps12
  go_wp2_with fail
  refine (test_Parse w s hs hG).mono ?_
  rintro e w1 ⟨v, rfl, hb, hx⟩
  rw [h1, h2]
  obtain ⟨X, hX⟩ : ∃ X, (testB s).1 = X := ⟨_, rfl⟩
  rw [hX] at hx h3 h4 HNR
  obtain ⟨k, t, u, a, n, c, rfl⟩ := hx.out.ten
  have hA : Below w1.heap.size w1 (w1.alloc (.cells (exL k t u (.slice a n c)).toArray 26)) := (Below.refl _ _).alloc (Nat.le_refl _) _
  have HX := Lib.hid ((hx.out.next hA).any)
  have HB := Lib.hid (hb.trans (hA.mono hb.size))
  have HN := Lib.hid (heap_alloc_new w1 (.cells (exL k t u (.slice a n c)).toArray 26))
  have H3 := Lib.hid h3
  have H4 := Lib.hid h4
  have H5 := Lib.hid h5
  clear h1 h2 h3 h4 h5 hX hx hb hA
  go_upto_region 2 with fail
  generalize w1.alloc (.cells (exL k t u (.slice a n c)).toArray 26) = W1 at *
  obtain ⟨p0, p1, p2, p3, p4, p5, p6, p7, p8, p9⟩ := ten_cells HN.out
  go_wp2_with fail
  refine (law_shape X HNR.out H4.out (by rw [H3.out]; exact H5.out) _ W1 HX.out).mono ?_
  rintro e w2 ⟨rfl, hb2⟩
  rw [H3.out]
  have HB2 := Lib.hid (HB.out.trans (hb2.mono HB.out.size))
  clear hb2 p0 p1 p2 p3 p4 p5 p6 p7 p8 p9
  go_wp2_with fail
  go_ret
  exact ⟨rfl, HB2.out⟩
set_option maxRecDepth 100000 in
set_option maxHeartbeats 4000000 in
theorem law27_fails (s : Bs) (at' : Nat) (e' : Int) (w : World) (hG : Good w) (hs : s.length ≤ 100000) (h1 : testB s = (noEx, at', e')) :
    Calls Tryz.prog 13 #[.string ⟨s.toArray⟩, .int .i64 (at' : Int), .int .i64 e'] w (Ret w (.bool true)) := by
  go_enter Tryz.func13, Tryz.ntmps13
  go_wp2_with fail
  refine (test_Parse w s hs hG).mono ?_
  rintro e w1 ⟨v, rfl, hb, hx⟩
  rw [h1]
  rw [h1] at hx
  obtain ⟨k, t, u, a, n, c, rfl⟩ := hx.out.ten
  have hA : Below w1.heap.size w1 (w1.alloc (.cells (exL k t u (.slice a n c)).toArray 26)) := (Below.refl _ _).alloc (Nat.le_refl _) _
  have HX := Lib.hid ((hx.out.next hA).any)
  have HB := Lib.hid (hb.trans (hA.mono hb.size))
  have HN := Lib.hid (heap_alloc_new w1 (.cells (exL k t u (.slice a n c)).toArray 26))
  clear h1 hx hb hA
  go_upto_region 2 with fail
  generalize w1.alloc (.cells (exL k t u (.slice a n c)).toArray 26) = W1 at *
  obtain ⟨p0, p1, p2, p3, p4, p5, p6, p7, p8, p9⟩ := ten_cells HN.out
  go_wp2_with fail
  refine (test_Same noEx (narrow_leaf 0 [] noUseI) noEx _ _ W1 HX.out (show ExAt (fun _ => True) W1 noEx (exV 0 [] noUseI (.slice none 0 0)) from noEx_at _ _)).mono ?_
  rintro e w2 ⟨rfl, hb2⟩
  rw [sameE_refl]
  have HB2 := Lib.hid (HB.out.trans (hb2.mono HB.out.size))
  clear hb2 p0 p1 p2 p3 p4 p5 p6 p7 p8 p9
  go_wp2_with fail
  go_ret
  exact ⟨rfl, HB2.out⟩
set_option maxRecDepth 100000 in
set_option maxHeartbeats 4000000 in
theorem law27_awake (w : World) (hG : Good w) : Calls Tryz.prog 5 #[] w (Ret w (.bool true)) := by
  go_enter Tryz.func5, Tryz.ntmps5
  go_wp2_with fail
  refine (law27_is [49, 61, 61, 50, 32, 124, 32, 33, 36, 40, 72, 84, 84, 80, 95, 72, 79, 83, 84, 41, 32, 38, 32, 39, 97, 32, 98, 39] [65, 40, 68, 40, 49, 44, 50, 41, 44, 66, 40, 67, 40, 72, 84, 84, 80, 95, 72, 79, 83, 84, 41, 44, 97, 32, 98, 41, 41] w hG (by decide) (by kernel_rfl) (by kernel_rfl) (by kernel_rfl) (by kernel_rfl) (by decide)).mono ?_
  rintro e w1 ⟨rfl, hb1⟩
  have HB1 := Lib.hid hb1
  have HG1 := Lib.hid (hG.next hb1)
  clear hb1
  go_wp2_with fail
  refine (law27_fails [49, 32, 61, 61, 32] 5 15 w1 HG1.out (by decide) (by kernel_rfl)).mono ?_
  rintro e w2 ⟨rfl, hb2⟩
  have HB2 := Lib.hid (HB1.out.trans (hb2.mono HB1.out.size))
  have HG2 := Lib.hid (HG1.out.next hb2)
  clear hb2
  go_wp2_with fail
  refine (law27_is [33, 49, 61, 61, 50] [67, 40, 68, 40, 49, 44, 50, 41, 41] w2 HG2.out (by decide) (by kernel_rfl) (by kernel_rfl) (by kernel_rfl) (by kernel_rfl) (by decide)).mono ?_
  rintro e w3 ⟨rfl, hb3⟩
  have HB3 := Lib.hid (HB2.out.trans (hb3.mono HB2.out.size))
  clear hb3
  go_wp2_with fail
  go_ret
  exact ⟨rfl, HB3.out⟩
end Go.Proofs.YtbkhmkpbbggcbaaGreatDoor
