/- The walks of the reference's alike and Same on trees, of places, and of theirs. The walks of places and of theirs. -/
import Derived.Test.YtehdeclpighdeaaGreatDoorTestR7
import Derived.Test.YtehdeclpighdeaaGreatDoorTestP
namespace Go.Proofs.YtehdeclpighdeaaGreatDoor
open Go.RowKit
set_option linter.unusedVariables false

/-- A use by value. -/
abbrev useIV (u : UseI) : Value := .agg #[.int .i64 u.src, .int .i64 u.till, .string ⟨u.name.toArray⟩, .string ⟨u.key.toArray⟩, .string ⟨u.dft.toArray⟩, .bool u.hk, .bool u.hd]
theorem equal_use (u u2 : UseI) (W : World) : (Op.equalIn 10000 31 (useIV u) (useIV u2)).run Tryz.prog W = .ok (useEq u u2) W := by
  simp only [useEq, useSame]
  simp [useIV, go_sem]
  repeat' split
  all_goals simp_all
theorem equal_alike (u u2 : UseI) (W : World) : (Op.equalIn 10000 31 (.agg #[.int .i64 u2.src, .int .i64 u2.till, .string ⟨u.name.toArray⟩, .string ⟨u.key.toArray⟩, .string ⟨u.dft.toArray⟩, .bool u.hk, .bool u.hd]) (.agg #[.int .i64 u2.src, .int .i64 u2.till, .string ⟨u2.name.toArray⟩, .string ⟨u2.key.toArray⟩, .string ⟨u2.dft.toArray⟩, .bool u2.hk, .bool u2.hd])).run Tryz.prog W = .ok (useSame u u2) W := by
  have h := equal_use ⟨u2.src, u2.till, u.name, u.key, u.dft, u.hk, u.hd⟩ u2 W
  rw [show useEq ⟨u2.src, u2.till, u.name, u.key, u.dft, u.hk, u.hd⟩ u2 = useSame u u2 by simp [useEq, useSame]] at h
  exact h
set_option maxRecDepth 100000 in
set_option maxHeartbeats 4000000 in
theorem ref27_alike (u u2 : UseI) (w : World) : Calls Tryz.prog 41 #[useIV u, useIV u2] w (Ret w (.bool (useSame u u2))) := by
  have HT := Lib.hid (two_new w (.cells #[.int .i64 u2.src, .int .i64 u2.till, .string ⟨u.name.toArray⟩, .string ⟨u.key.toArray⟩, .string ⟨u.dft.toArray⟩, .bool u.hk, .bool u.hd] 31) (.cells #[.int .i64 u2.src, .int .i64 u2.till, .string ⟨u2.name.toArray⟩, .string ⟨u2.key.toArray⟩, .string ⟨u2.dft.toArray⟩, .bool u2.hk, .bool u2.hd] 31))
  have HEQ := Lib.hid (equal_alike u u2)
  go_enter Tryz.func41, Tryz.ntmps41
  go_upto_region 3 with fail
  have heq := HEQ.out
  go_wp2_with fail
  go_ret
  exact ⟨rfl, HT.out.below⟩
/-- A world above another one. -/
structure BW (W : World) where
  val : World
  below : Below W.heap.size W val
theorem rowAt_get {A : Nat → Prop} {W : World} : ∀ {l : List Ex} {b o i : Nat} {x : Ex}, RowAt A W l b o → l[i]? = some x → ∃ cs, ExAt A W x (.agg cs) ∧ CellsAt W b (o + i * 10) cs.toList
  | [], _, _, _, _, _, h => by simp at h
  | y :: r, b, o, 0, x, h, hx => by
    simp at hx; subst hx
    rw [rowAt_cons] at h
    exact h.1
  | y :: r, b, o, i + 1, x, h, hx => by
    rw [rowAt_cons] at h
    obtain ⟨cs, h1, h2⟩ := rowAt_get h.2 (by simpa using hx)
    exact ⟨cs, h1, by rw [show o + (i + 1) * 10 = o + 10 + i * 10 by omega]; exact h2⟩
/-- A node's ten cells, from a place on. -/
theorem cells_ten {W : World} {b o : Nat} {k : Int} {t : Bs} {u : UseI} {kv : Value} (h : CellsAt W b o (exL k t u kv)) :
    W.cell? ⟨b, o, none⟩ = some (.int .i64 k) ∧ W.cell? ⟨b, o + 1, none⟩ = some (.string ⟨t.toArray⟩) ∧ W.cell? ⟨b, o + 2, none⟩ = some (.int .i64 u.src) ∧ W.cell? ⟨b, o + 3, none⟩ = some (.int .i64 u.till) ∧ W.cell? ⟨b, o + 4, none⟩ = some (.string ⟨u.name.toArray⟩) ∧ W.cell? ⟨b, o + 5, none⟩ = some (.string ⟨u.key.toArray⟩) ∧ W.cell? ⟨b, o + 6, none⟩ = some (.string ⟨u.dft.toArray⟩) ∧ W.cell? ⟨b, o + 7, none⟩ = some (.bool u.hk) ∧ W.cell? ⟨b, o + 8, none⟩ = some (.bool u.hd) ∧ W.cell? ⟨b, o + 9, none⟩ = some kv :=
  ⟨h 0 _ rfl, h 1 _ rfl, h 2 _ rfl, h 3 _ rfl, h 4 _ rfl, h 5 _ rfl, h 6 _ rfl, h 7 _ rfl, h 8 _ rfl, h 9 _ rfl⟩
theorem BW.next {W w' : World} (B : BW W) (hb : Below B.val.heap.size B.val w') : Below W.heap.size W w' := B.below.trans (hb.mono B.below.size)
/-- A kid of a list, in every world above. -/
structure KidAt (W : World) (b o : Nat) (x : Ex) (k : Int) (t : Bs) (u : UseI) (a : Option Addr) (n c : Nat) : Prop where
  ex : ∀ B : BW W, ExAt (fun _ => True) B.val x (exV k t u (.slice a n c))
  c0 : ∀ B : BW W, B.val.cell? ⟨b, o, none⟩ = some (.int .i64 k)
  c1 : ∀ B : BW W, B.val.cell? ⟨b, o + 1, none⟩ = some (.string ⟨t.toArray⟩)
  c2 : ∀ B : BW W, B.val.cell? ⟨b, o + 2, none⟩ = some (.int .i64 u.src)
  c3 : ∀ B : BW W, B.val.cell? ⟨b, o + 3, none⟩ = some (.int .i64 u.till)
  c4 : ∀ B : BW W, B.val.cell? ⟨b, o + 4, none⟩ = some (.string ⟨u.name.toArray⟩)
  c5 : ∀ B : BW W, B.val.cell? ⟨b, o + 5, none⟩ = some (.string ⟨u.key.toArray⟩)
  c6 : ∀ B : BW W, B.val.cell? ⟨b, o + 6, none⟩ = some (.string ⟨u.dft.toArray⟩)
  c7 : ∀ B : BW W, B.val.cell? ⟨b, o + 7, none⟩ = some (.bool u.hk)
  c8 : ∀ B : BW W, B.val.cell? ⟨b, o + 8, none⟩ = some (.bool u.hd)
  c9 : ∀ B : BW W, B.val.cell? ⟨b, o + 9, none⟩ = some (.slice a n c)
theorem ExAt.any {A : Nat → Prop} {W : World} {x : Ex} {v : Value} (h : ExAt A W x v) : ExAt (fun _ => True) W x v := exAt_lo (fun _ _ _ => trivial) _ _ h
theorem kid_get {A : Nat → Prop} {w W : World} {l : List Ex} {b o i : Nat} {x : Ex} (h : RowAt A w l b o) (hx : l[i]? = some x) (hb : Below w.heap.size w W) (hl : b < w.heap.size) :
    ∃ k t u a n c, KidAt W b (o + i * 10) x k t u a n c := by
  obtain ⟨cs, h1, h2⟩ := rowAt_get h hx
  obtain ⟨k, t, u, a, n, c, h3⟩ := h1.ten
  obtain rfl : cs = (exL k t u (.slice a n c)).toArray := by injection h3
  have h4 : ∀ B : BW W, CellsAt B.val b (o + i * 10) (exL k t u (.slice a n c)) := fun B => h2.keep ((B.below.block b (Nat.lt_of_lt_of_le hl hb.size)).trans (hb.block b hl))
  exact ⟨k, t, u, a, n, c, fun B => ((h1.any).next hb).next B.below, fun B => (cells_ten (h4 B)).1, fun B => (cells_ten (h4 B)).2.1, fun B => (cells_ten (h4 B)).2.2.1, fun B => (cells_ten (h4 B)).2.2.2.1, fun B => (cells_ten (h4 B)).2.2.2.2.1, fun B => (cells_ten (h4 B)).2.2.2.2.2.1, fun B => (cells_ten (h4 B)).2.2.2.2.2.2.1, fun B => (cells_ten (h4 B)).2.2.2.2.2.2.2.1, fun B => (cells_ten (h4 B)).2.2.2.2.2.2.2.2.1, fun B => (cells_ten (h4 B)).2.2.2.2.2.2.2.2.2⟩
theorem kids_row {A : Nat → Prop} {W : World} {l : List Ex} {kv : Value} {i : Nat} {x : Ex} (h : KidsAt A W l kv) (hx : l[i]? = some x) : ∃ b o c, kv = .slice (some ⟨b, o, none⟩) l.length c ∧ l.length ≤ c ∧ b < W.heap.size ∧ RowAt A W l b o := by
  rcases h with ⟨rfl, _⟩ | ⟨b, o, c, h1, h2, h3, h4, h5⟩
  · simp at hx
  · exact ⟨b, o, c, h1, h2, h4, h5⟩
theorem sameE_mk {k k2 : Int} {t t2 : Bs} {u u2 : UseI} {l l2 : List Ex} : sameE (.mk k t u l) (.mk k2 t2 u2 l2) = (decide (k = k2) && t == t2 && useSame u u2 && sameL l l2) := by rw [sameE]
theorem ten_two {w W : World} {k k2 : Int} {t t2 : Bs} {u u2 : UseI} {kv kv2 : Value} {T : TypeId} : Two w ((w.alloc (.cells (exL k t u kv).toArray T)).alloc (.cells (exL k2 t2 u2 kv2).toArray T)) (.cells (exL k t u kv).toArray T) (.cells (exL k2 t2 u2 kv2).toArray T) := two_new w _ _
set_option maxRecDepth 100000 in
set_option maxHeartbeats 4000000 in
theorem ref27_Same_step (x y : Ex) (hnar : narrowE x) (ih : ∀ x', x' ∈ x.kids → ∀ (y' : Ex) (v v2 : Value) (W : World), ExAt (fun _ => True) W x' v → ExAt (fun _ => True) W y' v2 → Calls Tryz.prog 14 #[v, v2] W (Ret W (.bool (sameE x' y')))) (v v2 : Value) (w : World) (hx : ExAt (fun _ => True) w x v) (hy : ExAt (fun _ => True) w y v2) :
    Calls Tryz.prog 14 #[v, v2] w (Ret w (.bool (sameE x y))) := by
  obtain ⟨k, t, u, l⟩ := x
  obtain ⟨k2, t2, u2, l2⟩ := y
  have HIH := Lib.hid ih
  have HLM := Lib.hid (show l.length ≤ 1000000 by unfold narrowE at hnar; exact hnar.1)
  clear hnar
  obtain ⟨kv, rfl, hk⟩ := exAt_iff.1 hx
  obtain ⟨kv2, rfl, hk2⟩ := exAt_iff.1 hy
  have HKID := Lib.hid hk
  have HKID2 := Lib.hid hk2
  have hl : ∃ a c, kv = .slice a l.length c := by rcases hk with ⟨rfl, a, c, rfl⟩ | ⟨b, o, c, rfl, _⟩ <;> exact ⟨_, _, rfl⟩
  have hl2 : ∃ a c, kv2 = .slice a l2.length c := by rcases hk2 with ⟨rfl, a, c, rfl⟩ | ⟨b, o, c, rfl, _⟩ <;> exact ⟨_, _, rfl⟩
  obtain ⟨a, c, rfl⟩ := hl
  obtain ⟨a2, c2, rfl⟩ := hl2
  have HT := Lib.hid (ten_two (w := w) (W := w) (k := k) (t := t) (u := u) (kv := .slice a l.length c) (k2 := k2) (t2 := t2) (u2 := u2) (kv2 := .slice a2 l2.length c2) (T := 34))
  clear ih hx hy hk hk2
  go_enter Tryz.func14, Tryz.ntmps14
  go_upto_region 1 with fail
  generalize ((w.alloc (.cells (exL k t u (.slice a l.length c)).toArray 34)).alloc (.cells (exL k2 t2 u2 (.slice a2 l2.length c2)).toArray 34)) = W0 at *
  have hb1 := HT.out.b1
  have hb2 := HT.out.b2
  have HB := Lib.hid HT.out.below
  obtain ⟨p0, p1, p2, p3, p4, p5, p6, p7, p8, p9⟩ := ten_cells hb1
  obtain ⟨r0, r1, r2, r3, r4, r5, r6, r7, r8, r9⟩ := ten_cells hb2
  have HB1 := Lib.hid hb1
  have HB2 := Lib.hid hb2
  clear HT hb1 hb2
  by_cases h1 : k = k2
  · subst h1
    by_cases h2 : t = t2
    · subst h2
      go_wp2_with fail
      refine (ref27_alike u u2 W0).mono ?_
      rintro e w1 ⟨rfl, hb⟩
      have HB3 := Lib.hid (HB.out.trans (hb.mono HB.out.size))
      have HR1 := Lib.hid ((hb.block _ (Array.getElem?_eq_some_iff.1 HB1.out).1).trans HB1.out)
      have HR2 := Lib.hid ((hb.block _ (Array.getElem?_eq_some_iff.1 HB2.out).1).trans HB2.out)
      clear hb p0 p1 p2 p3 p4 p5 p6 p7 p8 p9 r0 r1 r2 r3 r4 r5 r6 r7 r8 r9
      obtain ⟨p0, p1, p2, p3, p4, p5, p6, p7, p8, p9⟩ := ten_cells HR1.out
      obtain ⟨r0, r1, r2, r3, r4, r5, r6, r7, r8, r9⟩ := ten_cells HR2.out
      cases hu : useSame u u2
      · go_wp2_with fail
        go_ret
        exact ⟨by rw [sameE_mk, hu]; simp, HB3.out⟩
      · by_cases hl : l.length = l2.length
        · have HLN := Lib.hid hl
          have hn6 : l2.length ≤ 1000000 := by have := HLM.out; omega
          have HU := Lib.hid hu
          have hl3 : ((l2.length : Int) == (l2.length : Int)) = true := beq_self_eq_true _
          rw [hl]
          rw [hl] at p9 HKID
          obtain ⟨n, hn⟩ : ∃ n, l2.length = n := ⟨_, rfl⟩
          rw [hn] at HKID HKID2 p9 r9 HLN hn6
          rw [hn]
          have HN2 := Lib.hid hn
          clear hl hu hl3 hn
          go_upto_region 4 with fail
          go_loopw [5] (fun iv wr => ∃ i : Nat, i ≤ n ∧ iv = .int .i64 i ∧ Hid (sameL l l2 = sameL (l.drop i) (l2.drop i)) ∧ Hid (Below w1.heap.size w1 wr)) (fun iv _ => n - (intOf iv).toNat)
          case atStart => exact ⟨0, Nat.zero_le _, rfl, Lib.hid rfl, Lib.hid (Below.refl _ _)⟩
          case round =>
            obtain ⟨i, hi, rfl, HS, HW⟩ := hrel
            have HQ1 := Lib.hid ((HW.out.block _ (Array.getElem?_eq_some_iff.1 HR1.out).1).trans HR1.out)
            have HQ2 := Lib.hid ((HW.out.block _ (Array.getElem?_eq_some_iff.1 HR2.out).1).trans HR2.out)
            have HBB := Lib.hid (HB3.out.trans (HW.out.mono HB3.out.size))
            clear p0 p1 p2 p3 p4 p5 p6 p7 p8 p9 r0 r1 r2 r3 r4 r5 r6 r7 r8 r9
            obtain ⟨-, -, -, -, -, -, -, -, -, p9⟩ := ten_cells HQ1.out
            obtain ⟨-, -, -, -, -, -, -, -, -, r9⟩ := ten_cells HQ2.out
            rw [HLN.out] at p9
            rw [HN2.out] at r9
            by_cases hlt : i < n
            · have i1 : (i : Int) < (n : Int) := by omega
              obtain ⟨x, hx⟩ : ∃ x, l[i]? = some x := ⟨_, List.getElem?_eq_getElem (by rw [HLN.out]; exact hlt)⟩
              obtain ⟨y, hy⟩ : ∃ y, l2[i]? = some y := ⟨_, List.getElem?_eq_getElem (by rw [HN2.out]; exact hlt)⟩
              have HMEM := Lib.hid (show x ∈ (Ex.mk k t u l).kids from List.mem_of_getElem? hx)
              have HST := Lib.hid (sameL_step hx hy)
              obtain ⟨b, o, c', he, hlc, hbl, hrow⟩ := kids_row HKID.out hx
              obtain ⟨b', o', c2', he', hlc', hbl', hrow'⟩ := kids_row HKID2.out hy
              obtain ⟨rfl, rfl⟩ : a = some ⟨b, o, none⟩ ∧ c = c' := by injection he with h1 h2 h3; exact ⟨h1, h3⟩
              obtain ⟨rfl, rfl⟩ : a2 = some ⟨b', o', none⟩ ∧ c2 = c2' := by injection he' with h1 h2 h3; exact ⟨h1, h3⟩
              obtain ⟨k1, t1, u1, a1, n1, c1, hk1⟩ := kid_get hrow hx HBB.out hbl
              obtain ⟨k3, t3, u3, a3, n3, c3, hk3⟩ := kid_get hrow' hy HBB.out hbl'
              have HK1 := Lib.hid hk1
              have HK3 := Lib.hid hk3
              have i0 : (0 : Int) ≤ (i : Int) := by omega
              obtain ⟨q, hq⟩ : ∃ q, sameE x y = q := ⟨_, rfl⟩
              have HCALL := Lib.hid (show ∀ B : BW wr, Calls Tryz.prog 14 #[exV k1 t1 u1 (.slice a1 n1 c1), exV k3 t3 u3 (.slice a3 n3 c3)] B.val (Ret B.val (.bool q)) from fun B => hq ▸ HIH.out x HMEM.out y _ _ _ (hk1.ex B) (hk3.ex B))
              have HQ := Lib.hid hq
              clear hq hx hy hrow hrow' hbl hbl' he he' hk1 hk3 hlc hlc'
              go_upto_region 6 with fail
              have p9' : ∀ B : BW wr, B.val.cell? ⟨w.heap.size, 9, none⟩ = some (.slice (some ⟨b, o, none⟩) n c) := fun B => (B.below.cell (p := ⟨w.heap.size, 9, none⟩) (cell_lt p9)).trans p9
              have r9' : ∀ B : BW wr, B.val.cell? ⟨w.heap.size + 1, 9, none⟩ = some (.slice (some ⟨b', o', none⟩) n c2) := fun B => (B.below.cell (p := ⟨w.heap.size + 1, 9, none⟩) (cell_lt r9)).trans r9
              obtain ⟨-, y0, y1, y2, y3, y4, y5, y6, y7, y8, y9⟩ := HK1.out
              obtain ⟨-, z0, z1, z2, z3, z4, z5, z6, z7, z8, z9⟩ := HK3.out
              haveI : Nonempty (BW wr) := ⟨⟨wr, Below.refl _ _⟩⟩
              clear p9 r9
              refine wp_region_last_lit 11 (fun B : BW wr => B.val) ⟨wr.drew, below_drewn (Below.refl _ _)⟩ rfl (by kernel_rfl) (by rfl) (by rfl) (by kernel_rfl) (by kernel_rfl) (by kernel_rfl) ?_
              simp only [List.take_succ_cons, List.take_zero]
              repeat (quiet_step ((go_at_call 14; refine (HCALL.out _).mono ?_; rintro e v1 ⟨rfl, hb1⟩; exact ⟨rfl, ⟨v1, BW.next _ hb1⟩, rfl⟩)))
              refine wpQuiet_nil ?_
              rintro w' ⟨B, rfl⟩
              rw [if_pos (by rfl)]
              have HB5 := Lib.hid (HW.out.trans (B.below.mono HW.out.size))
              clear y0 y1 y2 y3 y4 y5 y6 y7 y8 y9 z0 z1 z2 z3 z4 z5 z6 z7 z8 z9 p9' r9'
              cases q
              · have HE := Lib.hid (show sameL l l2 = false by rw [HS.out, HST.out, HQ.out]; rfl)
                go_simp
                go_wp2_with fail
                go_ret
                exact ⟨by rw [sameE_mk, HE.out]; simp, HB3.out.trans (HB5.out.mono HB3.out.size)⟩
              · have HE := Lib.hid (show sameL l l2 = sameL (l.drop (i + 1)) (l2.drop (i + 1)) by rw [HS.out, HST.out, HQ.out]; rfl)
                go_simp
                go_wp2_with fail
                go_roundw
                case rel => exact ⟨i + 1, by omega, by go_num, Lib.hid HE.out, HB5⟩
                case measure => (simp [intOf] <;> omega)
            · obtain rfl : i = n := by omega
              have HE := Lib.hid (show sameL l l2 = true by rw [HS.out]; have := sameL_end (l := l) (l2 := l2) (by rw [HLN.out, HN2.out]); rw [HLN.out] at this; exact this)
              clear hlt
              go_wp2_with fail
              go_ret
              exact ⟨by rw [sameE_mk, HE.out, HU.out]; simp, HBB.out⟩
        · have hl3 : ((l.length : Int) == (l2.length : Int)) = false := by rw [beq_eq_false_iff_ne]; omega
          have HS := Lib.hid (sameL_ne hl)
          clear hl
          go_wp2_with fail
          go_ret
          exact ⟨by rw [sameE_mk, HS.out]; simp, HB3.out⟩
    · have h2b : (t == t2) = false := by rw [beq_eq_false_iff_ne]; exact h2
      clear h2
      have H2 := Lib.hid h2b
      have h2c : (t != t2) = true := by rw [bne, h2b]; rfl
      go_wp2_with fail
      go_ret
      exact ⟨by rw [sameE_mk, H2.out]; simp, HB.out⟩
  · have h1b : (k == k2) = false := by rw [beq_eq_false_iff_ne]; exact h1
    have h1c : (k != k2) = true := by rw [bne, h1b]; rfl
    have H1 := Lib.hid (decide_eq_false h1)
    clear h1
    go_wp2_with fail
    go_ret
    exact ⟨by rw [sameE_mk, H1.out]; simp, HB.out⟩
theorem ref27_Same (x : Ex) : narrowE x → ∀ (y : Ex) (v v2 : Value) (w : World), ExAt (fun _ => True) w x v → ExAt (fun _ => True) w y v2 → Calls Tryz.prog 14 #[v, v2] w (Ret w (.bool (sameE x y))) := by
  refine Ex.ind (P := fun x => narrowE x → ∀ (y : Ex) (v v2 : Value) (w : World), ExAt (fun _ => True) w x v → ExAt (fun _ => True) w y v2 → Calls Tryz.prog 14 #[v, v2] w (Ret w (.bool (sameE x y)))) (fun k t u l ih hn y v v2 w hx hy => ?_) x
  have hl : narrowL l := by unfold narrowE at hn; exact hn.2
  exact ref27_Same_step (.mk k t u l) y hn (fun x' hx' y' v v2 W h1 h2 => ih x' hx' (narrow_mem hl hx') y' v v2 W h1 h2) v v2 w hx hy
end Go.Proofs.YtehdeclpighdeaaGreatDoor

namespace Go.Proofs.YtehdeclpighdeaaGreatDoor
open Go.RowKit
set_option linter.unusedVariables false

theorem placesE_mk {k k2 : Int} {t t2 : Bs} {u u2 : UseI} {l l2 : List Ex} : placesE (.mk k t u l) (.mk k2 t2 u2 l2) = (useEq u u2 && placesL l l2) := by rw [placesE]
set_option maxRecDepth 100000 in
set_option maxHeartbeats 4000000 in
theorem law_places_step (x y : Ex) (hnar : narrowE x) (ih : ∀ x', x' ∈ x.kids → ∀ (y' : Ex) (v v2 : Value) (W : World), ExAt (fun _ => True) W x' v → ExAt (fun _ => True) W y' v2 → Calls Tryz.prog 16 #[v, v2] W (Ret W (.bool (placesE x' y')))) (v v2 : Value) (w : World) (hx : ExAt (fun _ => True) w x v) (hy : ExAt (fun _ => True) w y v2) :
    Calls Tryz.prog 16 #[v, v2] w (Ret w (.bool (placesE x y))) := by
  obtain ⟨k, t, u, l⟩ := x
  obtain ⟨k2, t2, u2, l2⟩ := y
  have HIH := Lib.hid ih
  have HLM := Lib.hid (show l.length ≤ 1000000 by unfold narrowE at hnar; exact hnar.1)
  clear hnar
  obtain ⟨kv, rfl, hk⟩ := exAt_iff.1 hx
  obtain ⟨kv2, rfl, hk2⟩ := exAt_iff.1 hy
  have HKID := Lib.hid hk
  have HKID2 := Lib.hid hk2
  have hl : ∃ a c, kv = .slice a l.length c := by rcases hk with ⟨rfl, a, c, rfl⟩ | ⟨b, o, c, rfl, _⟩ <;> exact ⟨_, _, rfl⟩
  have hl2 : ∃ a c, kv2 = .slice a l2.length c := by rcases hk2 with ⟨rfl, a, c, rfl⟩ | ⟨b, o, c, rfl, _⟩ <;> exact ⟨_, _, rfl⟩
  obtain ⟨a, c, rfl⟩ := hl
  obtain ⟨a2, c2, rfl⟩ := hl2
  have HT := Lib.hid (ten_two (w := w) (W := w) (k := k) (t := t) (u := u) (kv := .slice a l.length c) (k2 := k2) (t2 := t2) (u2 := u2) (kv2 := .slice a2 l2.length c2) (T := 34))
  clear ih hx hy hk hk2
  go_enter Tryz.func16, Tryz.ntmps16
  go_upto_region 1 with fail
  generalize ((w.alloc (.cells (exL k t u (.slice a l.length c)).toArray 34)).alloc (.cells (exL k2 t2 u2 (.slice a2 l2.length c2)).toArray 34)) = W0 at *
  have hb1 := HT.out.b1
  have hb2 := HT.out.b2
  have HB := Lib.hid HT.out.below
  obtain ⟨p0, p1, p2, p3, p4, p5, p6, p7, p8, p9⟩ := ten_cells hb1
  obtain ⟨r0, r1, r2, r3, r4, r5, r6, r7, r8, r9⟩ := ten_cells hb2
  have HB1 := Lib.hid hb1
  have HB2 := Lib.hid hb2
  clear HT hb1 hb2
  have HEQ := Lib.hid (equal_use u u2)
  have heq := HEQ.out
  cases hu : useEq u u2
  · have heq2 := heq
    rw [hu] at heq2
    clear heq
    go_wp2_with fail
    go_ret
    exact ⟨by rw [placesE_mk, hu]; simp, HB.out⟩
  · rw [hu] at heq
    by_cases hl : l.length = l2.length
    · have HLN := Lib.hid hl
      have hn6 : l2.length ≤ 1000000 := by have := HLM.out; omega
      have HU := Lib.hid hu
      have hl3 : ((l2.length : Int) == (l2.length : Int)) = true := beq_self_eq_true _
      rw [hl]
      rw [hl] at p9 HKID
      obtain ⟨n, hn⟩ : ∃ n, l2.length = n := ⟨_, rfl⟩
      rw [hn] at HKID HKID2 p9 r9 HLN hn6
      rw [hn]
      have HN2 := Lib.hid hn
      clear hl hu hl3 hn
      go_upto_region 4 with fail
      go_loopw [5] (fun iv wr => ∃ i : Nat, i ≤ n ∧ iv = .int .i64 i ∧ Hid (placesL l l2 = placesL (l.drop i) (l2.drop i)) ∧ Hid (Below W0.heap.size W0 wr)) (fun iv _ => n - (intOf iv).toNat)
      case atStart => exact ⟨0, Nat.zero_le _, rfl, Lib.hid rfl, Lib.hid (Below.refl _ _)⟩
      case round =>
        obtain ⟨i, hi, rfl, HS, HW⟩ := hrel
        have HQ1 := Lib.hid ((HW.out.block _ (Array.getElem?_eq_some_iff.1 HB1.out).1).trans HB1.out)
        have HQ2 := Lib.hid ((HW.out.block _ (Array.getElem?_eq_some_iff.1 HB2.out).1).trans HB2.out)
        have HBB := Lib.hid (HB.out.trans (HW.out.mono HB.out.size))
        clear p0 p1 p2 p3 p4 p5 p6 p7 p8 p9 r0 r1 r2 r3 r4 r5 r6 r7 r8 r9
        obtain ⟨-, -, -, -, -, -, -, -, -, p9⟩ := ten_cells HQ1.out
        obtain ⟨-, -, -, -, -, -, -, -, -, r9⟩ := ten_cells HQ2.out
        rw [HLN.out] at p9
        rw [HN2.out] at r9
        by_cases hlt : i < n
        · have i1 : (i : Int) < (n : Int) := by omega
          obtain ⟨x, hx⟩ : ∃ x, l[i]? = some x := ⟨_, List.getElem?_eq_getElem (by rw [HLN.out]; exact hlt)⟩
          obtain ⟨y, hy⟩ : ∃ y, l2[i]? = some y := ⟨_, List.getElem?_eq_getElem (by rw [HN2.out]; exact hlt)⟩
          have HMEM := Lib.hid (show x ∈ (Ex.mk k t u l).kids from List.mem_of_getElem? hx)
          have HST := Lib.hid (placesL_step hx hy)
          obtain ⟨b, o, c', he, hlc, hbl, hrow⟩ := kids_row HKID.out hx
          obtain ⟨b', o', c2', he', hlc', hbl', hrow'⟩ := kids_row HKID2.out hy
          obtain ⟨rfl, rfl⟩ : a = some ⟨b, o, none⟩ ∧ c = c' := by injection he with h1 h2 h3; exact ⟨h1, h3⟩
          obtain ⟨rfl, rfl⟩ : a2 = some ⟨b', o', none⟩ ∧ c2 = c2' := by injection he' with h1 h2 h3; exact ⟨h1, h3⟩
          obtain ⟨k1, t1, u1, a1, n1, c1, hk1⟩ := kid_get hrow hx HBB.out hbl
          obtain ⟨k3, t3, u3, a3, n3, c3, hk3⟩ := kid_get hrow' hy HBB.out hbl'
          have HK1 := Lib.hid hk1
          have HK3 := Lib.hid hk3
          have i0 : (0 : Int) ≤ (i : Int) := by omega
          obtain ⟨q, hq⟩ : ∃ q, placesE x y = q := ⟨_, rfl⟩
          have HCALL := Lib.hid (show ∀ B : BW wr, Calls Tryz.prog 16 #[exV k1 t1 u1 (.slice a1 n1 c1), exV k3 t3 u3 (.slice a3 n3 c3)] B.val (Ret B.val (.bool q)) from fun B => hq ▸ HIH.out x HMEM.out y _ _ _ (hk1.ex B) (hk3.ex B))
          have HQ := Lib.hid hq
          clear hq hx hy hrow hrow' hbl hbl' he he' hk1 hk3 hlc hlc'
          go_upto_region 6 with fail
          have p9' : ∀ B : BW wr, B.val.cell? ⟨w.heap.size, 9, none⟩ = some (.slice (some ⟨b, o, none⟩) n c) := fun B => (B.below.cell (p := ⟨w.heap.size, 9, none⟩) (cell_lt p9)).trans p9
          have r9' : ∀ B : BW wr, B.val.cell? ⟨w.heap.size + 1, 9, none⟩ = some (.slice (some ⟨b', o', none⟩) n c2) := fun B => (B.below.cell (p := ⟨w.heap.size + 1, 9, none⟩) (cell_lt r9)).trans r9
          obtain ⟨-, y0, y1, y2, y3, y4, y5, y6, y7, y8, y9⟩ := HK1.out
          obtain ⟨-, z0, z1, z2, z3, z4, z5, z6, z7, z8, z9⟩ := HK3.out
          haveI : Nonempty (BW wr) := ⟨⟨wr, Below.refl _ _⟩⟩
          clear p9 r9
          refine wp_region_last_lit 11 (fun B : BW wr => B.val) ⟨wr.drew, below_drewn (Below.refl _ _)⟩ rfl (by kernel_rfl) (by rfl) (by rfl) (by kernel_rfl) (by kernel_rfl) (by kernel_rfl) ?_
          simp only [List.take_succ_cons, List.take_zero]
          repeat (quiet_step ((go_at_call 16; refine (HCALL.out _).mono ?_; rintro e v1 ⟨rfl, hb1⟩; exact ⟨rfl, ⟨v1, BW.next _ hb1⟩, rfl⟩)))
          refine wpQuiet_nil ?_
          rintro w' ⟨B, rfl⟩
          rw [if_pos (by rfl)]
          have HB5 := Lib.hid (HW.out.trans (B.below.mono HW.out.size))
          clear y0 y1 y2 y3 y4 y5 y6 y7 y8 y9 z0 z1 z2 z3 z4 z5 z6 z7 z8 z9 p9' r9'
          cases q
          · have HE := Lib.hid (show placesL l l2 = false by rw [HS.out, HST.out, HQ.out]; rfl)
            go_simp
            go_wp2_with fail
            go_ret
            exact ⟨by rw [placesE_mk, HE.out]; simp, HB.out.trans (HB5.out.mono HB.out.size)⟩
          · have HE := Lib.hid (show placesL l l2 = placesL (l.drop (i + 1)) (l2.drop (i + 1)) by rw [HS.out, HST.out, HQ.out]; rfl)
            go_simp
            go_wp2_with fail
            go_roundw
            case rel => exact ⟨i + 1, by omega, by go_num, Lib.hid HE.out, HB5⟩
            case measure => (simp [intOf] <;> omega)
        · obtain rfl : i = n := by omega
          have HE := Lib.hid (show placesL l l2 = true by rw [HS.out]; have := placesL_end (l := l) (l2 := l2) (by rw [HLN.out, HN2.out]); rw [HLN.out] at this; exact this)
          clear hlt
          go_wp2_with fail
          go_ret
          exact ⟨by rw [placesE_mk, HE.out, HU.out]; simp, HBB.out⟩
    · have hl3 : ((l.length : Int) == (l2.length : Int)) = false := by rw [beq_eq_false_iff_ne]; omega
      have HS := Lib.hid (placesL_ne hl)
      clear hl
      go_wp2_with fail
      go_ret
      exact ⟨by rw [placesE_mk, HS.out]; simp, HB.out⟩
theorem law_places (x : Ex) : narrowE x → ∀ (y : Ex) (v v2 : Value) (w : World), ExAt (fun _ => True) w x v → ExAt (fun _ => True) w y v2 → Calls Tryz.prog 16 #[v, v2] w (Ret w (.bool (placesE x y))) := by
  refine Ex.ind (P := fun x => narrowE x → ∀ (y : Ex) (v v2 : Value) (w : World), ExAt (fun _ => True) w x v → ExAt (fun _ => True) w y v2 → Calls Tryz.prog 16 #[v, v2] w (Ret w (.bool (placesE x y)))) (fun k t u l ih hn y v v2 w hx hy => ?_) x
  have hl : narrowL l := by unfold narrowE at hn; exact hn.2
  exact law_places_step (.mk k t u l) y hn (fun x' hx' y' v v2 W h1 h2 => ih x' hx' (narrow_mem hl hx') y' v v2 W h1 h2) v v2 w hx hy
end Go.Proofs.YtehdeclpighdeaaGreatDoor
