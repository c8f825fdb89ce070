/- The walk of Apply. -/
import Derived.Test.YtoipnaoijccokaaGreatDoorSubValue
import Derived.Test.YtoipnaoijccokaaGreatDoorBuildS
namespace Go.Proofs.YtoipnaoijccokaaGreatDoor
open Go.RowKit
set_option linter.unusedVariables false
attribute [local go_sem ↓] Go.wp_at_zero Go.wp_at_succ

/-! What a key has at most -/
theorem useAt_key {r : Bs} {p : Parts} (h : useAt r = some p) : p.key.length ≤ 64 := by
  unfold useAt at h
  cases h1 : vknown (r.takeWhile letc)
  · rw [h1] at h; cases h
  · rw [h1] at h
    simp only [cond_true] at h
    cases h2 : keyAt (r.dropWhile letc) with
    | none => rw [h2] at h; cases h
    | some q =>
      obtain ⟨k, hk, r2⟩ := q
      rw [h2] at h
      change otherAt (r.takeWhile letc) k hk r2 = some p at h
      have hkl : k.length ≤ 64 := by
        unfold keyAt at h2
        cases h3 : Lib.hasPrefix (r.dropWhile letc) [123]
        · rw [h3] at h2; cases h2; exact Nat.zero_le _
        · rw [h3] at h2
          simp only [cond_true] at h2
          cases h4 : ((Lib.trimPrefix (r.dropWhile letc) [123]).contains 125 && vkey (upto 125 (Lib.trimPrefix (r.dropWhile letc) [123])))
          · rw [h4] at h2; cases h2
          · rw [h4] at h2
            simp only [cond_true, Option.some.injEq, Prod.mk.injEq] at h2
            rw [Bool.and_eq_true] at h4
            have hv := h4.2
            unfold vkey at hv
            rw [Bool.and_eq_true] at hv
            have := of_decide_eq_true hv.1
            rw [← h2.1]; omega
      unfold otherAt at h
      cases h3 : dftAt r2 with
      | none => rw [h3] at h; cases h
      | some q =>
        obtain ⟨d, hd, r3⟩ := q
        rw [h3] at h
        change endAt (r.takeWhile letc) k d hk hd r3 = some p at h
        unfold endAt at h
        cases h4 : Lib.hasPrefix r3 [41]
        · rw [h4] at h; cases h
        · rw [h4] at h
          simp only [cond_true, Option.some.injEq] at h
          subst h; exact hkl
theorem Found.key {s : Bs} {i : Nat} {u : Use} (h : Found s i u) : u.key.length ≤ 64 := by
  obtain ⟨p, hp, he⟩ := h.parts
  rw [he]; exact useAt_key hp
theorem chain_at {s : Bs} : ∀ {l : List Use} {i : Nat}, Chain s i l → ∀ {k : Nat} {u : Use}, l[k]? = some u → ∃ j, Found s j u ∧ Chain s u.to (l.drop (k + 1))
  | v :: l, i, h, 0, u, hu => by
    obtain rfl : v = u := by simpa using hu
    exact ⟨i, h.1, h.2⟩
  | v :: l, i, h, k + 1, u, hu => by
    obtain ⟨j, h1, h2⟩ := chain_at h.2 (k := k) (u := u) (by simpa using hu)
    exact ⟨j, h1, by simpa using h2⟩
theorem asm_step {s : Bs} {val : Use → Bs} {l : List Use} {at' k : Nat} {u : Use} (hu : l[k]? = some u) (ha : at' ≤ u.src) : asm s val at' (l.drop k) = ((s.drop at').take (u.src - at')) ++ val u ++ asm s val u.to (l.drop (k + 1)) := by
  obtain ⟨hk, he⟩ := List.getElem?_eq_some_iff.1 hu
  rw [List.drop_eq_getElem_cons hk, he]; rfl
theorem ext_mid (s : ByteArray) (a b : Nat) : (s.extract a b).data.toList = (s.data.toList.drop a).take (b - a) := ext_data s a b

/-- Where uses lie. -/
def USeen (w : World) (a : Option Addr) (b B : Nat) (us : List Use) : Prop := ∀ (j : Nat) (u : Use), us[j]? = some u → ∃ g, a = some ⟨g, 0, none⟩ ∧ g ≠ b ∧ g < B ∧
  w.cell? ⟨g, j * 7, none⟩ = some (.int .i64 u.src) ∧ w.cell? ⟨g, j * 7 + 1, none⟩ = some (.int .i64 u.to) ∧ w.cell? ⟨g, j * 7 + 2, none⟩ = some (.string ⟨u.name.toArray⟩) ∧ w.cell? ⟨g, j * 7 + 3, none⟩ = some (.string ⟨u.key.toArray⟩) ∧ w.cell? ⟨g, j * 7 + 4, none⟩ = some (.string ⟨u.dft.toArray⟩) ∧ w.cell? ⟨g, j * 7 + 5, none⟩ = some (.bool u.hk) ∧ w.cell? ⟨g, j * 7 + 6, none⟩ = some (.bool u.hd)
theorem ucells_at : ∀ (us : List Use) (j i : Nat) (u : Use) (v : Value), us[j]? = some u → (ucell u)[i]? = some v → (ucells us)[j * 7 + i]? = some v
  | [], j, i, u, v, h, _ => by simp at h
  | x :: us, 0, i, u, v, h, hv => by
    obtain rfl : x = u := by simpa using h
    show (ucell x ++ ucells us)[0 * 7 + i]? = some v
    have hi : i < (ucell x).length := by
      by_cases hlt : i < (ucell x).length
      · exact hlt
      · rw [List.getElem?_eq_none (by omega)] at hv; cases hv
    rw [Nat.zero_mul, Nat.zero_add, List.getElem?_append_left hi]; exact hv
  | x :: us, j + 1, i, u, v, h, hv => by
    have := ucells_at us j i u v (by simpa using h) hv
    show (ucell x ++ ucells us)[(j + 1) * 7 + i]? = some v
    rw [List.getElem?_append_right (by simp [ucell]; omega)]
    simp only [ucell, List.length_cons, List.length_nil]
    rw [show (j + 1) * 7 + i - (0 + 1 + 1 + 1 + 1 + 1 + 1 + 1) = j * 7 + i by omega]; exact this
theorem useen_of {w : World} {base b : Nat} {a : Option Addr} {c : Nat} {us : List Use} (h : UOwn w base (.slice a us.length c) us) (hb : b < base) : USeen w a b w.heap.size us := by
  intro j u hu
  have hc := fun (g : Nat) (hg : (Value.slice a us.length c).ownBlock = some g) => h.cells hg
  have hl := h.lt
  rcases h.2 with ⟨hv, h0⟩ | ⟨g, cap, cur, hv, hbg, hg, _⟩
  · rw [List.eq_nil_of_length_eq_zero h0] at hu; simp at hu
  · obtain rfl : a = some ⟨g, 0, none⟩ := by simp only [Value.slice.injEq] at hv; exact hv.1
    have cell : ∀ i v, (ucell u)[i]? = some v → w.cell? ⟨g, j * 7 + i, none⟩ = some v := by
      intro i v hv
      have := hc g rfl _ _ (ucells_at us j i u v hu hv)
      rw [add_at] at this
      rw [Nat.zero_add] at this; exact this
    exact ⟨g, rfl, by omega, (hl g rfl).2, cell 0 _ rfl, cell 1 _ rfl, cell 2 _ rfl, cell 3 _ rfl, cell 4 _ rfl, cell 5 _ rfl, cell 6 _ rfl⟩
theorem KeptBut.cell {b B : Nat} {w w' : World} (h : KeptBut b B w w') {g o : Nat} {v : Value} (hg : g < B) (hne : g ≠ b) (hc : w.cell? ⟨g, o, none⟩ = some v) : w'.cell? ⟨g, o, none⟩ = some v :=
  (World.cell?_of_block (a := ⟨g, o, none⟩) (h.block g hg hne)).trans hc
theorem USeen.kept {w w' : World} {a : Option Addr} {b B : Nat} {us : List Use} (h : USeen w a b B us) (hk : KeptBut b B w w') : USeen w' a b B us := by
  intro j u hu
  obtain ⟨g, h1, h2, h3, c0, c1, c2, c3, c4, c5, c6⟩ := h j u hu
  exact ⟨g, h1, h2, h3, hk.cell h3 h2 c0, hk.cell h3 h2 c1, hk.cell h3 h2 c2, hk.cell h3 h2 c3, hk.cell h3 h2 c4, hk.cell h3 h2 c5, hk.cell h3 h2 c6⟩

/-- The box of the variables. -/
def VBox (W : World) (b : Nat) (h t : ByteArray) (v : Value) : Prop := W.heap[b]? = some (.cells #[.string h, .string t, v] 33)
/-- What Apply returns. -/
def applyV (p : Bs × Int) : Value := .tuple #[.string ⟨p.1.toArray⟩, .int .i64 p.2]

/-- What holds at the head of each round. -/
structure ApI (w w3 wr : World) (bb B : Nat) (a ua : Option Addr) (n c : Nat) (h t : ByteArray) (fs : List Fld) (us : List Use) : Prop where
  kept : KeptBut bb B w3 wr
  room : B ≤ wr.heap.size
  below : Below w.heap.size w wr
  vbox : VBox wr w.heap.size h t (.slice a n c)
  fields : FieldsAt wr (.slice a n c) fs
  uses : USeen wr ua bb B us
  good : Good wr
theorem ApI.kb {w w3 wr w' : World} {bb B : Nat} {a ua : Option Addr} {n c : Nat} {h t : ByteArray} {fs : List Fld} {us : List Use} (x : ApI w w3 wr bb B a ua n c h t fs us) (hk : KeptBut bb B wr w') (hb : bb = w.heap.size + 1) (hB : bb < B) (hf : FieldsAt w (.slice a n c) fs) (hg : Good w) : ApI w w3 w' bb B a ua n c h t fs us := by
  have hbel : Below w.heap.size w w' := x.below.trans (hk.below (by omega) (by omega))
  exact ⟨x.kept.trans hk, Nat.le_trans x.room hk.size, hbel, (hk.block _ (by omega) (by omega)).trans x.vbox, hf.below hbel, x.uses.kept hk, hg.next hbel⟩
theorem ApI.nx {w w3 wr w' : World} {bb B : Nat} {a ua : Option Addr} {n c : Nat} {h t : ByteArray} {fs : List Fld} {us : List Use} (x : ApI w w3 wr bb B a ua n c h t fs us) (hk : Below wr.heap.size wr w') (hb : bb = w.heap.size + 1) (hB : bb < B) (hf : FieldsAt w (.slice a n c) fs) (hg : Good w) : ApI w w3 w' bb B a ua n c h t fs us :=
  x.kb (KeptBut.of_below hk x.room) hb hB hf hg
theorem vbox_cells {W : World} {b : Nat} {h t : ByteArray} {v : Value} (x : VBox W b h t v) : W.cell? ⟨b, 0, none⟩ = some (.string h) ∧ W.cell? ⟨b, 1, none⟩ = some (.string t) ∧ W.cell? ⟨b, 2, none⟩ = some v :=
  ⟨cell_of_row _ _ 0 _ _ _ x, cell_of_row _ _ 1 _ _ _ x, cell_of_row _ _ 2 _ _ _ x⟩
theorem apply_long {h t : Bs} {fs : List Fld} {s : Bs} (hl : maxOut < (vtext h t fs s).length) : vapply h t fs s = ([], 3) := by unfold vapply; rw [decide_eq_false (by omega)]; rfl
theorem apply_ok {h t : Bs} {fs : List Fld} {s : Bs} (hl : (vtext h t fs s).length ≤ maxOut) : vapply h t fs s = (vtext h t fs s, 0) := by unfold vapply; rw [decide_eq_true hl]; rfl
set_option maxRecDepth 100000 in
set_option maxHeartbeats 1000000 in
theorem sub_Apply (s h t : ByteArray) (a : Option Addr) (n c : Nat) (fs : List Fld) (w : World) (hg : Good w) (hF : FieldsAt w (.slice a n c) fs) (hlim : Lim fs) (ht : t.size ≤ 100000) (hs : s.size ≤ 1000000) :
    Calls Tryz.prog 4 #[.string s, .agg #[.string h, .string t, .slice a n c]] w (Ret w (applyV (vapply h.data.toList t.data.toList fs s.data.toList))) := by
  have HT := Lib.hid (two_new w (.cells #[.string h, .string t, .slice a n c] 33) (.cells #[.pointer none, .slice none 0 0] 44))
  have HG := Lib.hid hg
  have HF := Lib.hid hF
  clear hg hF
  go_enter Tryz.func4, Tryz.ntmps4
  go_wp2_with fail
  generalize (w.alloc (.cells #[.string h, .string t, .slice a n c] 33)).alloc (.cells #[.pointer none, .slice none 0 0] 44) = W2 at *
  have hg2 := HG.out.next HT.out.below
  refine (sub_Uses s W2 hg2 (by omega)).mono ?_
  rintro e w3 ⟨v, rfl, hown, hb3⟩
  obtain ⟨ua, uc, rfl⟩ := own_shape hown
  have hbb : w.heap.size + 1 < w3.heap.size := by have := HT.out.size; have := hb3.size; omega
  have HI := Lib.hid (show ApI w w3 w3 (w.heap.size + 1) w3.heap.size a ua n c h t fs (vuses s.data.toList) from by
    have hbel : Below w.heap.size w w3 := HT.out.below.trans (hb3.mono HT.out.below.size)
    refine ⟨KeptBut.refl _ _ _, Nat.le_refl _, hbel, (hb3.block _ (by have := HT.out.size; omega)).trans HT.out.b1, HF.out.below hbel, ?_, HG.out.next hbel⟩
    exact useen_of hown (by have := HT.out.size; omega))
  have HBl := Lib.hid (show Bld w3 (w.heap.size + 1) w3.heap.size [] from Bld.next (w := W2) ⟨_, _, HT.out.b2, .inl rfl, World.ownsRow_nil _ _ _ _, by simp [Value.ownBlock]⟩ hb3)
  have hch := chain_uses s.data.toList (s.data.toList.length + 1) 0
  have HCh := Lib.hid (show Chain s.data.toList 0 (vuses s.data.toList) from hch)
  have hmany := uses_many s.data.toList
  rw [bs_size] at hmany
  have HTx := Lib.hid (show asm s.data.toList (fun u => (vval h.data.toList t.data.toList fs u).1) 0 (vuses s.data.toList) = vtext h.data.toList t.data.toList fs s.data.toList from rfl)
  clear HT hg2 hown hb3 hch
  generalize vuses s.data.toList = us at *
  generalize hbbe : w.heap.size + 1 = bb at *
  generalize hBe : w3.heap.size = B at *
  have HBB := Lib.hid hbbe.symm
  clear hbbe hBe
  generalize htx : vtext h.data.toList t.data.toList fs s.data.toList = tx at *
  have HX := Lib.hid htx
  clear htx
  go_wp2_with fail
  go_loopw [7, 15] (fun at' ix wr => ∃ (k p : Nat) (l : Bs), at' = .int .i64 p ∧ ix = .int .i64 k ∧ k ≤ us.length ∧ p ≤ s.size ∧ l.length ≤ 524288 ∧ Hid (Chain s.data.toList p (us.drop k)) ∧ Hid (l ++ asm s.data.toList (fun u => (vval h.data.toList t.data.toList fs u).1) p (us.drop k) = tx) ∧ Hid (Bld wr bb B l) ∧ Hid (ApI w w3 wr bb B a ua n c h t fs us)) (fun _ ix _ => us.length - (intOf ix).toNat)
  case atStart => exact ⟨0, 0, [], rfl, rfl, Nat.zero_le _, Nat.zero_le _, Nat.zero_le _, HCh, HTx, HBl, HI⟩
  case round =>
    clear HCh HTx HBl HI
    obtain ⟨k, p, l, rfl, rfl, hk, hp, hll, HC, HA, HB, HJ⟩ := hrel
    by_cases hlt : k < us.length
    · obtain ⟨u, hu⟩ : ∃ u, us[k]? = some u := ⟨us[k], List.getElem?_eq_getElem hlt⟩
      obtain ⟨g, rfl, hgb, hgB, c0, c1, c2, c3, c4, c5, c6⟩ := HJ.out.uses k u hu
      have hC := HC.out
      have hdr : us.drop k = u :: us.drop (k + 1) := by
        obtain ⟨h1, h2⟩ := List.getElem?_eq_some_iff.1 hu
        rw [List.drop_eq_getElem_cons h1, h2]
      rw [hdr] at hC
      have hf1 := hC.1.ge
      have hf2 := hC.1.lt
      have hf3 := hC.1.le
      rw [bs_size] at hf3
      have hkey := hC.1.key
      have HC2 := Lib.hid hC.2
      have hA := HA.out
      rw [hdr] at hA
      have HA2 := Lib.hid (show l ++ (((s.data.toList.drop p).take (u.src - p)) ++ (vval h.data.toList t.data.toList fs u).1 ++ asm s.data.toList (fun u => (vval h.data.toList t.data.toList fs u).1) u.to (us.drop (k + 1))) = tx from hA)
      clear hC hdr hu hA HA HC
      have i1 : (p : Int) ≤ (u.src : Int) := by omega
      have i2 : (u.src : Int) ≤ (s.size : Int) := by omega
      go_wp2_with fail
      have n4 : UBox (wr.alloc (.cells #[.int .i64 u.src, .int .i64 u.to, .string ⟨u.name.toArray⟩, .string ⟨u.key.toArray⟩, .string ⟨u.dft.toArray⟩, .bool u.hk, .bool u.hd] 48)) wr.heap.size u := heap_alloc_new wr _
      have b4 := (Below.refl wr.heap.size wr).alloc (Nat.le_refl _) (.cells #[.int .i64 u.src, .int .i64 u.to, .string ⟨u.name.toArray⟩, .string ⟨u.key.toArray⟩, .string ⟨u.dft.toArray⟩, .bool u.hk, .bool u.hd] 48)
      generalize wr.alloc (.cells #[.int .i64 u.src, .int .i64 u.to, .string ⟨u.name.toArray⟩, .string ⟨u.key.toArray⟩, .string ⟨u.dft.toArray⟩, .bool u.hk, .bool u.hd] 48) = W4 at *
      have hvb : bb < wr.heap.size := HB.out.lt
      have HJ4 := Lib.hid (HJ.out.nx b4 HBB.out (by omega) HF.out HG.out)
      have HB4 := Lib.hid (HB.out.next b4)
      generalize wr.heap.size = vb at *
      clear b4 HJ HB c0 c1 c2 c3 c4 c5 c6
      have hex : (s.extract p u.src).size = u.src - p := by simp [ByteArray.size_extract]; omega
      refine (b_Write bb B l (s.extract p u.src) W4 HB4.out HJ4.out.room (by omega)).mono ?_
      rintro e w5 ⟨rfl, hB5, hk5⟩
      have n5 : UBox w5 vb u := (hk5.other vb (blk_lt n4) (by omega) (fun cs fr => by rw [n4]; intro e; cases e)).trans n4
      have HJ5 := Lib.hid (HJ4.out.kb hk5 HBB.out (by omega) HF.out HG.out)
      have hsz5 : vb < w5.heap.size := blk_lt n5
      rw [ext_mid] at hB5
      have hl5 : (l ++ (s.data.toList.drop p).take (u.src - p)).length ≤ 524288 + 1000000 := by rw [List.length_append, List.length_take, List.length_drop, bs_size]; omega
      have HA5 := Lib.hid (show (l ++ (s.data.toList.drop p).take (u.src - p)) ++ ((vval h.data.toList t.data.toList fs u).1 ++ asm s.data.toList (fun u => (vval h.data.toList t.data.toList fs u).1) u.to (us.drop (k + 1))) = tx by rw [← HA2.out]; simp)
      clear HA2 HB4 HJ4 hk5 n4 hex
      generalize l ++ (s.data.toList.drop p).take (u.src - p) = l5 at *
      have HB5 := Lib.hid hB5
      have HN5 := Lib.hid n5
      obtain ⟨⟨c0, c1, c2, c3, c4, c5, c6⟩, f0, f1, f2, f3, f4, f5, f6⟩ := ubox_cells n5
      obtain ⟨v0, v1, v2⟩ := vbox_cells HJ5.out.vbox
      clear hB5 n5 f0 f1 f2 f3 f4 f5 f6
      go_wp2_with fail
      refine (sub_Value u h t a n c fs w5 HJ5.out.good HJ5.out.fields hlim ht (by omega)).mono ?_
      rintro e w6 ⟨rfl, hb6⟩
      generalize hx : (vval h.data.toList t.data.toList fs u).1 = x at *
      clear hx
      have HJ6 := Lib.hid (HJ5.out.nx hb6 HBB.out (by omega) HF.out HG.out)
      have HB6 := Lib.hid (HB5.out.next hb6)
      have HN6 := Lib.hid (HN5.out.next hb6)
      have hsz6 : vb < w6.heap.size := blk_lt HN6.out
      clear HJ5 HB5 HN5 hb6 c0 c1 c2 c3 c4 c5 c6 v0 v1 v2
      go_wp2_with fail
      refine (b_Len bb B l5 w6 HB6.out (by omega)).mono ?_
      rintro e w7 ⟨rfl, rfl⟩
      by_cases hl : l5.length ≤ 262144
      · have i3 : (l5.length : Int) ≤ 262144 := by omega
        by_cases hx : x.length ≤ 262144
        · have i4 : (x.length : Int) ≤ 262144 := by omega
          go_wp2_with fail
          refine (b_Write bb B l5 ⟨x.toArray⟩ w6 HB6.out HJ6.out.room (by show l5.length + x.length ≤ _; omega)).mono ?_
          rintro e w8 ⟨rfl, hB8, hk8⟩
          have n8 : UBox w8 vb u := (hk8.other vb (blk_lt HN6.out) (by omega) (fun cs fr => by rw [HN6.out]; intro e; cases e)).trans HN6.out
          have HJ8 := Lib.hid (HJ6.out.kb hk8 HBB.out (by omega) HF.out HG.out)
          have c1 := cell_of_row _ _ 1 _ _ _ n8
          have HB8 := Lib.hid (show Bld w8 bb B (l5 ++ x) from hB8)
          have HA8 := Lib.hid (show (l5 ++ x) ++ asm s.data.toList (fun u => (vval h.data.toList t.data.toList fs u).1) u.to (us.drop (k + 1)) = tx by rw [← HA5.out]; simp)
          clear hB8 hk8 n8 HN6 HB6 HJ6 HA5
          go_wp2_with fail
          go_roundw
          case rel => exact ⟨k + 1, u.to, l5 ++ x, rfl, by go_num, by omega, hf3, by rw [List.length_append]; omega, HC2, HA8, HB8, HJ8⟩
          case measure => (simp [intOf] <;> omega)
        · have i4 : (262144 : Int) < (x.length : Int) := by omega
          have HL := Lib.hid (apply_long (h := h.data.toList) (t := t.data.toList) (fs := fs) (s := s.data.toList) (by rw [HX.out, ← HA5.out]; unfold maxOut; simp only [List.length_append]; omega))
          go_wp2_with fail
          go_ret2
          rw [HL.out]
          exact ⟨rfl, HJ6.out.below⟩
      · have i3 : (262144 : Int) < (l5.length : Int) := by omega
        have HL := Lib.hid (apply_long (h := h.data.toList) (t := t.data.toList) (fs := fs) (s := s.data.toList) (by rw [HX.out, ← HA5.out]; unfold maxOut; simp only [List.length_append]; omega))
        go_wp2_with fail
        go_ret2
        rw [HL.out]
        exact ⟨rfl, HJ6.out.below⟩
    · have hk2 : k = us.length := by omega
      have hA := HA.out
      rw [hk2, List.drop_eq_nil_of_le (Nat.le_refl _)] at hA
      have HA2 := Lib.hid (show l ++ s.data.toList.drop p = tx from hA)
      have i1 : (p : Int) ≤ (s.size : Int) := by omega
      clear hA HA HC
      go_wp2_with fail
      rw [exl_drop']
      have hdl : (⟨(s.data.toList.drop p).toArray⟩ : ByteArray).size ≤ 1000000 := by show (s.data.toList.drop p).length ≤ _; rw [List.length_drop, bs_size]; omega
      refine (b_Write bb B l ⟨(s.data.toList.drop p).toArray⟩ wr HB.out HJ.out.room (by omega)).mono ?_
      rintro e w5 ⟨rfl, hB5, hk5⟩
      have hB5' : Bld w5 bb B tx := by rw [← HA2.out]; exact hB5
      have HJ5 := Lib.hid (HJ.out.kb hk5 HBB.out hbb HF.out HG.out)
      have HB5 := Lib.hid hB5'
      clear hB5 hB5' hk5 HJ HB HA2 hdl
      go_wp2_with fail
      refine (b_Len bb B tx w5 HB5.out (by omega)).mono ?_
      rintro e w7 ⟨rfl, rfl⟩
      by_cases hl : tx.length ≤ 262144
      · have i3 : (tx.length : Int) ≤ 262144 := by omega
        have HL := Lib.hid (apply_ok (h := h.data.toList) (t := t.data.toList) (fs := fs) (s := s.data.toList) (by rw [HX.out]; exact hl))
        go_wp2_with fail
        refine (b_String bb B tx w5 HB5.out (by omega)).mono ?_
        rintro e w8 ⟨rfl, hb8⟩
        have HBel := Lib.hid (HJ5.out.below.trans (hb8.mono (by have := HBB.out; omega)))
        clear hb8
        go_wp2_with fail
        go_ret2
        rw [HL.out, HX.out]
        exact ⟨rfl, HBel.out⟩
      · have i3 : (262144 : Int) < (tx.length : Int) := by omega
        have HL := Lib.hid (apply_long (h := h.data.toList) (t := t.data.toList) (fs := fs) (s := s.data.toList) (by rw [HX.out]; unfold maxOut; omega))
        go_wp2_with fail
        go_ret2
        rw [HL.out]
        exact ⟨rfl, HJ5.out.below⟩
end Go.Proofs.YtoipnaoijccokaaGreatDoor
