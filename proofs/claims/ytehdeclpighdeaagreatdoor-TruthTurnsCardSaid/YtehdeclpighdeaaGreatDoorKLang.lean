/- The walk of the program's cookie. The walk of the program's asked. The walk of the program's language. -/
import Derived.Test.YtehdeclpighdeaaGreatDoorKSplitSeq
import Derived.Test.YtehdeclpighdeaaGreatDoorKVars3
namespace Go.Proofs.YtehdeclpighdeaaGreatDoor
open Go.RowKit Go.Shelf
attribute [local go_sem] Oper.semAt_some
set_option linter.unusedVariables false
structure Four (w W : World) (o1 o2 o3 o4 : Obj) : Prop where
  b1 : W.heap[w.heap.size]? = some o1
  b2 : W.heap[w.heap.size + 1]? = some o2
  b3 : W.heap[w.heap.size + 1 + 1]? = some o3
  b4 : W.heap[w.heap.size + 1 + 1 + 1]? = some o4
  size : W.heap.size = w.heap.size + 1 + 1 + 1 + 1
  below : Below w.heap.size w W
theorem four_new (w : World) (o1 o2 o3 o4 : Obj) : Four w ((((w.alloc o1).alloc o2).alloc o3).alloc o4) o1 o2 o3 o4 := by
  have n1 : (w.alloc o1).heap[w.heap.size]? = some o1 := World.alloc_heap_new w _
  have n2 := World.alloc_heap_new (w.alloc o1) o2
  have n3 := World.alloc_heap_new ((w.alloc o1).alloc o2) o3
  have n4 := World.alloc_heap_new (((w.alloc o1).alloc o2).alloc o3) o4
  simp only [World.size_alloc] at n2 n3 n4
  have hb1 := (Below.refl w.heap.size w).alloc (Nat.le_refl _) o1
  have hb2 := hb1.alloc hb1.size o2
  have hb3 := hb2.alloc hb2.size o3
  exact ⟨(Below.heap_alloc _ _ _ (by simp <;> omega)).trans ((Below.heap_alloc _ _ _ (by simp <;> omega)).trans ((Below.heap_alloc _ _ _ (by simp)).trans n1)),
    (Below.heap_alloc _ _ _ (by simp <;> omega)).trans ((Below.heap_alloc _ _ _ (by simp)).trans n2),
    (Below.heap_alloc _ _ _ (by simp)).trans n3, n4, by simp, hb3.alloc hb3.size o4⟩
def Seek (w0 : World) (bs : Nat) (p : Bs → Option Bs) (pre : List Bs) (W : World) : Prop := pre.findSome? p = none ∧ Stays w0.heap.size bs w0 W
def Hit (w w0 : World) (b4 b5 : Nat) (p : Bs → Option Bs) (pre : List Bs) (W : World) : Prop :=
  ∃ v : Bs, pre.findSome? p = some v ∧ Below w.heap.size w W ∧ w0.heap.size ≤ W.heap.size ∧ W.heap[b4]? = some (.cells #[.string ⟨v.toArray⟩] 9) ∧ W.heap[b5]? = some (.cells #[.bool true] 4)
theorem seek_stays (w0 : World) (bs : Nat) (p : Bs → Option Bs) (pre : List Bs) (A B : World) (h : Seek w0 bs p pre A) (k : Stays w0.heap.size bs A B) : Seek w0 bs p pre B := ⟨h.1, h.2.trans k⟩
theorem hit_stays (w w0 : World) (bs b4 b5 : Nat) (p : Bs → Option Bs) (hw : w.heap.size ≤ w0.heap.size) (hbs : w.heap.size ≤ bs) (h4 : b4 < w0.heap.size) (h5 : b5 < w0.heap.size) (hb4 : b4 ≠ bs) (hb5 : b5 ≠ bs)
    (pre : List Bs) (A B : World) (h : Hit w w0 b4 b5 p pre A) (k : Stays w0.heap.size bs A B) : Hit w w0 b4 b5 p pre B := by
  obtain ⟨v, h1, h2, h3, h5', h6⟩ := h
  exact ⟨v, h1, k.below h2 hw hbs, Nat.le_trans h3 k.size, (k.block _ h4 hb4).trans h5', (k.block _ h5 hb5).trans h6⟩
theorem hit_mk {w w0 W w4 : World} {bs b4 b5 : Nat} {p : Bs → Option Bs} {pre : List Bs} {x v : Bs} {t4 t5 : Value} (hw : Below w.heap.size w w0) (hst : Stays w0.heap.size bs w0 W) (hb : Below W.heap.size W w4) (hbs : w.heap.size ≤ bs)
    (h4 : w.heap.size ≤ b4) (h5 : w.heap.size ≤ b5) (h45 : b4 ≠ b5) (q4 : w4.heap[b4]? = some (.cells #[t4] 9)) (q5 : w4.heap[b5]? = some (.cells #[t5] 4))
    (hno : pre.findSome? p = none) (hx : p x = some v) :
    Keep (fun k => k = b4 ∨ k = b5) W ((w4.setCell ⟨b4, 0, none⟩ (.string ⟨v.toArray⟩)).setCell ⟨b5, 0, none⟩ (.bool true)) ∧
    Hit w w0 b4 b5 p (pre ++ [x]) ((w4.setCell ⟨b4, 0, none⟩ (.string ⟨v.toArray⟩)).setCell ⟨b5, 0, none⟩ (.bool true)) := by
  refine ⟨((Keep.of_below hb).setCell (.inl rfl) _).setCell (.inr rfl) _, v, by rw [List.findSome?_append, hno]; simp [hx], ?_, ?_, ?_, ?_⟩
  · exact (((hst.below hw hw.size hbs).trans (hb.mono (Nat.le_trans hw.size hst.size))).setCell (p := ⟨b4, 0, none⟩) h4 _).setCell (p := ⟨b5, 0, none⟩) h5 _
  · rw [setCell_size, setCell_size]; exact Nat.le_trans hst.size hb.size
  · exact (Below.heap_setCell _ ⟨b5, 0, none⟩ _ _ h45).trans (box_set q4)
  · exact box_set ((Below.heap_setCell _ ⟨b4, 0, none⟩ _ _ (Ne.symm h45)).trans q5)
theorem seek_mk {w0 W w4 : World} {S : Nat → Prop} {bs : Nat} {p : Bs → Option Bs} {pre : List Bs} {x : Bs} (hst : Stays w0.heap.size bs w0 W) (hb : Below W.heap.size W w4) (hno : pre.findSome? p = none) (hx : p x = none) :
    Keep S W w4 ∧ Seek w0 bs p (pre ++ [x]) w4 :=
  ⟨Keep.of_below hb, by rw [List.findSome?_append, hno]; simp [hx], hst.trans ⟨hb.os, hb.tape, hb.output, hb.size, fun k hk _ => hb.block k (Nat.lt_of_lt_of_le hk hst.size)⟩⟩
theorem ckOf_hit' {key : ByteArray} {l : Bs} (hc : (trim l).contains 61 = true) (h : (upto 61 (trim l) == key.toList) = true) : ckOf key.data.toList l = some (past 61 (trim l)) := by
  rw [Lib.toList_data] at h; unfold ckOf; rw [h, hc]; rfl
theorem ckOf_ne' {key : ByteArray} {l : Bs} (h : (upto 61 (trim l) == key.toList) = false) : ckOf key.data.toList l = none := by
  rw [Lib.toList_data] at h; unfold ckOf; rw [h, Bool.and_false]; rfl
theorem box_at {W : World} {k D : Nat} {v : Value} {t : TypeId} (h : W.heap[k]? = some (.cells #[v] t)) (hD : k ≠ D) (o : Obj) : (W.putObj D o).cell? ⟨k, 0, none⟩ = some v :=
  (box_cell ((World.putObj_heap_other (o := o) hD).trans h)).1
theorem ret2_mk {w W : World} {b4 b5 D : Nat} {t4 t5 : Value} (hb : Below w.heap.size w W) (h4 : w.heap.size ≤ b4) (h5 : w.heap.size ≤ b5) (h45 : b4 ≠ b5) (h4D : b4 < D) (h5D : b5 < D)
    (q4 : W.heap[b4]? = some (.cells #[t4] 9)) (q5 : W.heap[b5]? = some (.cells #[t5] 4)) (hK : W.heap[D]? = some (.deferred (some []))) (s : ByteArray) (v : Bool) :
    Below w.heap.size w ((((W.setCell ⟨b4, 0, none⟩ (.string s)).setCell ⟨b5, 0, none⟩ (.bool v))).putObj D (.deferred none)) ∧
    ((W.setCell ⟨b4, 0, none⟩ (.string s)).setCell ⟨b5, 0, none⟩ (.bool v)).heap[D]? = some (.deferred (some [])) ∧
    ((((W.setCell ⟨b4, 0, none⟩ (.string s)).setCell ⟨b5, 0, none⟩ (.bool v))).putObj D (.deferred none)).cell? ⟨b4, 0, none⟩ = some (.string s) ∧
    ((((W.setCell ⟨b4, 0, none⟩ (.string s)).setCell ⟨b5, 0, none⟩ (.bool v))).putObj D (.deferred none)).cell? ⟨b5, 0, none⟩ = some (.bool v) := by
  have hb2 := (hb.setCell (p := ⟨b4, 0, none⟩) h4 (.string s)).setCell (p := ⟨b5, 0, none⟩) h5 (.bool v)
  have r4 : ((W.setCell ⟨b4, 0, none⟩ (.string s)).setCell ⟨b5, 0, none⟩ (.bool v)).heap[b4]? = _ := (Below.heap_setCell _ ⟨b5, 0, none⟩ _ _ h45).trans (box_set q4)
  have r5 : ((W.setCell ⟨b4, 0, none⟩ (.string s)).setCell ⟨b5, 0, none⟩ (.bool v)).heap[b5]? = _ := box_set ((Below.heap_setCell _ ⟨b4, 0, none⟩ _ _ (Ne.symm h45)).trans q5)
  refine ⟨⟨hb2.os, hb2.tape, hb2.output, by simpa using hb2.size, fun k hk => (World.putObj_heap_other (by omega)).trans (hb2.block k hk)⟩, ?_, box_at r4 (by omega) _, box_at r5 (by omega) _⟩
  exact (Below.heap_setCell _ ⟨b5, 0, none⟩ _ _ (by show D ≠ b5; omega)).trans ((Below.heap_setCell _ ⟨b4, 0, none⟩ _ _ (by show D ≠ b4; omega)).trans hK)
theorem ret2_mk0 {w W : World} {b4 b5 D : Nat} {v4 v5 : Value} {t4 t5 : TypeId} (hb : Below w.heap.size w W) (h4D : b4 < D ∧ w.heap.size ≤ D) (h5D : b5 < D)
    (q4 : W.heap[b4]? = some (.cells #[v4] t4)) (q5 : W.heap[b5]? = some (.cells #[v5] t5)) :
    Below w.heap.size w (W.putObj D (.deferred none)) ∧ (W.putObj D (.deferred none)).cell? ⟨b4, 0, none⟩ = some v4 ∧ (W.putObj D (.deferred none)).cell? ⟨b5, 0, none⟩ = some v5 :=
  ⟨⟨hb.os, hb.tape, hb.output, by simpa using hb.size, fun k hk => (World.putObj_heap_other (by omega)).trans (hb.block k hk)⟩, box_at q4 (by omega) _, box_at q5 (by omega) _⟩
theorem findSome_pre {α β : Type} {f : α → Option β} {pre l : List α} {v : β} (h : pre <+: l) (hv : pre.findSome? f = some v) : l.findSome? f = some v := by
  obtain ⟨r, rfl⟩ := h
  rw [List.findSome?_append, hv]; rfl
set_option maxRecDepth 100000 in
set_option maxHeartbeats 800000 in
theorem vars_cookie (h t key : ByteArray) (a : Option Addr) (n c : Nat) (fs : List Fld) (w : World) (hg : Good w) (hF : FieldsAt w (.slice a n c) fs) (hlim : Lim fs) :
    Calls Tryz.prog 141 #[.agg #[.string h, .string t, .slice a n c], .string key] w
      (Ret w (.tuple #[.string ⟨((vcookie fs key.data.toList).getD []).toArray⟩, .bool (vcookie fs key.data.toList).isSome])) := by
  have hcl := vcookies_len hlim
  have HG := Lib.hid (show vcookie fs key.data.toList = (pieces 59 (vcookies fs).1).findSome? (ckOf key.data.toList) from rfl)
  have HW := Lib.hid (four_new w (.cells #[.string h, .string t, .slice a n c] 59) (.cells #[.string key] 9) (.cells #[.string ⟨#[]⟩] 9) (.cells #[.bool false] 4))
  have hlm := hg.lt
  obtain ⟨N, _⟩ : ∃ N : Nat, True := ⟨0, trivial⟩
  refine (callsIn_wide (n := N)).1 ?_
  refine callsIn_of_wp_marks Tryz.func141 rfl trivial ?_ rfl
  simp only [Tryz.ntmps141, List.size_toArray, List.length_cons, List.length_nil, Nat.reduceAdd, Nat.reduceSub, Array.replicate_succ, Array.replicate_zero, List.push_toArray, List.append_toArray, List.nil_append, List.cons_append]
  gi_wp2_with fail
  generalize (((w.alloc (.cells #[.string h, .string t, .slice a n c] 59)).alloc (.cells #[.string key] 9)).alloc (.cells #[.string ⟨#[]⟩] 9)).alloc (.cells #[.bool false] 4) = W0 at *
  have h4 := HW.out
  clear HW
  have hbW := h4.below
  have hsW := h4.size
  refine call_wide ((vars_cookies h t a n c fs _ (hF.below hbW) hlim).mono ?_)
  rintro e w1 ⟨rfl, hb1⟩
  have hg1 : Good w1 := (hg.next hbW).next hb1
  have hbw1 := hbW.trans (hb1.mono hbW.size)
  have k2 := (hb1.block _ (by omega)).trans h4.b2
  have k3 := (hb1.block _ (by omega)).trans h4.b3
  have k4 := (hb1.block _ (by omega)).trans h4.b4
  have hs1 := hb1.size
  clear hb1 h4 hbW
  generalize (vcookies fs).1 = all at *
  gi_wp2_with fail
  refine call_wide ((lib_SplitSeq all 59 w1).mono ?_)
  rintro e w2 ⟨rfl, hit, hs2, hb2⟩
  have hg2 : Good w2 := hg1.next hb2
  have hbw2 := hbw1.trans (hb2.mono hbw1.size)
  replace k2 := (hb2.block _ (by omega)).trans k2
  replace k3 := (hb2.block _ (by omega)).trans k3
  replace k4 := (hb2.block _ (by omega)).trans k4
  clear hb2 hbw1
  gi_wp2_with fail
  have hlw1 : w.heap.size + 1 + 1 + 1 + 1 ≤ w1.heap.size := by omega
  refine range_split 59 all w1.heap.size (w1.heap.size + 1) (w1.heap.size + 1 + 1) (by omega) (by omega) (by omega) rfl rfl hit hg2 (by omega)
    (fun k => k = w.heap.size + 1 + 1 ∨ k = w.heap.size + 1 + 1 + 1) (by rintro k (rfl | rfl) <;> omega)
    (Seek w2 w1.heap.size (ckOf key.data.toList)) (Hit w w2 (w.heap.size + 1 + 1) (w.heap.size + 1 + 1 + 1) (ckOf key.data.toList))
    (seek_stays w2 _ _) (hit_stays w w2 _ _ _ _ (by omega) (by omega) (by omega) (by omega) (by omega) (by omega)) ⟨rfl, Stays.refl _ _ _⟩ ?a1 ?assign ?body ?done ?stop
  case assign =>
    intro l x W K hK
    gi_wp2
    exact hK
  case body =>
    rintro l pre x W ⟨hno, hst⟩ hgW hpre
    have hxl : x.length ≤ all.length := pieces_each 59 all.length all (Nat.le_refl _) x (hpre.subset (by simp))
    have htl := trim_len x
    have hul := upto_len 61 (trim x)
    have hsz := hst.size
    obtain ⟨c2, _⟩ := box_cell ((hst.block _ (by omega) (by omega)).trans k2)
    have Hno := Lib.hid hno
    clear hno
    gi_wp2_with fail
    refine call_round ((text_Trim ⟨x.toArray⟩ _ (bsz _ _ (by omega))).mono ?_)
    rintro e w3 ⟨rfl, hb3⟩
    have hat : (⟨x.toArray⟩ : ByteArray).data.toList = x := rfl
    rw [hat]
    clear hat
    gi_wp2_with fail
    refine call_round ((lib_Cut1 ⟨(trim x).toArray⟩ 61 _ (hgW.next hb3) (bsz_lt _ _ (by omega))).mono ?_)
    rintro e w4 ⟨rfl, hb4⟩
    have hat : (⟨(trim x).toArray⟩ : ByteArray).data.toList = trim x := rfl
    rw [hat]
    clear hat
    have hb34 : Below W.heap.size W w4 := hb3.trans (hb4.mono hb3.size)
    have c2' : w4.cell? ⟨w.heap.size + 1, 0, none⟩ = some (.string key) := (hb34.cell (p := ⟨w.heap.size + 1, 0, none⟩) (by show w.heap.size + 1 < _; omega)).trans c2
    have q3 := (hb34.block (w.heap.size + 1 + 1) (by omega)).trans ((hst.block _ (by omega) (by omega)).trans k3)
    have q4 := (hb34.block (w.heap.size + 1 + 1 + 1) (by omega)).trans ((hst.block _ (by omega) (by omega)).trans k4)
    obtain ⟨c3, f3⟩ := box_cell q3
    obtain ⟨c4, f4⟩ := box_cell q4
    have Q3 := Lib.hid q3
    have Q4 := Lib.hid q4
    clear c2 hb3 hb4 q3 q4
    rcases hh : hasB 61 (trim x) with _ | _
    · have Hh := Lib.hid (ckOf_no (key := key.data.toList) hh)
      gi_wp2
      exact seek_mk hst hb34 Hno.out Hh.out
    · have Hh := Lib.hid hh
      rcases hq : (upto 61 (trim x) == key.toList) with _ | _
      · have Hq := Lib.hid hq
        gi_wp2
        exact seek_mk hst hb34 Hno.out (ckOf_ne' Hq.out)
      · have Hq := Lib.hid hq
        gi_wp2
        exact hit_mk hbw2 hst hb34 (by omega) (by omega) (by omega) (by omega) Q3.out Q4.out Hno.out (ckOf_hit' Hh.out Hq.out)
  case done =>
    rintro D W hD ⟨hno, hst⟩ hK
    obtain ⟨c3, f3⟩ := box_cell ((hst.block _ (by omega) (by omega)).trans k3)
    obtain ⟨c4, f4⟩ := box_cell ((hst.block _ (by omega) (by omega)).trans k4)
    have HE := Lib.hid (ret2_mk (hst.below hbw2 (by omega) (by omega)) (by omega) (by omega) (by omega) (by omega) (by omega) ((hst.block _ (by omega) (by omega)).trans k3) ((hst.block _ (by omega) (by omega)).trans k4) hK ⟨#[]⟩ false)
    have Hno := Lib.hid hno
    clear hno hK hst
    gi_wp2
    obtain ⟨hb, hK', e4, e5⟩ := HE.out
    refine ⟨by simp, .inl ⟨_, _, rfl, run_takeDeferred hK', ?_⟩⟩
    refine ⟨.tuple #[.string ⟨#[]⟩, .bool false], ?_, ?_, hb⟩
    · simp [results, Tryz.f141, go_sem, e4, e5]
    · rw [HG.out, Hno.out]; rfl
  case stop =>
    rintro D pre W hD hpre ⟨v, hv, hbel, hsz, q4, q5⟩ hK
    have HE := Lib.hid (ret2_mk0 (D := D) hbel (by omega) (by omega) q4 q5)
    have HK := Lib.hid hK
    have Hv := Lib.hid (findSome_pre hpre hv)
    clear hv hK hbel
    gi_wp2
    obtain ⟨hb, e4, e5⟩ := HE.out
    refine ⟨by simp, .inl ⟨_, _, rfl, run_takeDeferred HK.out, ?_⟩⟩
    refine ⟨.tuple #[.string ⟨v.toArray⟩, .bool true], ?_, ?_, hb⟩
    · simp [results, Tryz.f141, go_sem, e4, e5]
    · rw [HG.out, Hv.out]; rfl
end Go.Proofs.YtehdeclpighdeaaGreatDoor
namespace Go.Proofs.YtehdeclpighdeaaGreatDoor
open Go.RowKit Go.Shelf
attribute [local go_sem] Oper.semAt_some
set_option linter.unusedVariables false
theorem quOf_none' {key : ByteArray} {l : Bs} (h : (upto 61 l == key.toList) = false) : quOf key.data.toList l = none := by
  rw [Lib.toList_data] at h; unfold quOf; rw [h]; rfl
theorem quOf_some' {key : ByteArray} {l : Bs} (h : (upto 61 l == key.toList) = true) : quOf key.data.toList l = some (past 61 l) := by
  rw [Lib.toList_data] at h; unfold quOf; rw [h]; rfl
set_option maxRecDepth 100000 in
set_option maxHeartbeats 800000 in
theorem vars_asked (h t key : ByteArray) (a : Option Addr) (n c : Nat) (fs : List Fld) (w : World) (hg : Good w) (ht : t.size ≤ 100000) :
    Calls Tryz.prog 143 #[.agg #[.string h, .string t, .slice a n c], .string key] w
      (Ret w (.tuple #[.string ⟨((vasked t.data.toList key.data.toList).getD []).toArray⟩, .bool (vasked t.data.toList key.data.toList).isSome])) := by
  have hcl : (past 63 t.data.toList).length ≤ 100000 := Nat.le_trans (past_len 63 _) (by rw [bs_size]; exact ht)
  have HG := Lib.hid (show vasked t.data.toList key.data.toList = (pieces 38 (past 63 t.data.toList)).findSome? (quOf key.data.toList) from rfl)
  have HW := Lib.hid (four_new w (.cells #[.string h, .string t, .slice a n c] 59) (.cells #[.string key] 9) (.cells #[.string ⟨#[]⟩] 9) (.cells #[.bool false] 4))
  have hlm := hg.lt
  obtain ⟨N, _⟩ : ∃ N : Nat, True := ⟨0, trivial⟩
  refine (callsIn_wide (n := N)).1 ?_
  refine callsIn_of_wp_marks Tryz.func143 rfl trivial ?_ rfl
  simp only [Tryz.ntmps143, List.size_toArray, List.length_cons, List.length_nil, Nat.reduceAdd, Nat.reduceSub, Array.replicate_succ, Array.replicate_zero, List.push_toArray, List.append_toArray, List.nil_append, List.cons_append]
  gi_wp2_with fail
  generalize (((w.alloc (.cells #[.string h, .string t, .slice a n c] 59)).alloc (.cells #[.string key] 9)).alloc (.cells #[.string ⟨#[]⟩] 9)).alloc (.cells #[.bool false] 4) = W0 at *
  have h4 := HW.out
  clear HW
  have hbW := h4.below
  have hsW := h4.size
  refine call_wide ((vars_query h t a n c _ (hg.next hbW) ht).mono ?_)
  rintro e w1 ⟨rfl, hb1⟩
  have hg1 : Good w1 := (hg.next hbW).next hb1
  have hbw1 := hbW.trans (hb1.mono hbW.size)
  have k2 := (hb1.block _ (by omega)).trans h4.b2
  have k3 := (hb1.block _ (by omega)).trans h4.b3
  have k4 := (hb1.block _ (by omega)).trans h4.b4
  have hs1 := hb1.size
  clear hb1 h4 hbW
  generalize past 63 t.data.toList = all at *
  gi_wp2_with fail
  refine call_wide ((lib_SplitSeq all 38 w1).mono ?_)
  rintro e w2 ⟨rfl, hit, hs2, hb2⟩
  have hg2 : Good w2 := hg1.next hb2
  have hbw2 := hbw1.trans (hb2.mono hbw1.size)
  replace k2 := (hb2.block _ (by omega)).trans k2
  replace k3 := (hb2.block _ (by omega)).trans k3
  replace k4 := (hb2.block _ (by omega)).trans k4
  clear hb2 hbw1
  gi_wp2_with fail
  have hlw1 : w.heap.size + 1 + 1 + 1 + 1 ≤ w1.heap.size := by omega
  refine range_split 38 all w1.heap.size (w1.heap.size + 1) (w1.heap.size + 1 + 1) (by omega) (by omega) (by omega) rfl rfl hit hg2 (by omega)
    (fun k => k = w.heap.size + 1 + 1 ∨ k = w.heap.size + 1 + 1 + 1) (by rintro k (rfl | rfl) <;> omega)
    (Seek w2 w1.heap.size (quOf key.data.toList)) (Hit w w2 (w.heap.size + 1 + 1) (w.heap.size + 1 + 1 + 1) (quOf key.data.toList))
    (seek_stays w2 _ _) (hit_stays w w2 _ _ _ _ (by omega) (by omega) (by omega) (by omega) (by omega) (by omega)) ⟨rfl, Stays.refl _ _ _⟩ ?a1 ?assign ?body ?done ?stop
  case assign =>
    intro l x W K hK
    gi_wp2
    exact hK
  case body =>
    rintro l pre x W ⟨hno, hst⟩ hgW hpre
    have hxl : x.length ≤ all.length := pieces_each 38 all.length all (Nat.le_refl _) x (hpre.subset (by simp))
    have hsz := hst.size
    obtain ⟨c2, _⟩ := box_cell ((hst.block _ (by omega) (by omega)).trans k2)
    have Hno := Lib.hid hno
    clear hno
    gi_wp2_with fail
    refine call_round ((lib_Cut1 ⟨x.toArray⟩ 61 _ hgW (bsz_lt _ _ (by omega))).mono ?_)
    rintro e w4 ⟨rfl, hb34⟩
    have hat : (⟨x.toArray⟩ : ByteArray).data.toList = x := rfl
    rw [hat]
    clear hat
    have c2' : w4.cell? ⟨w.heap.size + 1, 0, none⟩ = some (.string key) := (hb34.cell (p := ⟨w.heap.size + 1, 0, none⟩) (by show w.heap.size + 1 < _; omega)).trans c2
    have q3 := (hb34.block (w.heap.size + 1 + 1) (by omega)).trans ((hst.block _ (by omega) (by omega)).trans k3)
    have q4 := (hb34.block (w.heap.size + 1 + 1 + 1) (by omega)).trans ((hst.block _ (by omega) (by omega)).trans k4)
    obtain ⟨c3, f3⟩ := box_cell q3
    obtain ⟨c4, f4⟩ := box_cell q4
    have Q3 := Lib.hid q3
    have Q4 := Lib.hid q4
    clear c2 q3 q4
    rcases hq : (upto 61 x == key.toList) with _ | _
    · have Hq := Lib.hid (quOf_none' hq)
      gi_wp2
      exact seek_mk hst hb34 Hno.out Hq.out
    · have Hq := Lib.hid (quOf_some' hq)
      gi_wp2
      exact hit_mk hbw2 hst hb34 (by omega) (by omega) (by omega) (by omega) Q3.out Q4.out Hno.out Hq.out
  case done =>
    rintro D W hD ⟨hno, hst⟩ hK
    obtain ⟨c3, f3⟩ := box_cell ((hst.block _ (by omega) (by omega)).trans k3)
    obtain ⟨c4, f4⟩ := box_cell ((hst.block _ (by omega) (by omega)).trans k4)
    have HE := Lib.hid (ret2_mk (hst.below hbw2 (by omega) (by omega)) (by omega) (by omega) (by omega) (by omega) (by omega) ((hst.block _ (by omega) (by omega)).trans k3) ((hst.block _ (by omega) (by omega)).trans k4) hK ⟨#[]⟩ false)
    have Hno := Lib.hid hno
    clear hno hK hst
    gi_wp2
    obtain ⟨hb, hK', e4, e5⟩ := HE.out
    refine ⟨by simp, .inl ⟨_, _, rfl, run_takeDeferred hK', ?_⟩⟩
    refine ⟨.tuple #[.string ⟨#[]⟩, .bool false], ?_, ?_, hb⟩
    · simp [results, Tryz.f143, go_sem, e4, e5]
    · rw [HG.out, Hno.out]; rfl
  case stop =>
    rintro D pre W hD hpre ⟨v, hv, hbel, hsz, q4, q5⟩ hK
    have HE := Lib.hid (ret2_mk0 (D := D) hbel (by omega) (by omega) q4 q5)
    have HK := Lib.hid hK
    have Hv := Lib.hid (findSome_pre hpre hv)
    clear hv hK hbel
    gi_wp2
    obtain ⟨hb, e4, e5⟩ := HE.out
    refine ⟨by simp, .inl ⟨_, _, rfl, run_takeDeferred HK.out, ?_⟩⟩
    refine ⟨.tuple #[.string ⟨v.toArray⟩, .bool true], ?_, ?_, hb⟩
    · simp [results, Tryz.f143, go_sem, e4, e5]
    · rw [HG.out, Hv.out]; rfl
end Go.Proofs.YtehdeclpighdeaaGreatDoor
namespace Go.Proofs.YtehdeclpighdeaaGreatDoor
open Go.RowKit Go.Shelf
attribute [local go_sem] Oper.semAt_some
set_option linter.unusedVariables false
def lgO (key x : Bs) : Option Bs := if lgOf key x then some [116, 114, 117, 101] else none
theorem any_none {key : Bs} : ∀ {l : List Bs}, l.findSome? (lgO key) = none → l.any (lgOf key) = false
  | [], _ => rfl
  | x :: l, h => by
    rw [List.findSome?_cons] at h
    unfold lgO at h
    cases hx : lgOf key x
    · rw [hx] at h; rw [List.any_cons, hx]; exact any_none (l := l) h
    · rw [hx] at h; cases h
theorem any_some {key v : Bs} : ∀ {l : List Bs}, l.findSome? (lgO key) = some v → l.any (lgOf key) = true ∧ v = [116, 114, 117, 101]
  | [], h => by cases h
  | x :: l, h => by
    rw [List.findSome?_cons] at h
    unfold lgO at h
    cases hx : lgOf key x
    · rw [hx] at h; rw [List.any_cons, hx]; exact any_some (l := l) h
    · rw [hx] at h; rw [List.any_cons, hx]; exact ⟨rfl, by simpa using h.symm⟩
theorem lgO_no1 {key l : Bs} (h : same (trim (upto 59 l)) key = false) : lgO key l = none := by unfold lgO lgOf; rw [h]; rfl
theorem lgO_no2 {key l : Bs} (h : (pieces 59 l).tail.any zero = true) : lgO key l = none := by unfold lgO lgOf; rw [h, Bool.not_true, Bool.and_false]; rfl
theorem lgO_yes {key l : Bs} (h : same (trim (upto 59 l)) key = true) (h2 : (pieces 59 l).tail.any zero = false) : lgO key l = some [116, 114, 117, 101] := by unfold lgO lgOf; rw [h, h2]; rfl
set_option maxRecDepth 100000 in
set_option maxHeartbeats 800000 in
theorem vars_language (h t key : ByteArray) (a : Option Addr) (n c : Nat) (fs : List Fld) (w : World) (hg : Good w) (hF : FieldsAt w (.slice a n c) fs) (hlim : Lim fs)  (hkey : key.size ≤ 100000) :
    Calls Tryz.prog 144 #[.agg #[.string h, .string t, .slice a n c], .string key] w
      (Ret w (.tuple #[.string ⟨(langV (vlang fs key.data.toList)).toArray⟩, .bool (vlang fs key.data.toList)])) := by
  have hcl := fget_len hlim langName
  have HG := Lib.hid (show vlang fs key.data.toList = (pieces 44 (fget fs langName).1).any (lgOf key.data.toList) from rfl)
  have HW := Lib.hid (four_new w (.cells #[.string h, .string t, .slice a n c] 59) (.cells #[.string key] 9) (.cells #[.string ⟨#[]⟩] 9) (.cells #[.bool false] 4))
  have hlm := hg.lt
  obtain ⟨N, _⟩ : ∃ N : Nat, True := ⟨0, trivial⟩
  refine (callsIn_wide (n := N)).1 ?_
  refine callsIn_of_wp_marks Tryz.func144 rfl trivial ?_ rfl
  simp only [Tryz.ntmps144, List.size_toArray, List.length_cons, List.length_nil, Nat.reduceAdd, Nat.reduceSub, Array.replicate_succ, Array.replicate_zero, List.push_toArray, List.append_toArray, List.nil_append, List.cons_append]
  gi_wp2_with fail
  generalize (((w.alloc (.cells #[.string h, .string t, .slice a n c] 59)).alloc (.cells #[.string key] 9)).alloc (.cells #[.string ⟨#[]⟩] 9)).alloc (.cells #[.bool false] 4) = W0 at *
  have h4 := HW.out
  clear HW
  have hbW := h4.below
  have hsW := h4.size
  refine call_wide ((fields_Get fs _ ⟨#[97, 99, 99, 101, 112, 116, 45, 108, 97, 110, 103, 117, 97, 103, 101]⟩ _ (hF.below hbW) hlim (by decide)).mono ?_)
  rintro e w1 ⟨rfl, hb1⟩
  have hnm : (⟨#[97, 99, 99, 101, 112, 116, 45, 108, 97, 110, 103, 117, 97, 103, 101]⟩ : ByteArray).data.toList = langName := rfl
  rw [hnm]
  clear hnm
  have hg1 : Good w1 := (hg.next hbW).next hb1
  have hbw1 := hbW.trans (hb1.mono hbW.size)
  have k2 := (hb1.block _ (by omega)).trans h4.b2
  have k3 := (hb1.block _ (by omega)).trans h4.b3
  have k4 := (hb1.block _ (by omega)).trans h4.b4
  have hs1 := hb1.size
  clear hb1 h4 hbW
  generalize (fget fs langName).1 = all at *
  gi_wp2_with fail
  refine call_wide ((lib_SplitSeq all 44 w1).mono ?_)
  rintro e w2 ⟨rfl, hit, hs2, hb2⟩
  have hg2 : Good w2 := hg1.next hb2
  have hbw2 := hbw1.trans (hb2.mono hbw1.size)
  replace k2 := (hb2.block _ (by omega)).trans k2
  replace k3 := (hb2.block _ (by omega)).trans k3
  replace k4 := (hb2.block _ (by omega)).trans k4
  clear hb2 hbw1
  gi_wp2_with fail
  have hlw1 : w.heap.size + 1 + 1 + 1 + 1 ≤ w1.heap.size := by omega
  refine range_split 44 all w1.heap.size (w1.heap.size + 1) (w1.heap.size + 1 + 1) (by omega) (by omega) (by omega) rfl rfl hit hg2 (by omega)
    (fun k => k = w.heap.size + 1 + 1 ∨ k = w.heap.size + 1 + 1 + 1) (by rintro k (rfl | rfl) <;> omega)
    (Seek w2 w1.heap.size (lgO key.data.toList)) (Hit w w2 (w.heap.size + 1 + 1) (w.heap.size + 1 + 1 + 1) (lgO key.data.toList))
    (seek_stays w2 _ _) (hit_stays w w2 _ _ _ _ (by omega) (by omega) (by omega) (by omega) (by omega) (by omega)) ⟨rfl, Stays.refl _ _ _⟩ ?a1 ?assign ?body ?done ?stop
  case assign =>
    intro l x W K hK
    gi_wp2
    exact hK
  case body =>
    rintro l pre x W ⟨hno, hst⟩ hgW hpre
    have hxl : x.length ≤ all.length := pieces_each 44 all.length all (Nat.le_refl _) x (hpre.subset (by simp))
    have hul := upto_len 59 x
    have htl := trim_len (upto 59 x)
    have hsz := hst.size
    obtain ⟨c2, _⟩ := box_cell ((hst.block _ (by omega) (by omega)).trans k2)
    have hW2 : w.heap.size + 1 < W.heap.size := by omega
    have Hno := Lib.hid hno
    clear hno
    have hts : (⟨(trim (upto 59 x)).toArray⟩ : ByteArray).size ≤ 140737488351232 := bsz _ _ (by omega)
    have hus : (⟨(upto 59 x).toArray⟩ : ByteArray).size ≤ 9223372036854775807 := bsz _ _ (by omega)
    have hks : key.size ≤ 140737488351232 := by omega
    have hns : (⟨x.toArray⟩ : ByteArray).size ≤ 100002000 := bsz _ _ (by omega)
    gi_wp2_with fail
    refine call_round ((lib_Cut1 ⟨x.toArray⟩ 59 _ hgW (bsz_lt _ _ (by omega))).mono ?_)
    rintro e w3 ⟨rfl, hb3⟩
    have hat : (⟨x.toArray⟩ : ByteArray).data.toList = x := rfl
    rw [hat]
    clear hat
    have hg3 := hgW.next hb3
    have hg3' := hg3.next (Below.drew (Below.refl _ _))
    have c3 : w3.cell? ⟨w.heap.size + 1, 0, none⟩ = some (.string key) := (hb3.cell (p := ⟨w.heap.size + 1, 0, none⟩) hW2).trans c2
    have hW3 : w.heap.size + 1 < w3.heap.size := Nat.lt_of_lt_of_le hW2 hb3.size
    have q3 := (hb3.block (w.heap.size + 1 + 1) (by omega)).trans ((hst.block _ (by omega) (by omega)).trans k3)
    have q4 := (hb3.block (w.heap.size + 1 + 1 + 1) (by omega)).trans ((hst.block _ (by omega) (by omega)).trans k4)
    have Q3 := Lib.hid q3
    have Q4 := Lib.hid q4
    have HB3 := Lib.hid hb3
    clear c2 q3 q4 hb3
    gi_wp2_with fail
    rcases hsm : same (trim (upto 59 x)) key.data.toList with _ | _
    · have Hs := Lib.hid (lgO_no1 hsm)
      gi_region_with (first
        | (refine call_round ((text_Trim ⟨(upto 59 x).toArray⟩ _ hus).mono ?_); rintro e w4 ⟨rfl, hb4⟩;
           have hat : (⟨(upto 59 x).toArray⟩ : ByteArray).data.toList = upto 59 x := rfl; rw [hat]; clear hat;
           have c4 := (bcell hb4).1 _ _ (by show w.heap.size + 1 < w3.drew.heap.size; exact hW3) |>.trans c3)
        | (refine call_round ((text_Same ⟨(trim (upto 59 x)).toArray⟩ key _ hts hks).mono ?_); rintro e w5 ⟨rfl, hb5⟩;
           have hat : (⟨(trim (upto 59 x)).toArray⟩ : ByteArray).data.toList = trim (upto 59 x) := rfl; rw [hat, hsm]; clear hat)
        | (refine ⟨trivial, ?_⟩))
      all_goals
        have hb6 : Below W.heap.size W w5 := HB3.out.trans ((below_ofdrew (hb4.trans (hb5.mono hb4.size))).mono HB3.out.size)
        gi_wp2
        exact seek_mk hst hb6 Hno.out Hs.out
    · rcases hz : (pieces 59 x).tail.any zero with _ | _
      · have Hs := Lib.hid (lgO_yes hsm hz)
        gi_region_with (first
          | (refine call_round ((text_Trim ⟨(upto 59 x).toArray⟩ _ hus).mono ?_); rintro e w4 ⟨rfl, hb4⟩;
             have hat : (⟨(upto 59 x).toArray⟩ : ByteArray).data.toList = upto 59 x := rfl; rw [hat]; clear hat;
             have c4 := (bcell hb4).1 _ _ (by show w.heap.size + 1 < w3.drew.heap.size; exact hW3) |>.trans c3)
          | (refine call_round ((text_Same ⟨(trim (upto 59 x)).toArray⟩ key _ hts hks).mono ?_); rintro e w5 ⟨rfl, hb5⟩;
             have hat : (⟨(trim (upto 59 x)).toArray⟩ : ByteArray).data.toList = trim (upto 59 x) := rfl; rw [hat, hsm]; clear hat)
          | (refine call_round ((vars_nought ⟨x.toArray⟩ _ ((hg3'.next hb4).next hb5) hns).mono ?_); rintro e w6 ⟨rfl, hb6⟩;
             have hat : (⟨x.toArray⟩ : ByteArray).data.toList = x := rfl; rw [hat, hz]; clear hat)
          | (refine ⟨trivial, ?_⟩))
        all_goals
          have hb7 : Below W.heap.size W w6 := HB3.out.trans ((below_ofdrew ((hb4.trans (hb5.mono hb4.size)).trans (hb6.mono (Nat.le_trans hb4.size hb5.size)))).mono HB3.out.size)
          obtain ⟨d3, f3⟩ := box_cell ((hb7.block (w.heap.size + 1 + 1) (by omega)).trans ((hst.block _ (by omega) (by omega)).trans k3))
          obtain ⟨d4, f4⟩ := box_cell ((hb7.block (w.heap.size + 1 + 1 + 1) (by omega)).trans ((hst.block _ (by omega) (by omega)).trans k4))
          gi_wp2
          exact hit_mk hbw2 hst hb7 (by omega) (by omega) (by omega) (by omega) ((hb7.block (w.heap.size + 1 + 1) (by omega)).trans ((hst.block _ (by omega) (by omega)).trans k3)) ((hb7.block (w.heap.size + 1 + 1 + 1) (by omega)).trans ((hst.block _ (by omega) (by omega)).trans k4)) Hno.out Hs.out
      · have Hs := Lib.hid (lgO_no2 (key := key.data.toList) hz)
        gi_region_with (first
          | (refine call_round ((text_Trim ⟨(upto 59 x).toArray⟩ _ hus).mono ?_); rintro e w4 ⟨rfl, hb4⟩;
             have hat : (⟨(upto 59 x).toArray⟩ : ByteArray).data.toList = upto 59 x := rfl; rw [hat]; clear hat;
             have c4 := (bcell hb4).1 _ _ (by show w.heap.size + 1 < w3.drew.heap.size; exact hW3) |>.trans c3)
          | (refine call_round ((text_Same ⟨(trim (upto 59 x)).toArray⟩ key _ hts hks).mono ?_); rintro e w5 ⟨rfl, hb5⟩;
             have hat : (⟨(trim (upto 59 x)).toArray⟩ : ByteArray).data.toList = trim (upto 59 x) := rfl; rw [hat, hsm]; clear hat)
          | (refine call_round ((vars_nought ⟨x.toArray⟩ _ ((hg3'.next hb4).next hb5) hns).mono ?_); rintro e w6 ⟨rfl, hb6⟩;
             have hat : (⟨x.toArray⟩ : ByteArray).data.toList = x := rfl; rw [hat, hz]; clear hat)
          | (refine ⟨trivial, ?_⟩))
        all_goals
          have hb7 : Below W.heap.size W w6 := HB3.out.trans ((below_ofdrew ((hb4.trans (hb5.mono hb4.size)).trans (hb6.mono (Nat.le_trans hb4.size hb5.size)))).mono HB3.out.size)
          gi_wp2
          exact seek_mk hst hb7 Hno.out Hs.out
  case done =>
    rintro D W hD ⟨hno, hst⟩ hK
    obtain ⟨c3, f3⟩ := box_cell ((hst.block _ (by omega) (by omega)).trans k3)
    obtain ⟨c4, f4⟩ := box_cell ((hst.block _ (by omega) (by omega)).trans k4)
    have HE := Lib.hid (ret2_mk (hst.below hbw2 (by omega) (by omega)) (by omega) (by omega) (by omega) (by omega) (by omega) ((hst.block _ (by omega) (by omega)).trans k3) ((hst.block _ (by omega) (by omega)).trans k4) hK ⟨#[]⟩ false)
    have Hno := Lib.hid hno
    clear hno hK hst
    gi_wp2
    obtain ⟨hb, hK', e4, e5⟩ := HE.out
    refine ⟨by simp, .inl ⟨_, _, rfl, run_takeDeferred hK', ?_⟩⟩
    refine ⟨.tuple #[.string ⟨#[]⟩, .bool false], ?_, ?_, hb⟩
    · simp [results, Tryz.f144, go_sem, e4, e5]
    · rw [HG.out, any_none Hno.out]; rfl
  case stop =>
    rintro D pre W hD hpre ⟨v, hv, hbel, hsz, q4, q5⟩ hK
    have HE := Lib.hid (ret2_mk0 (D := D) hbel (by omega) (by omega) q4 q5)
    have HK := Lib.hid hK
    have Hv := Lib.hid (findSome_pre hpre hv)
    clear hv hK hbel
    gi_wp2
    obtain ⟨hb, e4, e5⟩ := HE.out
    refine ⟨by simp, .inl ⟨_, _, rfl, run_takeDeferred HK.out, ?_⟩⟩
    refine ⟨.tuple #[.string ⟨v.toArray⟩, .bool true], ?_, ?_, hb⟩
    · simp [results, Tryz.f144, go_sem, e4, e5]
    · obtain ⟨h1, rfl⟩ := any_some Hv.out; rw [HG.out, h1]; rfl
end Go.Proofs.YtehdeclpighdeaaGreatDoor
