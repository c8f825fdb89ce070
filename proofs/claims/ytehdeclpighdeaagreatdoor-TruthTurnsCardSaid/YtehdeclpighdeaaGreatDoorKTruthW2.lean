/- The walk of ask: an expression's value, and how many uses were asked for it. -/
import Derived.Test.YtehdeclpighdeaaGreatDoorKTruthW1
namespace Go.Proofs.YtehdeclpighdeaaGreatDoor
open Go.RowKit
set_option linter.unusedVariables false
def valI (h t : Bs) (fs : List Fld) (u : UseI) : Bs × Bool := vval h t fs ⟨0, 0, u.name, u.key, u.dft, u.hk, u.hd⟩
theorem valI_yes {h t : Bs} {fs : List Fld} {u : Use} (h2 : (vget h t fs u.name u.key u.hk).2 = true) : vval h t fs u = vget h t fs u.name u.key u.hk := by unfold vval; rw [h2]; rfl
theorem valI_dft {h t : Bs} {fs : List Fld} {u : Use} (h2 : (vget h t fs u.name u.key u.hk).2 = false) (h3 : u.hd = true) : vval h t fs u = (u.dft, true) := by unfold vval; rw [h2, h3]; rfl
theorem valI_no {h t : Bs} {fs : List Fld} {u : Use} (h2 : (vget h t fs u.name u.key u.hk).2 = false) (h3 : u.hd = false) : vval h t fs u = ([], false) := by unfold vval; rw [h2, h3]; rfl
set_option maxRecDepth 100000 in
theorem sub_ValueI (u : UseI) (h t : ByteArray) (a : Option Addr) (n c : Nat) (fs : List Fld) (w : World) (hg : Good w) (hF : FieldsAt w (.slice a n c) fs) (hlim : Lim fs) (ht : t.size ≤ 100000) (hk : u.key.length ≤ 100000) :
    Calls Tryz.prog 81 #[useIV u, .agg #[.string h, .string t, .slice a n c]] w (Ret w (.tuple #[.string ⟨(valI h.data.toList t.data.toList fs u).1.toArray⟩, .bool (valI h.data.toList t.data.toList fs u).2])) := by
  obtain ⟨V, hV⟩ : ∃ V, valI h.data.toList t.data.toList fs u = V := ⟨_, rfl⟩
  have HVV := Lib.hid hV
  unfold valI at HVV
  have HT := Lib.hid (two_new w (.cells #[.int .i64 u.src, .int .i64 u.till, .string ⟨u.name.toArray⟩, .string ⟨u.key.toArray⟩, .string ⟨u.dft.toArray⟩, .bool u.hk, .bool u.hd] 24) (.cells #[.string h, .string t, .slice a n c] 59))
  have HG := Lib.hid hg
  have HF := Lib.hid hF
  rw [hV]
  clear hg hF hV
  go_enter Tryz.func81, Tryz.ntmps81
  go_wp2_with fail
  generalize (w.alloc (.cells #[.int .i64 u.src, .int .i64 u.till, .string ⟨u.name.toArray⟩, .string ⟨u.key.toArray⟩, .string ⟨u.dft.toArray⟩, .bool u.hk, .bool u.hd] 24)).alloc (.cells #[.string h, .string t, .slice a n c] 59) = W0 at *
  have hg0 := HG.out.next HT.out.below
  have hF0 := HF.out.below HT.out.below
  have HB0 := Lib.hid HT.out.below
  have HB1 := Lib.hid HT.out.b1
  clear HT HG HF
  refine (vars_Get h t ⟨u.name.toArray⟩ ⟨u.key.toArray⟩ a n c fs u.hk _ hg0 hF0 hlim ht (by simp [ByteArray.size]; omega)).mono ?_
  rintro e w1 ⟨rfl, hb1⟩
  have e1 : vget h.data.toList t.data.toList fs (⟨u.name.toArray⟩ : ByteArray).data.toList (⟨u.key.toArray⟩ : ByteArray).data.toList u.hk = vget h.data.toList t.data.toList fs u.name u.key u.hk := rfl
  rw [e1]
  clear e1 hg0 hF0
  have HN1 := Lib.hid ((hb1.block _ (Array.getElem?_eq_some_iff.1 HB1.out).1).trans HB1.out)
  obtain ⟨f0, f1, f2, f3, f4, f5, f6, c0, c1, c2, c3, c4, c5, c6⟩ := seven_live HN1.out
  have HB := Lib.hid (HB0.out.trans (hb1.mono HB0.out.size))
  clear hb1 HB0 HB1 c0 c1 c2 c3 c5 f0 f1 f2 f3 f4 f5 f6
  rcases h2 : (vget h.data.toList t.data.toList fs u.name u.key u.hk).2 with _ | _
  · have H2 := Lib.hid h2
    rcases h3 : u.hd with _ | _
    · have HV := Lib.hid (show V = ([], false) from HVV.out ▸ valI_no (u := ⟨0, 0, u.name, u.key, u.dft, u.hk, u.hd⟩) h2 h3)
      go_wp2
      go_ret2
      rw [HV.out]
      exact ⟨rfl, HB.out⟩
    · have HV := Lib.hid (show V = (u.dft, true) from HVV.out ▸ valI_dft (u := ⟨0, 0, u.name, u.key, u.dft, u.hk, u.hd⟩) h2 h3)
      go_wp2
      go_ret2
      rw [HV.out]
      exact ⟨rfl, HB.out⟩
  · have HV := Lib.hid (show V = vget h.data.toList t.data.toList fs u.name u.key u.hk from HVV.out ▸ valI_yes (u := ⟨0, 0, u.name, u.key, u.dft, u.hk, u.hd⟩) h2)
    have H2 := Lib.hid h2
    go_wp2
    go_ret2
    rw [HV.out, H2.out]
    exact ⟨rfl, HB.out⟩
mutual
def okE : Ex → Prop
  | .mk _ t u l => t.length ≤ 100000 ∧ u.name.length ≤ 100000 ∧ u.key.length ≤ 100000 ∧ u.dft.length ≤ 100000 ∧ okL l
def okL : List Ex → Prop
  | [] => True
  | x :: r => okE x ∧ okL r
end
mutual
def nodesE : Ex → Nat
  | .mk _ _ _ l => 1 + nodesL l
def nodesL : List Ex → Nat
  | [] => 0
  | x :: r => nodesE x + nodesL r
end
theorem ok_mem : ∀ {l : List Ex} {x : Ex}, okL l → x ∈ l → okE x
  | [], _, _, h => by cases h
  | y :: r, x, h, hx => by
    unfold okL at h
    rcases List.mem_cons.1 hx with e | hx
    · rw [e]; exact h.1
    · exact ok_mem h.2 hx
theorem ask_nodes (val : UseI → Bs × Bool) (x : Ex) : (askE val x).2 ≤ nodesE x := by
  refine Ex.ind (P := fun x => (askE val x).2 ≤ nodesE x) (fun k t u l ih => ?_) x
  rw [askE_mk, nodesE]
  unfold nodeV
  rw [askL_len]
  by_cases h1 : kidsN k ≠ (l.length : Int)
  · rw [if_pos h1]; exact Nat.zero_le _
  · rw [if_neg h1]
    by_cases h2 : k = 10 ∨ k = 11
    · rw [if_pos h2]; exact Nat.zero_le _
    · rw [if_neg h2]
      by_cases h3 : k = 12
      · rw [if_pos h3]; show 1 ≤ _; omega
      · rw [if_neg h3]
        match l with
        | [] => rw [askL]; exact Nat.zero_le _
        | a :: r =>
          have ha := ih a (by simp)
          rw [askL, nodesL]
          show (if k = 3 then ((.yes (!soB (askE val a).1), (askE val a).2) : TV × Nat) else if k = 1 ∧ soB (askE val a).1 = true then (.yes true, (askE val a).2) else if k = 2 ∧ soB (askE val a).1 = false then (.yes false, (askE val a).2) else match askL val r with
            | [] => (.none, 0)
            | B :: _ => if k = 1 ∨ k = 2 then (.yes (soB B.1), (askE val a).2 + B.2) else (.yes (comparesB k (askE val a).1 B.1), (askE val a).2 + B.2)).2 ≤ _
          split
          · show (askE val a).2 ≤ _; omega
          · split
            · show (askE val a).2 ≤ _; omega
            · split
              · show (askE val a).2 ≤ _; omega
              · match r with
                | [] => rw [askL]; exact Nat.zero_le _
                | b :: r2 =>
                  have hb := ih b (by simp)
                  rw [askL, nodesL]
                  show (if k = 1 ∨ k = 2 then ((.yes (soB (askE val b).1), (askE val a).2 + (askE val b).2) : TV × Nat) else (.yes (comparesB k (askE val a).1 (askE val b).1), (askE val a).2 + (askE val b).2)).2 ≤ _
                  split
                  · show (askE val a).2 + (askE val b).2 ≤ _; omega
                  · show (askE val a).2 + (askE val b).2 ≤ _; omega
theorem ask_small {h t : Bs} {fs : List Fld} (hlim : Lim fs) (hh : h.length ≤ 100002000) (ht : t.length ≤ 100000) (x : Ex) : okE x → SmallV (askE (valI h t fs) x).1 := by
  refine Ex.ind (P := fun x => okE x → SmallV (askE (valI h t fs) x).1) (fun k tt u l ih ho => ?_) x
  unfold okE at ho
  rw [askE_mk]
  unfold nodeV
  split
  · trivial
  · split
    · show tt.length ≤ _; omega
    · split
      · show SmallV (bif (valI h t fs u).2 then TV.txt (valI h t fs u).1 else TV.none)
        cases (valI h t fs u).2
        · trivial
        · show (valI h t fs u).1.length ≤ _
          have := vval_len (h := h) (t := t) (fs := fs) ⟨0, 0, u.name, u.key, u.dft, u.hk, u.hd⟩ hlim hh ht (by show u.dft.length ≤ _; omega)
          show (vval h t fs ⟨0, 0, u.name, u.key, u.dft, u.hk, u.hd⟩).1.length ≤ _
          omega
      · split
        · trivial
        · split
          · trivial
          · split
            · trivial
            · split
              · trivial
              · split
                · trivial
                · split <;> trivial
structure AK (w0 W : World) (b : Nat) (h t : ByteArray) (a : Option Addr) (n c : Nat) (m : Nat) (av : Value) (xs : List Value) : Prop where
  up : Below w0.heap.size w0 W
  box : W.heap[b]? = some (.cells #[.string h, .string t, .slice a n c, av] 107)
  own : W.ownsRow w0.heap.size 24 7 av m xs
  far : w0.heap.size ≤ b
  ne : some b ≠ av.ownBlock
structure AStep (W w' : World) (b : Nat) (av av' : Value) : Prop where
  size : W.heap.size ≤ w'.heap.size
  block : ∀ k, k < W.heap.size → k ≠ b → some k ≠ av.ownBlock → w'.heap[k]? = W.heap[k]?
  own : av'.ownBlock = av.ownBlock ∨ ∃ g, av'.ownBlock = some g ∧ W.heap.size ≤ g
theorem AK.next {w0 W W' : World} {b : Nat} {h t : ByteArray} {a : Option Addr} {n c m : Nat} {av : Value} {xs : List Value} (H : AK w0 W b h t a n c m av xs) (hb : Below W.heap.size W W') : AK w0 W' b h t a n c m av xs :=
  ⟨H.up.trans (hb.mono H.up.size), (hb.block _ (Array.getElem?_eq_some_iff.1 H.box).1).trans H.box, own_below H.own hb, H.far, H.ne⟩
theorem AStep.refl (W : World) (b : Nat) (av : Value) : AStep W W b av av := ⟨Nat.le_refl _, fun _ _ _ _ => rfl, .inl rfl⟩
theorem AStep.next {W W1 W2 : World} {b : Nat} {av av' : Value} (H : AStep W W1 b av av') (hb : Below W1.heap.size W1 W2) : AStep W W2 b av av' :=
  ⟨Nat.le_trans H.size hb.size, fun k h1 h2 h3 => (hb.block k (Nat.lt_of_lt_of_le h1 H.size)).trans (H.block k h1 h2 h3), H.own⟩
theorem AStep.trans {W W1 W2 : World} {b : Nat} {av av1 av2 : Value} (H : AStep W W1 b av av1) (H2 : AStep W1 W2 b av1 av2) : AStep W W2 b av av2 := by
  refine ⟨Nat.le_trans H.size H2.size, fun k h1 h2 h3 => ?_, ?_⟩
  · refine (H2.block k (Nat.lt_of_lt_of_le h1 H.size) h2 ?_).trans (H.block k h1 h2 h3)
    rcases H.own with e | ⟨g, e, hg⟩
    · rw [e]; exact h3
    · rw [e]; intro e2; cases e2; omega
  · rcases H2.own with e | ⟨g, e, hg⟩
    · rw [e]; exact H.own
    · exact .inr ⟨g, e, Nat.le_trans H.size hg⟩
theorem AStep.row {w0 W W1 w' : World} {b bx : Nat} {h t : ByteArray} {a : Option Addr} {n c m : Nat} {av av' : Value} {xs : List Value} {o : Obj} (hK : AK w0 W b h t a n c m av xs) (hbx : W.heap.size ≤ bx) (hr : W1.heap[bx]? = some o) (H : AStep W1 w' b av av') : w'.heap[bx]? = some o := by
  have h1 := (Array.getElem?_eq_some_iff.1 hK.box).1
  refine (H.block bx (Array.getElem?_eq_some_iff.1 hr).1 (by omega) ?_).trans hr
  intro e
  have := (hK.own.lt bx e.symm).2
  omega
theorem row_ne {w0 W W1 w' : World} {b bx : Nat} {h t : ByteArray} {a : Option Addr} {n c m : Nat} {av av' : Value} {xs : List Value} {o : Obj} (hK : AK w0 W b h t a n c m av xs) (hr : W1.heap[bx]? = some o) (H : AStep W1 w' b av av') (hbx : W.heap.size ≤ bx := by exact Nat.le_refl _) : some bx ≠ av'.ownBlock := by
  have h1 := (Array.getElem?_eq_some_iff.1 hr).1
  intro e
  rcases H.own with e2 | ⟨g, e2, hg⟩
  · rw [e2] at e
    have := (hK.own.lt bx e.symm).2
    omega
  · rw [e2] at e; cases e; omega
theorem ak_push {w0 W W2 : World} {b g cap : Nat} {h t : ByteArray} {a : Option Addr} {n c m : Nat} {av : Value} {xs us : List Value} {O : Obj} (H : AK w0 W b h t a n c m av xs)
    (ho : W2.ownsRow w0.heap.size 24 7 (.slice (some ⟨g, 0, none⟩) (m + 1) cap) (m + 1) (xs ++ us)) (hg : (W.alloc O).grownBy W2 av.ownBlock) (hn : some g = av.ownBlock ∨ W.heap.size + 1 ≤ g) :
    AK w0 (W2.setCell ⟨b, 3, none⟩ (.slice (some ⟨g, 0, none⟩) (m + 1) cap)) b h t a n c (m + 1) (.slice (some ⟨g, 0, none⟩) (m + 1) cap) (xs ++ us) ∧ AStep W (W2.setCell ⟨b, 3, none⟩ (.slice (some ⟨g, 0, none⟩) (m + 1) cap)) b av (.slice (some ⟨g, 0, none⟩) (m + 1) cap) ∧ W2.heap[b]? = some (.cells #[.string h, .string t, .slice a n c, av] 107) := by
  have hA : Below W.heap.size W (W.alloc O) := (Below.refl _ _).alloc (Nat.le_refl _) _
  have hbl := (Array.getElem?_eq_some_iff.1 H.box).1
  have hs2 := hA.size
  have hs3 := hg.size
  have h5 : W2.heap[b]? = some (.cells #[.string h, .string t, .slice a n c, av] 107) := ((hg.block b (by omega) H.ne).trans (hA.block b hbl)).trans H.box
  have ht : Turn b W2 (W2.setCell ⟨b, 3, none⟩ (.slice (some ⟨g, 0, none⟩) (m + 1) cap)) := (Turn.refl _ _).set
  have hs4 := ht.size
  have hol : ∀ q, av.ownBlock = some q → w0.heap.size ≤ q ∧ q < W.heap.size := fun q hq => H.own.lt q hq
  have hgb : g ≠ b := by
    rcases hn with e | e
    · intro e2; subst e2; exact H.ne e
    · omega
  have hup := ((H.up.trans (hA.mono H.up.size))).grown hg (by have := H.up.size; omega) (fun q hq => (hol q hq).1)
  refine ⟨⟨hup.trans (ht.below H.far (by have := hup.size; omega)), row_set (j := 3) h5, ho.kept ht (.inr ?_), H.far, ?_⟩, ⟨by omega, fun k h1 h2 h3 => ?_, ?_⟩, h5⟩
  · intro e
    simp [Value.ownBlock] at e
    exact hgb e
  · intro e
    simp [Value.ownBlock] at e
    exact hgb e.symm
  · exact (ht.block k (by omega) (by intro e; cases e; exact h2 rfl)).trans ((hg.block k (by omega) h3).trans (hA.block k h1))
  · rcases hn with e | e
    · exact .inl (by simpa [Value.ownBlock] using e)
    · exact .inr ⟨g, rfl, by omega⟩
def RetAsk (w0 W : World) (b : Nat) (h t : ByteArray) (a : Option Addr) (n c m : Nat) (av : Value) (r : TV × Nat) : Ending → World → Prop := fun e w' => ∃ av' xs', e = .returned (tvV r.1) ∧ Hid (AK w0 w' b h t a n c (m + r.2) av' xs' ∧ AStep W w' b av av')
def AskOk (w0 : World) (b : Nat) (h t : ByteArray) (a : Option Addr) (n c : Nat) (val : UseI → Bs × Bool) (y : Ex) : Prop :=
  ∀ (v : Value) (W : World) (m : Nat) (av : Value) (xs : List Value), ExAt (fun _ => True) w0 y v → AK w0 W b h t a n c m av xs → m + nodesE y ≤ 1000000000 → Calls Tryz.prog 58 #[.pointer (some ⟨b, 0, none⟩), v] W (RetAsk w0 W b h t a n c m av (askE val y))
theorem uinfo : (Tryz.prog.info? 24).map (fun i => (i.zero, i.size, i.bytes)) = some (some (.agg #[.int .i64 0, .int .i64 0, .string ⟨#[]⟩, .string ⟨#[]⟩, .string ⟨#[]⟩, .bool false, .bool false]), 7, 72) := by kernel_rfl
theorem uslice : Tryz.prog.underlying 65 = some (.slice 24) := by kernel_rfl
set_option maxRecDepth 100000 in
set_option maxHeartbeats 8000000 in
theorem ask_no (k : Int) (l : List Ex) (w0 : World) (hG : Good w0) (b : Nat) (h tt : ByteArray) (a : Option Addr) (n c : Nat) (val : UseI → Bs × Bool) (t : Bs) (u : UseI) (ka : Option Addr) (kc : Nat) (W : World) (m : Nat) (av : Value) (xs : List Value) (hK : AK w0 W b h tt a n c m av xs) (hne : kidsN k ≠ (l.length : Int)) :
    Calls Tryz.prog 58 #[.pointer (some ⟨b, 0, none⟩), exV k t u (.slice ka l.length kc)] W (RetAsk w0 W b h tt a n c m av (askE val (.mk k t u l))) := by
  have hA : Below W.heap.size W (W.alloc (.cells (exL k t u (.slice ka l.length kc)).toArray 27)) := (Below.refl _ _).alloc (Nat.le_refl _) _
  have HK0 := Lib.hid hK
  have HB := Lib.hid hA
  have HN := Lib.hid (heap_alloc_new W (.cells (exL k t u (.slice ka l.length kc)).toArray 27))
  have HE := Lib.hid (show askE val (.mk k t u l) = (.none, 0) by
    rw [askE_mk]; unfold nodeV; rw [askL_len, if_pos hne])
  obtain ⟨q, hq⟩ : ∃ q, kidsN k = q := ⟨_, rfl⟩
  rw [hq] at hne
  have hnb : ((l.length : Int) != q) = true := by rw [bne, beq_eq_false_iff_ne.2 (Ne.symm hne)]; rfl
  have HKN := Lib.hid (fun (w : World) => hq ▸ tr_kids k w)
  clear hne hq
  clear hK hA
  go_enter Tryz.func58, Tryz.ntmps58
  go_upto_region 1 with fail
  generalize W.alloc (.cells (exL k t u (.slice ka l.length kc)).toArray 27) = W1 at *
  have p0 : ∀ B : BW W1, B.val.cell? ⟨W.heap.size, 0, none⟩ = _ := fun B => cell_of_row _ _ 0 _ _ _ ((B.below.block _ (Array.getElem?_eq_some_iff.1 HN.out).1).trans HN.out)
  have p9 : ∀ B : BW W1, B.val.cell? ⟨W.heap.size, 9, none⟩ = _ := fun B => cell_of_row _ _ 9 _ _ _ ((B.below.block _ (Array.getElem?_eq_some_iff.1 HN.out).1).trans HN.out)
  haveI : Nonempty (BW W1) := ⟨⟨W1, Below.refl _ _⟩⟩
  refine wp_region_last_lit 6 (fun B : BW W1 => B.val) ⟨W1.drew, below_drewn (Below.refl _ _)⟩ rfl (by kernel_rfl) (by rfl) (by rfl) (by kernel_rfl) (by kernel_rfl) (by kernel_rfl) ?_
  simp only [List.take_succ_cons, List.take_zero]
  repeat (quiet_step ((go_at_call 80; refine (HKN.out _).mono ?_; rintro e v1 ⟨rfl, hb1⟩; exact ⟨rfl, ⟨v1, BW.next _ hb1⟩, rfl⟩)))
  refine wpQuiet_nil ?_
  rintro w' ⟨B, rfl⟩
  rw [if_pos (by rfl)]
  have HBE := Lib.hid (HB.out.trans (B.below.mono HB.out.size))
  have HX := Lib.hid ((B.below.block _ (Array.getElem?_eq_some_iff.1 HN.out).1).trans HN.out)
  have HK := Lib.hid (HK0.out.next HBE.out)
  have HS := Lib.hid ((AStep.refl W b av).next HBE.out)
  clear p0 p9
  go_simp
  generalize B.val = W2 at *
  obtain ⟨p0, p1, p2, p3, p4, p5, p6, p7, p8, p9⟩ := ten_cells HX.out
  clear p0 p1 p2 p3 p4 p5 p6 p7 p8 p9
  go_wp2_with fail
  go_ret
  exact ⟨av, xs, (by rw [HE.out]; rfl), Lib.hid ⟨by rw [HE.out]; exact HK.out, HS.out⟩⟩
set_option maxRecDepth 100000 in
set_option maxHeartbeats 8000000 in
theorem ask_10 (w0 : World) (hG : Good w0) (b : Nat) (h tt : ByteArray) (a : Option Addr) (n c : Nat) (val : UseI → Bs × Bool) (t : Bs) (u : UseI) (ka : Option Addr) (kc : Nat) (W : World) (m : Nat) (av : Value) (xs : List Value) (hK : AK w0 W b h tt a n c m av xs) :
    Calls Tryz.prog 58 #[.pointer (some ⟨b, 0, none⟩), exV 10 t u (.slice ka 0 kc)] W (RetAsk w0 W b h tt a n c m av (askE val (.mk 10 t u []))) := by
  have hA : Below W.heap.size W (W.alloc (.cells (exL 10 t u (.slice ka 0 kc)).toArray 27)) := (Below.refl _ _).alloc (Nat.le_refl _) _
  have HK0 := Lib.hid hK
  have HB := Lib.hid hA
  have HN := Lib.hid (heap_alloc_new W (.cells (exL 10 t u (.slice ka 0 kc)).toArray 27))
  have HE := Lib.hid (show askE val (.mk 10 t u []) = (.txt t, 0) by rw [askE_mk]; rfl)
  have HKN := Lib.hid (fun (w : World) => (show Calls Tryz.prog 80 #[.int .i64 10] w (Ret w (.int .i64 0)) by
    have := tr_kids 10 w
    rw [show kidsN 10 = 0 from rfl] at this
    exact this))
  clear hK hA
  go_enter Tryz.func58, Tryz.ntmps58
  go_upto_region 1 with fail
  generalize W.alloc (.cells (exL 10 t u (.slice ka 0 kc)).toArray 27) = W1 at *
  have p0 : ∀ B : BW W1, B.val.cell? ⟨W.heap.size, 0, none⟩ = _ := fun B => cell_of_row _ _ 0 _ _ _ ((B.below.block _ (Array.getElem?_eq_some_iff.1 HN.out).1).trans HN.out)
  have p9 : ∀ B : BW W1, B.val.cell? ⟨W.heap.size, 9, none⟩ = _ := fun B => cell_of_row _ _ 9 _ _ _ ((B.below.block _ (Array.getElem?_eq_some_iff.1 HN.out).1).trans HN.out)
  haveI : Nonempty (BW W1) := ⟨⟨W1, Below.refl _ _⟩⟩
  refine wp_region_last_lit 6 (fun B : BW W1 => B.val) ⟨W1.drew, below_drewn (Below.refl _ _)⟩ rfl (by kernel_rfl) (by rfl) (by rfl) (by kernel_rfl) (by kernel_rfl) (by kernel_rfl) ?_
  simp only [List.take_succ_cons, List.take_zero]
  repeat (quiet_step ((go_at_call 80; refine (HKN.out _).mono ?_; rintro e v1 ⟨rfl, hb1⟩; exact ⟨rfl, ⟨v1, BW.next _ hb1⟩, rfl⟩)))
  refine wpQuiet_nil ?_
  rintro w' ⟨B, rfl⟩
  rw [if_pos (by rfl)]
  have HBE := Lib.hid (HB.out.trans (B.below.mono HB.out.size))
  have HX := Lib.hid ((B.below.block _ (Array.getElem?_eq_some_iff.1 HN.out).1).trans HN.out)
  have HK := Lib.hid (HK0.out.next HBE.out)
  have HS := Lib.hid ((AStep.refl W b av).next HBE.out)
  clear p0 p9
  go_simp
  generalize B.val = W2 at *
  obtain ⟨p0, p1, p2, p3, p4, p5, p6, p7, p8, p9⟩ := ten_cells HX.out
  go_wp2_with fail
  go_ret
  exact ⟨av, xs, (by rw [HE.out]; rfl), Lib.hid ⟨by rw [HE.out]; exact HK.out, HS.out⟩⟩
set_option maxRecDepth 100000 in
set_option maxHeartbeats 8000000 in
theorem ask_11 (w0 : World) (hG : Good w0) (b : Nat) (h tt : ByteArray) (a : Option Addr) (n c : Nat) (val : UseI → Bs × Bool) (t : Bs) (u : UseI) (ka : Option Addr) (kc : Nat) (W : World) (m : Nat) (av : Value) (xs : List Value) (hK : AK w0 W b h tt a n c m av xs) :
    Calls Tryz.prog 58 #[.pointer (some ⟨b, 0, none⟩), exV 11 t u (.slice ka 0 kc)] W (RetAsk w0 W b h tt a n c m av (askE val (.mk 11 t u []))) := by
  have hA : Below W.heap.size W (W.alloc (.cells (exL 11 t u (.slice ka 0 kc)).toArray 27)) := (Below.refl _ _).alloc (Nat.le_refl _) _
  have HK0 := Lib.hid hK
  have HB := Lib.hid hA
  have HN := Lib.hid (heap_alloc_new W (.cells (exL 11 t u (.slice ka 0 kc)).toArray 27))
  have HE := Lib.hid (show askE val (.mk 11 t u []) = (.txt t, 0) by rw [askE_mk]; rfl)
  have HKN := Lib.hid (fun (w : World) => (show Calls Tryz.prog 80 #[.int .i64 11] w (Ret w (.int .i64 0)) by
    have := tr_kids 11 w
    rw [show kidsN 11 = 0 from rfl] at this
    exact this))
  clear hK hA
  go_enter Tryz.func58, Tryz.ntmps58
  go_upto_region 1 with fail
  generalize W.alloc (.cells (exL 11 t u (.slice ka 0 kc)).toArray 27) = W1 at *
  have p0 : ∀ B : BW W1, B.val.cell? ⟨W.heap.size, 0, none⟩ = _ := fun B => cell_of_row _ _ 0 _ _ _ ((B.below.block _ (Array.getElem?_eq_some_iff.1 HN.out).1).trans HN.out)
  have p9 : ∀ B : BW W1, B.val.cell? ⟨W.heap.size, 9, none⟩ = _ := fun B => cell_of_row _ _ 9 _ _ _ ((B.below.block _ (Array.getElem?_eq_some_iff.1 HN.out).1).trans HN.out)
  haveI : Nonempty (BW W1) := ⟨⟨W1, Below.refl _ _⟩⟩
  refine wp_region_last_lit 6 (fun B : BW W1 => B.val) ⟨W1.drew, below_drewn (Below.refl _ _)⟩ rfl (by kernel_rfl) (by rfl) (by rfl) (by kernel_rfl) (by kernel_rfl) (by kernel_rfl) ?_
  simp only [List.take_succ_cons, List.take_zero]
  repeat (quiet_step ((go_at_call 80; refine (HKN.out _).mono ?_; rintro e v1 ⟨rfl, hb1⟩; exact ⟨rfl, ⟨v1, BW.next _ hb1⟩, rfl⟩)))
  refine wpQuiet_nil ?_
  rintro w' ⟨B, rfl⟩
  rw [if_pos (by rfl)]
  have HBE := Lib.hid (HB.out.trans (B.below.mono HB.out.size))
  have HX := Lib.hid ((B.below.block _ (Array.getElem?_eq_some_iff.1 HN.out).1).trans HN.out)
  have HK := Lib.hid (HK0.out.next HBE.out)
  have HS := Lib.hid ((AStep.refl W b av).next HBE.out)
  clear p0 p9
  go_simp
  generalize B.val = W2 at *
  obtain ⟨p0, p1, p2, p3, p4, p5, p6, p7, p8, p9⟩ := ten_cells HX.out
  go_wp2_with fail
  go_ret
  exact ⟨av, xs, (by rw [HE.out]; rfl), Lib.hid ⟨by rw [HE.out]; exact HK.out, HS.out⟩⟩
set_option maxRecDepth 100000 in
set_option maxHeartbeats 8000000 in
theorem ask_12 (fs : List Fld) (w0 : World) (hG : Good w0) (b : Nat) (h tt : ByteArray) (a : Option Addr) (n c : Nat) (val : UseI → Bs × Bool) (t : Bs) (u : UseI) (ka : Option Addr) (kc : Nat) (W : World) (m : Nat) (av : Value) (xs : List Value) (hK : AK w0 W b h tt a n c m av xs) (hF : FieldsAt w0 (.slice a n c) fs) (hlim : Lim fs) (ht : tt.size ≤ 100000) (hkl : u.key.length ≤ 100000) (hm : m ≤ 1000000000) (hval : val = valI h.data.toList tt.data.toList fs) :
    Calls Tryz.prog 58 #[.pointer (some ⟨b, 0, none⟩), exV 12 t u (.slice ka 0 kc)] W (RetAsk w0 W b h tt a n c m av (askE val (.mk 12 t u []))) := by
  have hA : Below W.heap.size W (W.alloc (.cells (exL 12 t u (.slice ka 0 kc)).toArray 27)) := (Below.refl _ _).alloc (Nat.le_refl _) _
  have HK0 := Lib.hid hK
  have HB := Lib.hid hA
  have HN := Lib.hid (heap_alloc_new W (.cells (exL 12 t u (.slice ka 0 kc)).toArray 27))
  have HE := Lib.hid (show askE val (.mk 12 t u []) = (bif (val u).2 then .txt (val u).1 else .none, 1) by rw [askE_mk]; rfl)
  have HV := Lib.hid (fun (w : World) (hw : Below w0.heap.size w0 w) => sub_ValueI u h tt a n c fs w (hG.next hw) (hF.below hw) hlim ht hkl)
  have HM := Lib.hid hm
  rw [← hval] at HV
  obtain ⟨V, q, hV⟩ : ∃ V q, val u = (V, q) := ⟨(val u).1, (val u).2, rfl⟩
  rw [hV] at HV HE
  clear hF hlim ht hkl hval hV hm
  have HKN := Lib.hid (fun (w : World) => (show Calls Tryz.prog 80 #[.int .i64 12] w (Ret w (.int .i64 0)) by
    have := tr_kids 12 w
    rw [show kidsN 12 = 0 from rfl] at this
    exact this))
  clear hK hA
  go_enter Tryz.func58, Tryz.ntmps58
  go_upto_region 1 with fail
  generalize W.alloc (.cells (exL 12 t u (.slice ka 0 kc)).toArray 27) = W1 at *
  have p0 : ∀ B : BW W1, B.val.cell? ⟨W.heap.size, 0, none⟩ = _ := fun B => cell_of_row _ _ 0 _ _ _ ((B.below.block _ (Array.getElem?_eq_some_iff.1 HN.out).1).trans HN.out)
  have p9 : ∀ B : BW W1, B.val.cell? ⟨W.heap.size, 9, none⟩ = _ := fun B => cell_of_row _ _ 9 _ _ _ ((B.below.block _ (Array.getElem?_eq_some_iff.1 HN.out).1).trans HN.out)
  haveI : Nonempty (BW W1) := ⟨⟨W1, Below.refl _ _⟩⟩
  refine wp_region_last_lit 6 (fun B : BW W1 => B.val) ⟨W1.drew, below_drewn (Below.refl _ _)⟩ rfl (by kernel_rfl) (by rfl) (by rfl) (by kernel_rfl) (by kernel_rfl) (by kernel_rfl) ?_
  simp only [List.take_succ_cons, List.take_zero]
  repeat (quiet_step ((go_at_call 80; refine (HKN.out _).mono ?_; rintro e v1 ⟨rfl, hb1⟩; exact ⟨rfl, ⟨v1, BW.next _ hb1⟩, rfl⟩)))
  refine wpQuiet_nil ?_
  rintro w' ⟨B, rfl⟩
  rw [if_pos (by rfl)]
  have HBE := Lib.hid (HB.out.trans (B.below.mono HB.out.size))
  have HX := Lib.hid ((B.below.block _ (Array.getElem?_eq_some_iff.1 HN.out).1).trans HN.out)
  have HK := Lib.hid (HK0.out.next HBE.out)
  have HS := Lib.hid ((AStep.refl W b av).next HBE.out)
  clear p0 p9
  go_simp
  generalize B.val = W2 at *
  obtain ⟨p0, p1, p2, p3, p4, p5, p6, p7, p8, p9⟩ := ten_cells HX.out
  go_upto_region 8 with fail
  have HD := Lib.hid (HK.out.next (below_drewn (Below.refl _ _)))
  have HSD := Lib.hid (HS.out.next (below_drewn (Below.refl _ _)))
  have HXD := Lib.hid (show W2.drew.heap[W.heap.size]? = _ from HX.out)
  obtain ⟨x0, x1, x2, x3, x4, x5, x6, x7, x8, x9⟩ := ten_cells HXD.out
  have b3 : W2.cell? ⟨b, 3, none⟩ = some av := cell_of_row _ _ 3 _ _ _ HK.out.box
  have b3' : ∀ O, (W2.alloc O).cell? ⟨b, 3, none⟩ = some av := fun O => cell_alloc9 b3 O
  clear p0 p1 p2 p3 p4 p5 p6 p7 p8 p9
  go_region_law
    (refine step_appN (by rfl) _ _ 65 (by rfl) 24 (.agg #[.int .i64 0, .int .i64 0, .string ⟨#[]⟩, .string ⟨#[]⟩, .string ⟨#[]⟩, .bool false, .bool false]) 7 72 uslice uinfo (by rfl) (by decide) w0.heap.size W2.drew av m xs (by rfl) HD.out.own [.int .i64 u.src, .int .i64 u.till, .string ⟨u.name.toArray⟩, .string ⟨u.key.toArray⟩, .string ⟨u.dft.toArray⟩, .bool u.hk, .bool u.hd] (by rfl) (by rfl) (by rfl) (by simp [Value.oneCell']) (by have := HM.out; omega) (by have := HM.out; omega) (by exact HD.out.up.size) ?_; intro g cap w5 hown5 hg5 hn5; have hpush := ak_push HD.out hown5 hg5 hn5; have HP := Lib.hid hpush.1; have HSP := Lib.hid (HSD.out.trans hpush.2.1); have HXP := Lib.hid (AStep.row HK0.out (Nat.le_refl _) HXD.out hpush.2.1); have hbx5 := hpush.2.2; have g3 := cell_of_row _ _ 3 _ _ _ hbx5; have f3 := frozen_of_row _ _ 3 _ _ hbx5; clear hpush hown5 hg5 hn5 hbx5)
  all_goals
    clear x0 x1 x2 x3 x4 x5 x6 x7 x8 x9 b3 b3' g3 f3
    generalize w5.setCell ⟨b, 3, none⟩ (.slice (some ⟨g, 0, none⟩) (m + 1) cap) = W3 at *
    have q2 : ∀ B : BW W3, B.val.cell? ⟨W.heap.size, 2, none⟩ = _ := fun B => cell_of_row _ _ 2 _ _ _ ((B.below.block _ (Array.getElem?_eq_some_iff.1 HXP.out).1).trans HXP.out)
    have q3 : ∀ B : BW W3, B.val.cell? ⟨W.heap.size, 3, none⟩ = _ := fun B => cell_of_row _ _ 3 _ _ _ ((B.below.block _ (Array.getElem?_eq_some_iff.1 HXP.out).1).trans HXP.out)
    have q4 : ∀ B : BW W3, B.val.cell? ⟨W.heap.size, 4, none⟩ = _ := fun B => cell_of_row _ _ 4 _ _ _ ((B.below.block _ (Array.getElem?_eq_some_iff.1 HXP.out).1).trans HXP.out)
    have q5 : ∀ B : BW W3, B.val.cell? ⟨W.heap.size, 5, none⟩ = _ := fun B => cell_of_row _ _ 5 _ _ _ ((B.below.block _ (Array.getElem?_eq_some_iff.1 HXP.out).1).trans HXP.out)
    have q6 : ∀ B : BW W3, B.val.cell? ⟨W.heap.size, 6, none⟩ = _ := fun B => cell_of_row _ _ 6 _ _ _ ((B.below.block _ (Array.getElem?_eq_some_iff.1 HXP.out).1).trans HXP.out)
    have q7 : ∀ B : BW W3, B.val.cell? ⟨W.heap.size, 7, none⟩ = _ := fun B => cell_of_row _ _ 7 _ _ _ ((B.below.block _ (Array.getElem?_eq_some_iff.1 HXP.out).1).trans HXP.out)
    have q8 : ∀ B : BW W3, B.val.cell? ⟨W.heap.size, 8, none⟩ = _ := fun B => cell_of_row _ _ 8 _ _ _ ((B.below.block _ (Array.getElem?_eq_some_iff.1 HXP.out).1).trans HXP.out)
    have b0 : ∀ B : BW W3, B.val.cell? ⟨b, 0, none⟩ = _ := fun B => cell_of_row _ _ 0 _ _ _ (HP.out.next B.below).box
    have b1 : ∀ B : BW W3, B.val.cell? ⟨b, 1, none⟩ = _ := fun B => cell_of_row _ _ 1 _ _ _ (HP.out.next B.below).box
    have b2 : ∀ B : BW W3, B.val.cell? ⟨b, 2, none⟩ = _ := fun B => cell_of_row _ _ 2 _ _ _ (HP.out.next B.below).box
    haveI : Nonempty (BW W3) := ⟨⟨W3, Below.refl _ _⟩⟩
    go_upto_region 9 with fail
    refine wp_region_last_lit 11 (fun B : BW W3 => B.val) ⟨W3.drew, below_drewn (Below.refl _ _)⟩ rfl (by kernel_rfl) (by rfl) (by rfl) (by kernel_rfl) (by kernel_rfl) (by kernel_rfl) ?_
    simp only [List.take_succ_cons, List.take_zero]
    repeat (quiet_step ((go_at_call 81; refine (HV.out _ (HP.out.next (BW.below _)).up).mono ?_; rintro e v1 ⟨rfl, hb1⟩; exact ⟨rfl, ⟨v1, BW.next _ hb1⟩, rfl⟩)))
    refine wpQuiet_nil ?_
    rintro w' ⟨B3, rfl⟩
    rw [if_pos (by rfl)]
    have HKE := Lib.hid (HP.out.next B3.below)
    have HSE := Lib.hid (HSP.out.next B3.below)
    clear q2 q3 q4 q5 q6 q7 q8 b0 b1 b2
    go_simp
    cases q
    all_goals
      go_wp2_with fail
      go_ret
      exact ⟨_, _, by rw [HE.out]; rfl, Lib.hid ⟨by rw [HE.out]; exact HKE.out, HSE.out⟩⟩
set_option maxRecDepth 100000 in
set_option maxHeartbeats 8000000 in
theorem ask_3 (ya : Ex) (w0 : World) (hG : Good w0) (b : Nat) (h tt : ByteArray) (a : Option Addr) (n c : Nat) (val : UseI → Bs × Bool) (t : Bs) (u : UseI) (kb ko : Nat) (kc : Nat) (W : World) (m : Nat) (av : Value) (xs : List Value) (hK : AK w0 W b h tt a n c m av xs) (hbl : kb < w0.heap.size) (hrow : RowAt (fun _ => True) w0 [ya] kb ko) (hTa : AskOk w0 b h tt a n c val ya) (hno : m + (1 + nodesE ya) ≤ 1000000000) :
    Calls Tryz.prog 58 #[.pointer (some ⟨b, 0, none⟩), exV 3 t u (.slice (some ⟨kb, ko, none⟩) 1 kc)] W (RetAsk w0 W b h tt a n c m av (askE val (.mk 3 t u [ya]))) := by
  have hA : Below W.heap.size W (W.alloc (.cells (exL 3 t u (.slice (some ⟨kb, ko, none⟩) 1 kc)).toArray 27)) := (Below.refl _ _).alloc (Nat.le_refl _) _
  have HK0 := Lib.hid hK
  have HB := Lib.hid hA
  have HN := Lib.hid (heap_alloc_new W (.cells (exL 3 t u (.slice (some ⟨kb, ko, none⟩) 1 kc)).toArray 27))
  have HE := Lib.hid (show askE val (.mk 3 t u [ya]) = (.yes (!soB (askE val ya).1), (askE val ya).2) by rw [askE_mk, askL_one]; rfl)
  have HTA := Lib.hid hTa
  have HNO := Lib.hid hno
  have HROW := Lib.hid hrow
  have HBL := Lib.hid hbl
  obtain ⟨kk0, kt0, ku0, kka0, kn0, kcc0, hk0⟩ := kid_get HROW.out (show [ya][0]? = some ya from rfl) (Below.refl _ _) HBL.out
  have HC0 := Lib.hid (fun (W : World) (m : Nat) (av : Value) (xs : List Value) (hA : AK w0 W b h tt a n c m av xs) (hm : m + nodesE ya ≤ 1000000000) => HTA.out _ W m av xs (hk0.ex ⟨w0, Below.refl _ _⟩) hA hm)
  have HZ0 := Lib.hid hk0
  clear hk0
  obtain ⟨x1, m1, hx1⟩ : ∃ x1 m1, askE val ya = (x1, m1) := ⟨(askE val ya).1, (askE val ya).2, rfl⟩
  rw [hx1] at HC0 HE
  clear hTa hno hbl hrow hx1
  have HKN := Lib.hid (fun (w : World) => (show Calls Tryz.prog 80 #[.int .i64 3] w (Ret w (.int .i64 1)) by
    have := tr_kids 3 w
    rw [show kidsN 3 = 1 from rfl] at this
    exact this))
  clear hK hA
  go_enter Tryz.func58, Tryz.ntmps58
  go_upto_region 1 with fail
  generalize W.alloc (.cells (exL 3 t u (.slice (some ⟨kb, ko, none⟩) 1 kc)).toArray 27) = W1 at *
  have p0 : ∀ B : BW W1, B.val.cell? ⟨W.heap.size, 0, none⟩ = _ := fun B => cell_of_row _ _ 0 _ _ _ ((B.below.block _ (Array.getElem?_eq_some_iff.1 HN.out).1).trans HN.out)
  have p9 : ∀ B : BW W1, B.val.cell? ⟨W.heap.size, 9, none⟩ = _ := fun B => cell_of_row _ _ 9 _ _ _ ((B.below.block _ (Array.getElem?_eq_some_iff.1 HN.out).1).trans HN.out)
  haveI : Nonempty (BW W1) := ⟨⟨W1, Below.refl _ _⟩⟩
  refine wp_region_last_lit 6 (fun B : BW W1 => B.val) ⟨W1.drew, below_drewn (Below.refl _ _)⟩ rfl (by kernel_rfl) (by rfl) (by rfl) (by kernel_rfl) (by kernel_rfl) (by kernel_rfl) ?_
  simp only [List.take_succ_cons, List.take_zero]
  repeat (quiet_step ((go_at_call 80; refine (HKN.out _).mono ?_; rintro e v1 ⟨rfl, hb1⟩; exact ⟨rfl, ⟨v1, BW.next _ hb1⟩, rfl⟩)))
  refine wpQuiet_nil ?_
  rintro w' ⟨B, rfl⟩
  rw [if_pos (by rfl)]
  have HBE := Lib.hid (HB.out.trans (B.below.mono HB.out.size))
  have HX := Lib.hid ((B.below.block _ (Array.getElem?_eq_some_iff.1 HN.out).1).trans HN.out)
  have HK := Lib.hid (HK0.out.next HBE.out)
  have HS := Lib.hid ((AStep.refl W b av).next HBE.out)
  clear p0 p9
  go_simp
  generalize B.val = W2 at *
  obtain ⟨p0, p1, p2, p3, p4, p5, p6, p7, p8, p9⟩ := ten_cells HX.out
  have z0 := HZ0.out.c0 ⟨W2, HK.out.up⟩
  have z1 := HZ0.out.c1 ⟨W2, HK.out.up⟩
  have z2 := HZ0.out.c2 ⟨W2, HK.out.up⟩
  have z3 := HZ0.out.c3 ⟨W2, HK.out.up⟩
  have z4 := HZ0.out.c4 ⟨W2, HK.out.up⟩
  have z5 := HZ0.out.c5 ⟨W2, HK.out.up⟩
  have z6 := HZ0.out.c6 ⟨W2, HK.out.up⟩
  have z7 := HZ0.out.c7 ⟨W2, HK.out.up⟩
  have z8 := HZ0.out.c8 ⟨W2, HK.out.up⟩
  have z9 := HZ0.out.c9 ⟨W2, HK.out.up⟩
  dsimp only at z0 z1 z2 z3 z4 z5 z6 z7 z8 z9
  rw [show ko + 0 * 10 = ko from by omega] at z0 z1 z2 z3 z4 z5 z6 z7 z8 z9
  go_wp2_with fail
  refine (HC0.out W2 m av xs HK.out (by have := HNO.out; omega)).mono ?_
  rintro e w3 ⟨av1, xs1, rfl, HR⟩
  have HX3 := Lib.hid (AStep.row HK0.out (Nat.le_refl _) HX.out HR.out.2)
  have HS3 := Lib.hid (HS.out.trans HR.out.2)
  clear z0 z1 z2 z3 z4 z5 z6 z7 z8 z9 p0 p1 p2 p3 p4 p5 p6 p7 p8 p9
  obtain ⟨p0, p1, p2, p3, p4, p5, p6, p7, p8, p9⟩ := ten_cells HX3.out
  go_upto_region 15 with fail
  go_wp2_with fail
  refine (tr_so x1 w3).mono ?_
  rintro e w4 ⟨rfl, rfl⟩
  clear p0 p1 p2 p3 p4 p5 p6 p7 p8 p9
  go_wp2_with fail
  go_ret
  exact ⟨av1, xs1, (by rw [HE.out]; rfl), Lib.hid ⟨by rw [HE.out]; exact HR.out.1, HS3.out⟩⟩
set_option maxRecDepth 100000 in
set_option maxHeartbeats 8000000 in
theorem ask_1 (ya yb : Ex) (w0 : World) (hG : Good w0) (b : Nat) (h tt : ByteArray) (a : Option Addr) (n c : Nat) (val : UseI → Bs × Bool) (t : Bs) (u : UseI) (kb ko : Nat) (kc : Nat) (W : World) (m : Nat) (av : Value) (xs : List Value) (hK : AK w0 W b h tt a n c m av xs) (hbl : kb < w0.heap.size) (hrow : RowAt (fun _ => True) w0 [ya, yb] kb ko) (hTa : AskOk w0 b h tt a n c val ya) (hTb : AskOk w0 b h tt a n c val yb) (hno : m + (1 + (nodesE ya + nodesE yb)) ≤ 1000000000) :
    Calls Tryz.prog 58 #[.pointer (some ⟨b, 0, none⟩), exV 1 t u (.slice (some ⟨kb, ko, none⟩) 2 kc)] W (RetAsk w0 W b h tt a n c m av (askE val (.mk 1 t u [ya, yb]))) := by
  have hA : Below W.heap.size W (W.alloc (.cells (exL 1 t u (.slice (some ⟨kb, ko, none⟩) 2 kc)).toArray 27)) := (Below.refl _ _).alloc (Nat.le_refl _) _
  have HK0 := Lib.hid hK
  have HB := Lib.hid hA
  have HN := Lib.hid (heap_alloc_new W (.cells (exL 1 t u (.slice (some ⟨kb, ko, none⟩) 2 kc)).toArray 27))
  have HE := Lib.hid (show askE val (.mk 1 t u [ya, yb]) = (if soB (askE val ya).1 = true then (.yes true, (askE val ya).2) else (.yes (soB (askE val yb).1), (askE val ya).2 + (askE val yb).2)) by
    rw [askE_mk, askL_two]; unfold nodeV; simp [kidsN])
  have HKN := Lib.hid (fun (w : World) => (show Calls Tryz.prog 80 #[.int .i64 1] w (Ret w (.int .i64 2)) by
    have := tr_kids 1 w
    rw [show kidsN 1 = 2 from rfl] at this
    exact this))
  have HTA := Lib.hid hTa
  have HNO := Lib.hid hno
  have HTB := Lib.hid hTb
  have HMA := Lib.hid (ask_nodes val ya)
  have HROW := Lib.hid hrow
  have HBL := Lib.hid hbl
  obtain ⟨kk0, kt0, ku0, kka0, kn0, kcc0, hk0⟩ := kid_get HROW.out (show [ya, yb][0]? = some ya from rfl) (Below.refl _ _) HBL.out
  have HC0 := Lib.hid (fun (W : World) (m : Nat) (av : Value) (xs : List Value) (hA : AK w0 W b h tt a n c m av xs) (hm : m + nodesE ya ≤ 1000000000) => HTA.out _ W m av xs (hk0.ex ⟨w0, Below.refl _ _⟩) hA hm)
  have HZ0 := Lib.hid hk0
  clear hk0
  obtain ⟨kk1, kt1, ku1, kka1, kn1, kcc1, hk1⟩ := kid_get HROW.out (show [ya, yb][1]? = some yb from rfl) (Below.refl _ _) HBL.out
  have HC1 := Lib.hid (fun (W : World) (m : Nat) (av : Value) (xs : List Value) (hA : AK w0 W b h tt a n c m av xs) (hm : m + nodesE yb ≤ 1000000000) => HTB.out _ W m av xs (hk1.ex ⟨w0, Below.refl _ _⟩) hA hm)
  have HZ1 := Lib.hid hk1
  clear hk1
  obtain ⟨x1, m1, hx1⟩ : ∃ x1 m1, askE val ya = (x1, m1) := ⟨(askE val ya).1, (askE val ya).2, rfl⟩
  obtain ⟨x2, m2, hx2⟩ : ∃ x2 m2, askE val yb = (x2, m2) := ⟨(askE val yb).1, (askE val yb).2, rfl⟩
  rw [hx1] at HC0 HE HMA
  rw [hx2] at HC1 HE
  clear hTa hTb hno hbl hrow hx1 hx2
  clear hK hA
  go_enter Tryz.func58, Tryz.ntmps58
  go_upto_region 1 with fail
  generalize W.alloc (.cells (exL 1 t u (.slice (some ⟨kb, ko, none⟩) 2 kc)).toArray 27) = W1 at *
  have p0 : ∀ B : BW W1, B.val.cell? ⟨W.heap.size, 0, none⟩ = _ := fun B => cell_of_row _ _ 0 _ _ _ ((B.below.block _ (Array.getElem?_eq_some_iff.1 HN.out).1).trans HN.out)
  have p9 : ∀ B : BW W1, B.val.cell? ⟨W.heap.size, 9, none⟩ = _ := fun B => cell_of_row _ _ 9 _ _ _ ((B.below.block _ (Array.getElem?_eq_some_iff.1 HN.out).1).trans HN.out)
  haveI : Nonempty (BW W1) := ⟨⟨W1, Below.refl _ _⟩⟩
  refine wp_region_last_lit 6 (fun B : BW W1 => B.val) ⟨W1.drew, below_drewn (Below.refl _ _)⟩ rfl (by kernel_rfl) (by rfl) (by rfl) (by kernel_rfl) (by kernel_rfl) (by kernel_rfl) ?_
  simp only [List.take_succ_cons, List.take_zero]
  repeat (quiet_step ((go_at_call 80; refine (HKN.out _).mono ?_; rintro e v1 ⟨rfl, hb1⟩; exact ⟨rfl, ⟨v1, BW.next _ hb1⟩, rfl⟩)))
  refine wpQuiet_nil ?_
  rintro w' ⟨B, rfl⟩
  rw [if_pos (by rfl)]
  have HBE := Lib.hid (HB.out.trans (B.below.mono HB.out.size))
  have HX := Lib.hid ((B.below.block _ (Array.getElem?_eq_some_iff.1 HN.out).1).trans HN.out)
  have HK := Lib.hid (HK0.out.next HBE.out)
  have HS := Lib.hid ((AStep.refl W b av).next HBE.out)
  clear p0 p9
  go_simp
  generalize B.val = W2 at *
  obtain ⟨p0, p1, p2, p3, p4, p5, p6, p7, p8, p9⟩ := ten_cells HX.out
  have z0 := HZ0.out.c0 ⟨W2, HK.out.up⟩
  have z1 := HZ0.out.c1 ⟨W2, HK.out.up⟩
  have z2 := HZ0.out.c2 ⟨W2, HK.out.up⟩
  have z3 := HZ0.out.c3 ⟨W2, HK.out.up⟩
  have z4 := HZ0.out.c4 ⟨W2, HK.out.up⟩
  have z5 := HZ0.out.c5 ⟨W2, HK.out.up⟩
  have z6 := HZ0.out.c6 ⟨W2, HK.out.up⟩
  have z7 := HZ0.out.c7 ⟨W2, HK.out.up⟩
  have z8 := HZ0.out.c8 ⟨W2, HK.out.up⟩
  have z9 := HZ0.out.c9 ⟨W2, HK.out.up⟩
  dsimp only at z0 z1 z2 z3 z4 z5 z6 z7 z8 z9
  rw [show ko + 0 * 10 = ko from by omega] at z0 z1 z2 z3 z4 z5 z6 z7 z8 z9
  go_wp2_with fail
  refine (HC0.out W2 m av xs HK.out (by have := HNO.out; omega)).mono ?_
  rintro e w3 ⟨av1, xs1, rfl, HR⟩
  have HX3 := Lib.hid (AStep.row HK0.out (Nat.le_refl _) HX.out HR.out.2)
  have HS3 := Lib.hid (HS.out.trans HR.out.2)
  clear z0 z1 z2 z3 z4 z5 z6 z7 z8 z9 p0 p1 p2 p3 p4 p5 p6 p7 p8 p9
  obtain ⟨p0, p1, p2, p3, p4, p5, p6, p7, p8, p9⟩ := ten_cells HX3.out
  obtain ⟨q1, hq1⟩ : ∃ q1, soB x1 = q1 := ⟨_, rfl⟩
  have HSO := Lib.hid (hq1 ▸ tr_so x1 w3)
  have HEQ := Lib.hid hq1
  clear hq1
  go_upto_region 16 with fail
  go_wp2_with fail
  refine HSO.out.mono ?_
  rintro e w4 ⟨rfl, rfl⟩
  rcases q1 with _ | _
  · have HEE := Lib.hid (show askE val (.mk 1 t u [ya, yb]) = (.yes (soB x2), m1 + m2) by rw [HE.out]; show (if soB x1 = true then _ else _) = _; rw [HEQ.out]; rfl)
    go_upto_region 19 with fail
    have z0 := HZ1.out.c0 ⟨w4, HR.out.1.up⟩
    have z1 := HZ1.out.c1 ⟨w4, HR.out.1.up⟩
    have z2 := HZ1.out.c2 ⟨w4, HR.out.1.up⟩
    have z3 := HZ1.out.c3 ⟨w4, HR.out.1.up⟩
    have z4 := HZ1.out.c4 ⟨w4, HR.out.1.up⟩
    have z5 := HZ1.out.c5 ⟨w4, HR.out.1.up⟩
    have z6 := HZ1.out.c6 ⟨w4, HR.out.1.up⟩
    have z7 := HZ1.out.c7 ⟨w4, HR.out.1.up⟩
    have z8 := HZ1.out.c8 ⟨w4, HR.out.1.up⟩
    have z9 := HZ1.out.c9 ⟨w4, HR.out.1.up⟩
    dsimp only at z0 z1 z2 z3 z4 z5 z6 z7 z8 z9
    rw [show ko + 1 * 10 = ko + 10 from by omega] at z0 z1 z2 z3 z4 z5 z6 z7 z8 z9
    go_wp2_with fail
    refine (HC1.out w4 (m + m1) av1 xs1 HR.out.1 (by have := HNO.out; have : m1 ≤ nodesE ya := HMA.out; omega)).mono ?_
    rintro e w5 ⟨av2, xs2, rfl, HR2⟩
    have HX5 := Lib.hid ((HR2.out.2.block _ (Array.getElem?_eq_some_iff.1 HX3.out).1 (by have := (Array.getElem?_eq_some_iff.1 HK0.out.box).1; omega) (row_ne HK0.out HX.out HR.out.2)).trans HX3.out)
    have HS5 := Lib.hid (HS3.out.trans HR2.out.2)
    clear z0 z1 z2 z3 z4 z5 z6 z7 z8 z9 p0 p1 p2 p3 p4 p5 p6 p7 p8 p9
    obtain ⟨p0, p1, p2, p3, p4, p5, p6, p7, p8, p9⟩ := ten_cells HX5.out
    go_upto_region 21 with fail
    go_wp2_with fail
    refine (tr_so x2 w5).mono ?_
    rintro e w6 ⟨rfl, rfl⟩
    clear p0 p1 p2 p3 p4 p5 p6 p7 p8 p9
    go_wp2_with fail
    go_ret
    exact ⟨av2, xs2, (by rw [HEE.out]; rfl), Lib.hid ⟨by rw [HEE.out]; show AK w0 w6 b h tt a n c (m + (m1 + m2)) av2 xs2; rw [← Nat.add_assoc]; exact HR2.out.1, HS5.out⟩⟩
  · have HEE := Lib.hid (show askE val (.mk 1 t u [ya, yb]) = (.yes true, m1) by rw [HE.out]; show (if soB x1 = true then _ else _) = _; rw [HEQ.out]; rfl)
    go_wp2_with fail
    go_ret
    exact ⟨av1, xs1, (by rw [HEE.out]; rfl), Lib.hid ⟨by rw [HEE.out]; exact HR.out.1, HS3.out⟩⟩
set_option maxRecDepth 100000 in
set_option maxHeartbeats 8000000 in
theorem ask_2 (ya yb : Ex) (w0 : World) (hG : Good w0) (b : Nat) (h tt : ByteArray) (a : Option Addr) (n c : Nat) (val : UseI → Bs × Bool) (t : Bs) (u : UseI) (kb ko : Nat) (kc : Nat) (W : World) (m : Nat) (av : Value) (xs : List Value) (hK : AK w0 W b h tt a n c m av xs) (hbl : kb < w0.heap.size) (hrow : RowAt (fun _ => True) w0 [ya, yb] kb ko) (hTa : AskOk w0 b h tt a n c val ya) (hTb : AskOk w0 b h tt a n c val yb) (hno : m + (1 + (nodesE ya + nodesE yb)) ≤ 1000000000) :
    Calls Tryz.prog 58 #[.pointer (some ⟨b, 0, none⟩), exV 2 t u (.slice (some ⟨kb, ko, none⟩) 2 kc)] W (RetAsk w0 W b h tt a n c m av (askE val (.mk 2 t u [ya, yb]))) := by
  have hA : Below W.heap.size W (W.alloc (.cells (exL 2 t u (.slice (some ⟨kb, ko, none⟩) 2 kc)).toArray 27)) := (Below.refl _ _).alloc (Nat.le_refl _) _
  have HK0 := Lib.hid hK
  have HB := Lib.hid hA
  have HN := Lib.hid (heap_alloc_new W (.cells (exL 2 t u (.slice (some ⟨kb, ko, none⟩) 2 kc)).toArray 27))
  have HE := Lib.hid (show askE val (.mk 2 t u [ya, yb]) = (if soB (askE val ya).1 = false then (.yes false, (askE val ya).2) else (.yes (soB (askE val yb).1), (askE val ya).2 + (askE val yb).2)) by
    rw [askE_mk, askL_two]; unfold nodeV; simp [kidsN])
  have HKN := Lib.hid (fun (w : World) => (show Calls Tryz.prog 80 #[.int .i64 2] w (Ret w (.int .i64 2)) by
    have := tr_kids 2 w
    rw [show kidsN 2 = 2 from rfl] at this
    exact this))
  have HTA := Lib.hid hTa
  have HNO := Lib.hid hno
  have HTB := Lib.hid hTb
  have HMA := Lib.hid (ask_nodes val ya)
  have HROW := Lib.hid hrow
  have HBL := Lib.hid hbl
  obtain ⟨kk0, kt0, ku0, kka0, kn0, kcc0, hk0⟩ := kid_get HROW.out (show [ya, yb][0]? = some ya from rfl) (Below.refl _ _) HBL.out
  have HC0 := Lib.hid (fun (W : World) (m : Nat) (av : Value) (xs : List Value) (hA : AK w0 W b h tt a n c m av xs) (hm : m + nodesE ya ≤ 1000000000) => HTA.out _ W m av xs (hk0.ex ⟨w0, Below.refl _ _⟩) hA hm)
  have HZ0 := Lib.hid hk0
  clear hk0
  obtain ⟨kk1, kt1, ku1, kka1, kn1, kcc1, hk1⟩ := kid_get HROW.out (show [ya, yb][1]? = some yb from rfl) (Below.refl _ _) HBL.out
  have HC1 := Lib.hid (fun (W : World) (m : Nat) (av : Value) (xs : List Value) (hA : AK w0 W b h tt a n c m av xs) (hm : m + nodesE yb ≤ 1000000000) => HTB.out _ W m av xs (hk1.ex ⟨w0, Below.refl _ _⟩) hA hm)
  have HZ1 := Lib.hid hk1
  clear hk1
  obtain ⟨x1, m1, hx1⟩ : ∃ x1 m1, askE val ya = (x1, m1) := ⟨(askE val ya).1, (askE val ya).2, rfl⟩
  obtain ⟨x2, m2, hx2⟩ : ∃ x2 m2, askE val yb = (x2, m2) := ⟨(askE val yb).1, (askE val yb).2, rfl⟩
  rw [hx1] at HC0 HE HMA
  rw [hx2] at HC1 HE
  clear hTa hTb hno hbl hrow hx1 hx2
  clear hK hA
  go_enter Tryz.func58, Tryz.ntmps58
  go_upto_region 1 with fail
  generalize W.alloc (.cells (exL 2 t u (.slice (some ⟨kb, ko, none⟩) 2 kc)).toArray 27) = W1 at *
  have p0 : ∀ B : BW W1, B.val.cell? ⟨W.heap.size, 0, none⟩ = _ := fun B => cell_of_row _ _ 0 _ _ _ ((B.below.block _ (Array.getElem?_eq_some_iff.1 HN.out).1).trans HN.out)
  have p9 : ∀ B : BW W1, B.val.cell? ⟨W.heap.size, 9, none⟩ = _ := fun B => cell_of_row _ _ 9 _ _ _ ((B.below.block _ (Array.getElem?_eq_some_iff.1 HN.out).1).trans HN.out)
  haveI : Nonempty (BW W1) := ⟨⟨W1, Below.refl _ _⟩⟩
  refine wp_region_last_lit 6 (fun B : BW W1 => B.val) ⟨W1.drew, below_drewn (Below.refl _ _)⟩ rfl (by kernel_rfl) (by rfl) (by rfl) (by kernel_rfl) (by kernel_rfl) (by kernel_rfl) ?_
  simp only [List.take_succ_cons, List.take_zero]
  repeat (quiet_step ((go_at_call 80; refine (HKN.out _).mono ?_; rintro e v1 ⟨rfl, hb1⟩; exact ⟨rfl, ⟨v1, BW.next _ hb1⟩, rfl⟩)))
  refine wpQuiet_nil ?_
  rintro w' ⟨B, rfl⟩
  rw [if_pos (by rfl)]
  have HBE := Lib.hid (HB.out.trans (B.below.mono HB.out.size))
  have HX := Lib.hid ((B.below.block _ (Array.getElem?_eq_some_iff.1 HN.out).1).trans HN.out)
  have HK := Lib.hid (HK0.out.next HBE.out)
  have HS := Lib.hid ((AStep.refl W b av).next HBE.out)
  clear p0 p9
  go_simp
  generalize B.val = W2 at *
  obtain ⟨p0, p1, p2, p3, p4, p5, p6, p7, p8, p9⟩ := ten_cells HX.out
  have z0 := HZ0.out.c0 ⟨W2, HK.out.up⟩
  have z1 := HZ0.out.c1 ⟨W2, HK.out.up⟩
  have z2 := HZ0.out.c2 ⟨W2, HK.out.up⟩
  have z3 := HZ0.out.c3 ⟨W2, HK.out.up⟩
  have z4 := HZ0.out.c4 ⟨W2, HK.out.up⟩
  have z5 := HZ0.out.c5 ⟨W2, HK.out.up⟩
  have z6 := HZ0.out.c6 ⟨W2, HK.out.up⟩
  have z7 := HZ0.out.c7 ⟨W2, HK.out.up⟩
  have z8 := HZ0.out.c8 ⟨W2, HK.out.up⟩
  have z9 := HZ0.out.c9 ⟨W2, HK.out.up⟩
  dsimp only at z0 z1 z2 z3 z4 z5 z6 z7 z8 z9
  rw [show ko + 0 * 10 = ko from by omega] at z0 z1 z2 z3 z4 z5 z6 z7 z8 z9
  go_wp2_with fail
  refine (HC0.out W2 m av xs HK.out (by have := HNO.out; omega)).mono ?_
  rintro e w3 ⟨av1, xs1, rfl, HR⟩
  have HX3 := Lib.hid (AStep.row HK0.out (Nat.le_refl _) HX.out HR.out.2)
  have HS3 := Lib.hid (HS.out.trans HR.out.2)
  clear z0 z1 z2 z3 z4 z5 z6 z7 z8 z9 p0 p1 p2 p3 p4 p5 p6 p7 p8 p9
  obtain ⟨p0, p1, p2, p3, p4, p5, p6, p7, p8, p9⟩ := ten_cells HX3.out
  obtain ⟨q1, hq1⟩ : ∃ q1, soB x1 = q1 := ⟨_, rfl⟩
  have HSO := Lib.hid (hq1 ▸ tr_so x1 w3)
  have HEQ := Lib.hid hq1
  clear hq1
  go_upto_region 17 with fail
  go_wp2_with fail
  refine HSO.out.mono ?_
  rintro e w4 ⟨rfl, rfl⟩
  rcases q1 with _ | _
  · have HEE := Lib.hid (show askE val (.mk 2 t u [ya, yb]) = (.yes false, m1) by rw [HE.out]; show (if soB x1 = false then _ else _) = _; rw [HEQ.out]; rfl)
    go_wp2_with fail
    go_ret
    exact ⟨av1, xs1, (by rw [HEE.out]; rfl), Lib.hid ⟨by rw [HEE.out]; exact HR.out.1, HS3.out⟩⟩
  · have HEE := Lib.hid (show askE val (.mk 2 t u [ya, yb]) = (.yes (soB x2), m1 + m2) by rw [HE.out]; show (if soB x1 = false then _ else _) = _; rw [HEQ.out]; rfl)
    go_upto_region 19 with fail
    have z0 := HZ1.out.c0 ⟨w4, HR.out.1.up⟩
    have z1 := HZ1.out.c1 ⟨w4, HR.out.1.up⟩
    have z2 := HZ1.out.c2 ⟨w4, HR.out.1.up⟩
    have z3 := HZ1.out.c3 ⟨w4, HR.out.1.up⟩
    have z4 := HZ1.out.c4 ⟨w4, HR.out.1.up⟩
    have z5 := HZ1.out.c5 ⟨w4, HR.out.1.up⟩
    have z6 := HZ1.out.c6 ⟨w4, HR.out.1.up⟩
    have z7 := HZ1.out.c7 ⟨w4, HR.out.1.up⟩
    have z8 := HZ1.out.c8 ⟨w4, HR.out.1.up⟩
    have z9 := HZ1.out.c9 ⟨w4, HR.out.1.up⟩
    dsimp only at z0 z1 z2 z3 z4 z5 z6 z7 z8 z9
    rw [show ko + 1 * 10 = ko + 10 from by omega] at z0 z1 z2 z3 z4 z5 z6 z7 z8 z9
    go_wp2_with fail
    refine (HC1.out w4 (m + m1) av1 xs1 HR.out.1 (by have := HNO.out; have : m1 ≤ nodesE ya := HMA.out; omega)).mono ?_
    rintro e w5 ⟨av2, xs2, rfl, HR2⟩
    have HX5 := Lib.hid ((HR2.out.2.block _ (Array.getElem?_eq_some_iff.1 HX3.out).1 (by have := (Array.getElem?_eq_some_iff.1 HK0.out.box).1; omega) (row_ne HK0.out HX.out HR.out.2)).trans HX3.out)
    have HS5 := Lib.hid (HS3.out.trans HR2.out.2)
    clear z0 z1 z2 z3 z4 z5 z6 z7 z8 z9 p0 p1 p2 p3 p4 p5 p6 p7 p8 p9
    obtain ⟨p0, p1, p2, p3, p4, p5, p6, p7, p8, p9⟩ := ten_cells HX5.out
    go_upto_region 21 with fail
    go_wp2_with fail
    refine (tr_so x2 w5).mono ?_
    rintro e w6 ⟨rfl, rfl⟩
    clear p0 p1 p2 p3 p4 p5 p6 p7 p8 p9
    go_wp2_with fail
    go_ret
    exact ⟨av2, xs2, (by rw [HEE.out]; rfl), Lib.hid ⟨by rw [HEE.out]; show AK w0 w6 b h tt a n c (m + (m1 + m2)) av2 xs2; rw [← Nat.add_assoc]; exact HR2.out.1, HS5.out⟩⟩
set_option maxRecDepth 100000 in
set_option maxHeartbeats 8000000 in
theorem ask_cmp (k : Int) (h4 : 4 ≤ k) (h9 : k ≤ 9) (ya yb : Ex) (w0 : World) (hG : Good w0) (b : Nat) (h tt : ByteArray) (a : Option Addr) (n c : Nat) (val : UseI → Bs × Bool) (t : Bs) (u : UseI) (kb ko : Nat) (kc : Nat) (W : World) (m : Nat) (av : Value) (xs : List Value) (hK : AK w0 W b h tt a n c m av xs) (hbl : kb < w0.heap.size) (hrow : RowAt (fun _ => True) w0 [ya, yb] kb ko) (hTa : AskOk w0 b h tt a n c val ya) (hTb : AskOk w0 b h tt a n c val yb) (hno : m + (1 + (nodesE ya + nodesE yb)) ≤ 1000000000) (hSa : SmallV (askE val ya).1) (hSb : SmallV (askE val yb).1) :
    Calls Tryz.prog 58 #[.pointer (some ⟨b, 0, none⟩), exV k t u (.slice (some ⟨kb, ko, none⟩) 2 kc)] W (RetAsk w0 W b h tt a n c m av (askE val (.mk k t u [ya, yb]))) := by
  have hA : Below W.heap.size W (W.alloc (.cells (exL k t u (.slice (some ⟨kb, ko, none⟩) 2 kc)).toArray 27)) := (Below.refl _ _).alloc (Nat.le_refl _) _
  have HK0 := Lib.hid hK
  have HB := Lib.hid hA
  have HN := Lib.hid (heap_alloc_new W (.cells (exL k t u (.slice (some ⟨kb, ko, none⟩) 2 kc)).toArray 27))
  have HE := Lib.hid (show askE val (.mk k t u [ya, yb]) = (.yes (comparesB k (askE val ya).1 (askE val yb).1), (askE val ya).2 + (askE val yb).2) by
    rw [askE_mk, askL_two]; unfold nodeV
    rw [if_neg (by rcases kids_cases k with h | h | h | h <;> simp only [List.length_cons, List.length_nil] <;> omega), if_neg (by omega), if_neg (by omega)]
    show (if k = 3 then _ else if k = 1 ∧ _ then _ else if k = 2 ∧ _ then _ else if k = 1 ∨ k = 2 then _ else _) = _
    rw [if_neg (by omega), if_neg (by omega), if_neg (by omega), if_neg (by omega)])
  have HKN := Lib.hid (fun (w : World) => (show Calls Tryz.prog 80 #[.int .i64 k] w (Ret w (.int .i64 2)) by
    have := tr_kids k w
    rw [show kidsN k = 2 by rcases kids_cases k with h | h | h | h <;> omega] at this
    exact this))
  have e1 : (k == 1) = false := beq_eq_false_iff_ne.2 (by omega)
  have e2 : (k == 2) = false := beq_eq_false_iff_ne.2 (by omega)
  have e3 : (k == 3) = false := beq_eq_false_iff_ne.2 (by omega)
  have e10 : (k == 10) = false := beq_eq_false_iff_ne.2 (by omega)
  have e11 : (k == 11) = false := beq_eq_false_iff_ne.2 (by omega)
  have e12 : (k == 12) = false := beq_eq_false_iff_ne.2 (by omega)
  clear h4 h9
  have HTA := Lib.hid hTa
  have HNO := Lib.hid hno
  have HTB := Lib.hid hTb
  have HMA := Lib.hid (ask_nodes val ya)
  have HROW := Lib.hid hrow
  have HBL := Lib.hid hbl
  obtain ⟨kk0, kt0, ku0, kka0, kn0, kcc0, hk0⟩ := kid_get HROW.out (show [ya, yb][0]? = some ya from rfl) (Below.refl _ _) HBL.out
  have HC0 := Lib.hid (fun (W : World) (m : Nat) (av : Value) (xs : List Value) (hA : AK w0 W b h tt a n c m av xs) (hm : m + nodesE ya ≤ 1000000000) => HTA.out _ W m av xs (hk0.ex ⟨w0, Below.refl _ _⟩) hA hm)
  have HZ0 := Lib.hid hk0
  clear hk0
  obtain ⟨kk1, kt1, ku1, kka1, kn1, kcc1, hk1⟩ := kid_get HROW.out (show [ya, yb][1]? = some yb from rfl) (Below.refl _ _) HBL.out
  have HC1 := Lib.hid (fun (W : World) (m : Nat) (av : Value) (xs : List Value) (hA : AK w0 W b h tt a n c m av xs) (hm : m + nodesE yb ≤ 1000000000) => HTB.out _ W m av xs (hk1.ex ⟨w0, Below.refl _ _⟩) hA hm)
  have HZ1 := Lib.hid hk1
  clear hk1
  obtain ⟨x1, m1, hx1⟩ : ∃ x1 m1, askE val ya = (x1, m1) := ⟨(askE val ya).1, (askE val ya).2, rfl⟩
  obtain ⟨x2, m2, hx2⟩ : ∃ x2 m2, askE val yb = (x2, m2) := ⟨(askE val yb).1, (askE val yb).2, rfl⟩
  rw [hx1] at HC0 HE HMA
  rw [hx2] at HC1 HE
  rw [hx1] at hSa
  rw [hx2] at hSb
  have HSA := Lib.hid hSa
  have HSB := Lib.hid hSb
  clear hSa hSb
  clear hTa hTb hno hbl hrow hx1 hx2
  clear hK hA
  go_enter Tryz.func58, Tryz.ntmps58
  go_upto_region 1 with fail
  generalize W.alloc (.cells (exL k t u (.slice (some ⟨kb, ko, none⟩) 2 kc)).toArray 27) = W1 at *
  have p0 : ∀ B : BW W1, B.val.cell? ⟨W.heap.size, 0, none⟩ = _ := fun B => cell_of_row _ _ 0 _ _ _ ((B.below.block _ (Array.getElem?_eq_some_iff.1 HN.out).1).trans HN.out)
  have p9 : ∀ B : BW W1, B.val.cell? ⟨W.heap.size, 9, none⟩ = _ := fun B => cell_of_row _ _ 9 _ _ _ ((B.below.block _ (Array.getElem?_eq_some_iff.1 HN.out).1).trans HN.out)
  haveI : Nonempty (BW W1) := ⟨⟨W1, Below.refl _ _⟩⟩
  refine wp_region_last_lit 6 (fun B : BW W1 => B.val) ⟨W1.drew, below_drewn (Below.refl _ _)⟩ rfl (by kernel_rfl) (by rfl) (by rfl) (by kernel_rfl) (by kernel_rfl) (by kernel_rfl) ?_
  simp only [List.take_succ_cons, List.take_zero]
  repeat (quiet_step ((go_at_call 80; refine (HKN.out _).mono ?_; rintro e v1 ⟨rfl, hb1⟩; exact ⟨rfl, ⟨v1, BW.next _ hb1⟩, rfl⟩)))
  refine wpQuiet_nil ?_
  rintro w' ⟨B, rfl⟩
  rw [if_pos (by rfl)]
  have HBE := Lib.hid (HB.out.trans (B.below.mono HB.out.size))
  have HX := Lib.hid ((B.below.block _ (Array.getElem?_eq_some_iff.1 HN.out).1).trans HN.out)
  have HK := Lib.hid (HK0.out.next HBE.out)
  have HS := Lib.hid ((AStep.refl W b av).next HBE.out)
  clear p0 p9
  go_simp
  generalize B.val = W2 at *
  obtain ⟨p0, p1, p2, p3, p4, p5, p6, p7, p8, p9⟩ := ten_cells HX.out
  have z0 := HZ0.out.c0 ⟨W2, HK.out.up⟩
  have z1 := HZ0.out.c1 ⟨W2, HK.out.up⟩
  have z2 := HZ0.out.c2 ⟨W2, HK.out.up⟩
  have z3 := HZ0.out.c3 ⟨W2, HK.out.up⟩
  have z4 := HZ0.out.c4 ⟨W2, HK.out.up⟩
  have z5 := HZ0.out.c5 ⟨W2, HK.out.up⟩
  have z6 := HZ0.out.c6 ⟨W2, HK.out.up⟩
  have z7 := HZ0.out.c7 ⟨W2, HK.out.up⟩
  have z8 := HZ0.out.c8 ⟨W2, HK.out.up⟩
  have z9 := HZ0.out.c9 ⟨W2, HK.out.up⟩
  dsimp only at z0 z1 z2 z3 z4 z5 z6 z7 z8 z9
  rw [show ko + 0 * 10 = ko from by omega] at z0 z1 z2 z3 z4 z5 z6 z7 z8 z9
  go_wp2_with fail
  refine (HC0.out W2 m av xs HK.out (by have := HNO.out; omega)).mono ?_
  rintro e w3 ⟨av1, xs1, rfl, HR⟩
  have HX3 := Lib.hid (AStep.row HK0.out (Nat.le_refl _) HX.out HR.out.2)
  have HS3 := Lib.hid (HS.out.trans HR.out.2)
  clear z0 z1 z2 z3 z4 z5 z6 z7 z8 z9 p0 p1 p2 p3 p4 p5 p6 p7 p8 p9
  obtain ⟨p0, p1, p2, p3, p4, p5, p6, p7, p8, p9⟩ := ten_cells HX3.out
  go_upto_region 19 with fail
  have z0 := HZ1.out.c0 ⟨w3, HR.out.1.up⟩
  have z1 := HZ1.out.c1 ⟨w3, HR.out.1.up⟩
  have z2 := HZ1.out.c2 ⟨w3, HR.out.1.up⟩
  have z3 := HZ1.out.c3 ⟨w3, HR.out.1.up⟩
  have z4 := HZ1.out.c4 ⟨w3, HR.out.1.up⟩
  have z5 := HZ1.out.c5 ⟨w3, HR.out.1.up⟩
  have z6 := HZ1.out.c6 ⟨w3, HR.out.1.up⟩
  have z7 := HZ1.out.c7 ⟨w3, HR.out.1.up⟩
  have z8 := HZ1.out.c8 ⟨w3, HR.out.1.up⟩
  have z9 := HZ1.out.c9 ⟨w3, HR.out.1.up⟩
  dsimp only at z0 z1 z2 z3 z4 z5 z6 z7 z8 z9
  rw [show ko + 1 * 10 = ko + 10 from by omega] at z0 z1 z2 z3 z4 z5 z6 z7 z8 z9
  go_wp2_with fail
  refine (HC1.out w3 (m + m1) av1 xs1 HR.out.1 (by have := HNO.out; have : m1 ≤ nodesE ya := HMA.out; omega)).mono ?_
  rintro e w5 ⟨av2, xs2, rfl, HR2⟩
  have HX5 := Lib.hid ((HR2.out.2.block _ (Array.getElem?_eq_some_iff.1 HX3.out).1 (by have := (Array.getElem?_eq_some_iff.1 HK0.out.box).1; omega) (row_ne HK0.out HX.out HR.out.2)).trans HX3.out)
  have HS5 := Lib.hid (HS3.out.trans HR2.out.2)
  clear z0 z1 z2 z3 z4 z5 z6 z7 z8 z9 p0 p1 p2 p3 p4 p5 p6 p7 p8 p9
  obtain ⟨p0, p1, p2, p3, p4, p5, p6, p7, p8, p9⟩ := ten_cells HX5.out
  have HEE := Lib.hid (show askE val (.mk k t u [ya, yb]) = (.yes (comparesB k x1 x2), m1 + m2) from HE.out)
  go_upto_region 22 with fail
  go_wp2_with fail
  refine (tr_compares k x1 x2 HSA.out HSB.out w5).mono ?_
  rintro e w6 ⟨rfl, hb6⟩
  have HK6 := Lib.hid (HR2.out.1.next hb6)
  have HS6 := Lib.hid (HS5.out.next hb6)
  clear p0 p1 p2 p3 p4 p5 p6 p7 p8 p9 hb6
  go_wp2_with fail
  go_ret
  exact ⟨av2, xs2, (by rw [HEE.out]; rfl), Lib.hid ⟨by rw [HEE.out]; show AK w0 w6 b h tt a n c (m + (m1 + m2)) av2 xs2; rw [← Nat.add_assoc]; exact HK6.out, HS6.out⟩⟩
theorem tr_ask (w0 : World) (hG : Good w0) (b : Nat) (h tt : ByteArray) (a : Option Addr) (n c : Nat) (fs : List Fld) (hF : FieldsAt w0 (.slice a n c) fs) (hlim : Lim fs) (hh : h.size ≤ 100002000) (ht : tt.size ≤ 100000) (x : Ex) : okE x → AskOk w0 b h tt a n c (valI h.data.toList tt.data.toList fs) x := by
  refine Ex.ind (P := fun x => okE x → AskOk w0 b h tt a n c (valI h.data.toList tt.data.toList fs) x) (fun k t u l ih ho v W m av xs hx hK hn => ?_) x
  have hS : ∀ y, okE y → SmallV (askE (valI h.data.toList tt.data.toList fs) y).1 := fun y hy => ask_small hlim (by rw [bs_size]; exact hh) (by rw [bs_size]; exact ht) y hy
  obtain ⟨kv, rfl, hk⟩ := exAt_iff.1 hx
  have hl : ∃ a c, kv = .slice a l.length c := by rcases hk with ⟨rfl, a, c, rfl⟩ | ⟨b, o, c, rfl, _⟩ <;> exact ⟨_, _, rfl⟩
  obtain ⟨ka, kc, rfl⟩ := hl
  rw [nodesE] at hn
  unfold okE at ho
  obtain ⟨o1, o2, o3, o4, o5⟩ := ho
  have ik : ∀ x', x' ∈ l → AskOk w0 b h tt a n c (valI h.data.toList tt.data.toList fs) x' := fun x' hx' => ih x' hx' (ok_mem o5 hx')
  by_cases hne : kidsN k ≠ (l.length : Int)
  · exact ask_no k l w0 hG b h tt a n c _ t u ka kc W m av xs hK hne
  · have he : kidsN k = (l.length : Int) := Decidable.not_not.1 hne
    have hkr : ∀ y, l[0]? = some y → ∃ kb ko, ka = some ⟨kb, ko, none⟩ ∧ kb < w0.heap.size ∧ RowAt (fun _ => True) w0 l kb ko := fun y hy => by
      obtain ⟨b, o, c', he, _, hbl, hrow⟩ := kids_row hk hy
      injection he with h1 h2 h3
      exact ⟨b, o, h1, hbl, hrow⟩
    rcases kids_cases k with ⟨h0, hk3⟩ | ⟨h0, rfl⟩ | ⟨h0, hk3⟩ | ⟨h0, _⟩
    · have hl0 : l.length = 0 := by omega
      obtain rfl := List.length_eq_zero_iff.1 hl0
      rcases hk3 with rfl | rfl | rfl
      · exact ask_10 w0 hG b h tt a n c _ t u ka kc W m av xs hK
      · exact ask_11 w0 hG b h tt a n c _ t u ka kc W m av xs hK
      · exact ask_12 fs w0 hG b h tt a n c _ t u ka kc W m av xs hK hF hlim ht o3 (by omega) rfl
    · obtain ⟨ya, rfl⟩ := len_one (l := l) (by omega)
      obtain ⟨kb, ko, rfl, hbl, hrow⟩ := hkr ya rfl
      exact ask_3 ya w0 hG b h tt a n c _ t u kb ko kc W m av xs hK hbl hrow (ik ya (by simp)) (by rw [nodesL, nodesL] at hn; omega)
    · obtain ⟨ya, yb, rfl⟩ := len_two (l := l) (by omega)
      obtain ⟨kb, ko, rfl, hbl, hrow⟩ := hkr ya rfl
      have hn2 : m + (1 + (nodesE ya + nodesE yb)) ≤ 1000000000 := by rw [nodesL, nodesL, nodesL] at hn; omega
      rcases hk3 with rfl | rfl | ⟨h4, h9⟩
      · exact ask_1 ya yb w0 hG b h tt a n c _ t u kb ko kc W m av xs hK hbl hrow (ik ya (by simp)) (ik yb (by simp)) hn2
      · exact ask_2 ya yb w0 hG b h tt a n c _ t u kb ko kc W m av xs hK hbl hrow (ik ya (by simp)) (ik yb (by simp)) hn2
      · exact ask_cmp k h4 h9 ya yb w0 hG b h tt a n c _ t u kb ko kc W m av xs hK hbl hrow (ik ya (by simp)) (ik yb (by simp)) hn2 (hS ya (ok_mem o5 (by simp))) (hS yb (ok_mem o5 (by simp)))
    · omega
end Go.Proofs.YtehdeclpighdeaaGreatDoor
