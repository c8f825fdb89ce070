/- The walk of Uses. -/
import Derived.Test.YtoipnaoijccokaaGreatDoorSubFind
namespace Go.Proofs.YtoipnaoijccokaaGreatDoor
open Go.RowKit
set_option linter.unusedVariables false
attribute [local go_sem ↓] Go.wp_at_zero Go.wp_at_succ

/-- One element, of however many cells, is appended to a slice that the call owns; what is kept is told by the block that grew. -/
theorem wpList_app2 {P : Program} {ops : Array Oper} {rest : List Oper} {o : Oper} {a : Act} {Q : Exit → Act → World → Prop} {W : World} (hgd : o.guard = none) (s x : Operand) (t : TypeId)
    (ho : o.op = .call { callee := .builtin .append, args := #[s, x], argTypes := #[t, t] })
    (e : TypeId) (z : Value) (size bytes : Nat) (ht : P.underlying t = some (.slice e)) (hinfo : (P.info? e).map (fun i => (i.zero, i.size, i.bytes)) = some (some z, size, bytes))
    (hzs : z.cells.size = size) (hsz : 0 < size) (base : Nat) (w : World)
    (v : Value) (n : Nat) (xs : List Value) (hs : a.eval s = v) (hown : w.ownsRow base e size v n xs)
    (us : List Value) (hw : W = w.alloc (.cells us.toArray e)) (hl : us.length = size) (hx : a.eval x = .slice (some ⟨w.heap.size, 0, none⟩) 1 1) (h1 : ∀ u ∈ us, u.oneCell' = true)
    (hbytes : (n + 1) * bytes ≤ 140737488355328) (h63 : n + 1 ≤ 140737488355328) (hbase : base ≤ w.heap.size)
    (h : ∀ g cap w', w'.ownsRow base e size (.slice (some ⟨g, 0, none⟩) (n + 1) cap) (n + 1) (xs ++ us) → (w.alloc (.cells us.toArray e)).grownBy w' v.ownBlock →
      wpList P ops Q rest (a.put o.dst (.slice (some ⟨g, 0, none⟩) (n + 1) cap)) w') :
    wpList P ops Q (o :: rest) a W := by
  subst hw
  obtain ⟨i, hi, hz, hsize, hby⟩ := info_parts hinfo
  refine wpList_append_own _ hgd s x t ho base e i z size bytes ht hi hz hsize hby hzs hsz v n xs hs (hown.alloc _) ⟨w.heap.size, 0, none⟩ 1 1 us hx (by omega) ?_ h1
    (by unfold maxLen; omega) hbytes (by simp; omega) ?_
  · intro j u hj
    have hj' : us.toArray[j]? = some u := by simpa using hj
    have hn : (w.alloc (.cells us.toArray e)).heap[w.heap.size]? = some (.cells us.toArray e) := heap_alloc_new w _
    have : ((⟨w.heap.size, 0, none⟩ : Addr).add j) = ⟨w.heap.size, j, none⟩ := by
      unfold Addr.add; by_cases h0 : j = 0
      · subst h0; rfl
      · rw [if_neg h0]; simp
    rw [this]
    unfold World.cell?
    rw [show (w.alloc (.cells us.toArray e)).heap[(⟨w.heap.size, j, none⟩ : Addr).block]? = _ from hn]
    simpa using hj'
  · intro v' w' hown' hg _
    obtain ⟨g, cap, rfl⟩ := own_succ hown'
    exact h g cap w' hown' hg

def ucell (u : Use) : List Value := [.int .i64 u.src, .int .i64 u.to, .string ⟨u.name.toArray⟩, .string ⟨u.key.toArray⟩, .string ⟨u.dft.toArray⟩, .bool u.hk, .bool u.hd]
def ucells (us : List Use) : List Value := us.flatMap ucell
theorem ucells_snoc (us : List Use) (u : Use) : ucells (us ++ [u]) = ucells us ++ ucell u := by simp [ucells]
theorem ucells_len (us : List Use) : (ucells us).length = us.length * 7 := by
  induction us with
  | nil => rfl
  | cons u us ih => show (ucell u ++ ucells us).length = _; rw [List.length_append, ih]; simp [ucell]; omega
/-- A box that holds a use. -/
def UBox (W : World) (b : Nat) (u : Use) : Prop := W.heap[b]? = some (.cells #[.int .i64 u.src, .int .i64 u.to, .string ⟨u.name.toArray⟩, .string ⟨u.key.toArray⟩, .string ⟨u.dft.toArray⟩, .bool u.hk, .bool u.hd] 48)
/-- A list of uses that the call owns. -/
def UOwn (w : World) (base : Nat) (v : Value) (us : List Use) : Prop := w.ownsRow base 48 7 v us.length (ucells us)
theorem ubox_cells {W : World} {b : Nat} {u : Use} (h : UBox W b u) : (W.cell? ⟨b, 0, none⟩ = some (.int .i64 u.src) ∧ W.cell? ⟨b, 1, none⟩ = some (.int .i64 u.to) ∧ W.cell? ⟨b, 2, none⟩ = some (.string ⟨u.name.toArray⟩) ∧ W.cell? ⟨b, 3, none⟩ = some (.string ⟨u.key.toArray⟩) ∧ W.cell? ⟨b, 4, none⟩ = some (.string ⟨u.dft.toArray⟩) ∧ W.cell? ⟨b, 5, none⟩ = some (.bool u.hk) ∧ W.cell? ⟨b, 6, none⟩ = some (.bool u.hd)) ∧
    W.frozen? ⟨b, 0, none⟩ = false ∧ W.frozen? ⟨b, 1, none⟩ = false ∧ W.frozen? ⟨b, 2, none⟩ = false ∧ W.frozen? ⟨b, 3, none⟩ = false ∧ W.frozen? ⟨b, 4, none⟩ = false ∧ W.frozen? ⟨b, 5, none⟩ = false ∧ W.frozen? ⟨b, 6, none⟩ = false :=
  ⟨⟨cell_of_row _ _ 0 _ _ _ h, cell_of_row _ _ 1 _ _ _ h, cell_of_row _ _ 2 _ _ _ h, cell_of_row _ _ 3 _ _ _ h, cell_of_row _ _ 4 _ _ _ h, cell_of_row _ _ 5 _ _ _ h, cell_of_row _ _ 6 _ _ _ h⟩,
   frozen_of_row _ _ 0 _ _ h, frozen_of_row _ _ 1 _ _ h, frozen_of_row _ _ 2 _ _ h, frozen_of_row _ _ 3 _ _ h, frozen_of_row _ _ 4 _ _ h, frozen_of_row _ _ 5 _ _ h, frozen_of_row _ _ 6 _ _ h⟩
/-- Seven cells are stored into a box that holds a use. -/
def put7w (W : World) (b : Nat) (v0 v1 v2 v3 v4 v5 v6 : Value) : World := ((((((W.setCell ⟨b, 0, none⟩ v0).setCell ⟨b, 1, none⟩ v1).setCell ⟨b, 2, none⟩ v2).setCell ⟨b, 3, none⟩ v3).setCell ⟨b, 4, none⟩ v4).setCell ⟨b, 5, none⟩ v5).setCell ⟨b, 6, none⟩ v6
theorem turn7 {W : World} {b : Nat} (v0 v1 v2 v3 v4 v5 v6 : Value) : Turn b W (put7w W b v0 v1 v2 v3 v4 v5 v6) := (Turn.refl b W).set.set.set.set.set.set.set
theorem useV_none : useV noUse = .agg #[.int .i64 0, .int .i64 0, .string ⟨#[]⟩, .string ⟨#[]⟩, .string ⟨#[]⟩, .bool false, .bool false] := rfl
/-- Uses were returned. -/
def RetUses (w : World) (us : List Use) (e : Ending) (w' : World) : Prop := ∃ v, e = .returned v ∧ UOwn w' w.heap.size v us ∧ Below w.heap.size w w'
theorem uinfo : (Tryz.prog.info? 48).map (fun i => (i.zero, i.size, i.bytes)) = some (some (.agg #[.int .i64 0, .int .i64 0, .string ⟨#[]⟩, .string ⟨#[]⟩, .string ⟨#[]⟩, .bool false, .bool false]), 7, 72) := by kernel_rfl
theorem uslice : Tryz.prog.underlying 45 = some (.slice 48) := by kernel_rfl

theorem ubox_grown {W w' : World} {b : Nat} {u : Use} {o : Obj} {v : Value} (h : UBox W b u) (hne : v.ownBlock ≠ some b) (hg : (W.alloc o).grownBy w' v.ownBlock) : UBox w' b u := by
  have hl := blk_lt h
  have h1 : UBox (W.alloc o) b u := (((Below.refl W.heap.size W).alloc (Nat.le_refl _) o).block b hl).trans h
  exact (hg.block b (blk_lt h1) (fun e => hne e.symm)).trans h1
theorem UBox.next {W W' : World} {b : Nat} {u : Use} (h : UBox W b u) (hb : Below W.heap.size W W') : UBox W' b u := (hb.block b (blk_lt h)).trans h
/-- What holds behind an append and the making of the next variable. -/
theorem uses_step {w wr w3 : World} {v : Value} {done : List Use} {u : Use} {g cap : Nat} {o : Obj} (hb : Below w.heap.size w wr) (hw : UOwn wr w.heap.size v done) (ho : w3.ownsRow w.heap.size 48 7 (.slice (some ⟨g, 0, none⟩) (done.length + 1) cap) (done.length + 1) (ucells done ++ ucell u)) (hg : (wr.alloc o).grownBy w3 v.ownBlock) (o2 : Obj) :
    UOwn (w3.alloc o2) w.heap.size (.slice (some ⟨g, 0, none⟩) (done.length + 1) cap) (done ++ [u]) ∧ Below w.heap.size w (w3.alloc o2) ∧ (Value.slice (some ⟨g, 0, none⟩) (done.length + 1) cap).ownBlock ≠ some w3.heap.size ∧ w.heap.size ≤ w3.heap.size := by
  have hbw : Below w.heap.size w w3 := (hb.alloc hb.size o).grown hg (by have := hb.size; simp; omega) (fun k hk => (hw.lt k hk).1)
  refine ⟨?_, hbw.alloc hbw.size o2, ?_, hbw.size⟩
  · unfold UOwn
    rw [ucells_snoc, List.length_append]
    exact own_below ho ((Below.refl _ _).alloc (Nat.le_refl _) _)
  · intro e
    have := (ho.lt _ e).2
    omega
theorem uses_step5 {w W4 w5 : World} {v : Value} {us : List Use} {b : Nat} (h : UOwn W4 w.heap.size v us ∧ Below w.heap.size w W4 ∧ v.ownBlock ≠ some b ∧ w.heap.size ≤ b) (hb : Below W4.heap.size W4 w5) :
    UOwn w5 w.heap.size v us ∧ Below w.heap.size w w5 ∧ v.ownBlock ≠ some b ∧ w.heap.size ≤ b := ⟨own_below h.1 hb, h.2.1.trans (hb.mono h.2.1.size), h.2.2.1, h.2.2.2⟩
theorem found_any (o : Option Use) : foundV o = .tuple #[.agg #[.int .i64 (o.getD noUse).src, .int .i64 (o.getD noUse).to, .string ⟨(o.getD noUse).name.toArray⟩, .string ⟨(o.getD noUse).key.toArray⟩, .string ⟨(o.getD noUse).dft.toArray⟩, .bool (o.getD noUse).hk, .bool (o.getD noUse).hd], .bool o.isSome] := rfl
theorem uses_many (s : Bs) : (vuses s).length ≤ s.length := by
  have := chain_many s (vuses s) 0 (chain_uses s _ _) (Nat.zero_le _)
  omega
theorem done_le {s : Bs} {done rest : List Use} (h : done ++ rest = vuses s) : done.length ≤ s.length := by
  have := uses_many s
  rw [← h, List.length_append] at this
  omega

set_option maxRecDepth 100000 in
set_option maxHeartbeats 1000000 in
theorem sub_Uses (s : ByteArray) (w : World) (hg : Good w) (hs : s.size ≤ 100000000) :
    Calls Tryz.prog 9 #[.string s] w (RetUses w (vuses s.data.toList)) := by
  have HG := Lib.hid hg
  clear hg
  go_enter Tryz.func9, Tryz.ntmps9
  go_wp2_with fail
  refine (sub_Find s 0 _ HG.out hs).mono ?_
  rintro e w1 ⟨rfl, hb1⟩
  rw [show clampN 0 s.size = 0 by unfold clampN; simp]
  generalize ho : (vfind s.data.toList 0) = o
  rw [found_any o]
  have HO := Lib.hid ho
  clear ho
  have HU := Lib.hid (rfl : o.getD noUse = o.getD noUse)
  revert HU
  generalize hu : o.getD noUse = u
  intro HU
  have HU2 := Lib.hid hu
  clear HU hu
  have n1 : UBox (w1.alloc (.cells #[.int .i64 u.src, .int .i64 u.to, .string ⟨u.name.toArray⟩, .string ⟨u.key.toArray⟩, .string ⟨u.dft.toArray⟩, .bool u.hk, .bool u.hd] 48)) w1.heap.size u := heap_alloc_new w1 _
  have HN1 := Lib.hid n1
  have HB1 := Lib.hid (hb1.trans (((Below.refl w1.heap.size w1).alloc (Nat.le_refl _) (.cells #[.int .i64 u.src, .int .i64 u.to, .string ⟨u.name.toArray⟩, .string ⟨u.key.toArray⟩, .string ⟨u.dft.toArray⟩, .bool u.hk, .bool u.hd] 48)).mono hb1.size))
  have hz1 := hb1.size
  clear n1 hb1
  go_wp2_with fail
  generalize w1.alloc (.cells #[.int .i64 u.src, .int .i64 u.to, .string ⟨u.name.toArray⟩, .string ⟨u.key.toArray⟩, .string ⟨u.dft.toArray⟩, .bool u.hk, .bool u.hd] 48) = W1 at *
  generalize w1.heap.size = b1 at *
  go_loopg [2, 3, 4] (s.size + 1) (fun g v c t wr => ∃ (i k b : Nat) (done : List Use) (o : Option Use) (u : Use), c = .pointer (some ⟨b, 0, none⟩) ∧ t = .bool o.isSome ∧ i ≤ s.size ∧ s.size + 1 ≤ i + g ∧ s.size + 1 ≤ k + i ∧ Hid (vfind s.data.toList i = o) ∧ Hid (o.getD noUse = u) ∧ Hid (done ++ usesK s.data.toList k i = vuses s.data.toList) ∧ Hid (UOwn wr w.heap.size v done) ∧ Hid (UBox wr b u) ∧ Hid (v.ownBlock ≠ some b) ∧ w.heap.size ≤ b ∧ Hid (Below w.heap.size w wr))
  case atStart => exact ⟨0, s.size + 1, b1, [], o, u, rfl, rfl, Nat.zero_le _, by omega, by omega, HO, HU2, Lib.hid (by unfold vuses; rw [bs_size]; rfl), Lib.hid ⟨rfl, .inl ⟨rfl, rfl⟩⟩, HN1, Lib.hid (by intro e; cases e), hz1, HB1⟩
  case round =>
    obtain ⟨i, k, b, done, o', u', rfl, rfl, hi, hg1, hk, HO', HU', HD, HW, HX, HNE, hbb, HB⟩ := hrel
    rcases o' with _ | u0
    · have HE := Lib.hid (usesK_none (k := k) HO'.out)
      go_wp2_with fail
      go_ret
      have hW := HW.out
      have hD := HD.out
      rw [HE.out, List.append_nil] at hD
      rw [hD] at hW
      exact ⟨_, rfl, hW, HB.out⟩
    · obtain rfl : u0 = u' := HU'.out
      obtain ⟨⟨c0, c1, c2, c3, c4, c5, c6⟩, f0, f1, f2, f3, f4, f5, f6⟩ := ubox_cells HX.out
      have hdone := done_le HD.out
      rw [bs_size] at hdone
      have HF := Lib.hid (Found.of HO'.out)
      have hown := HW.out
      unfold UOwn at hown
      have hsz := HB.out.size
      go_wp2_with (at_builtin; refine wpList_app2 rfl _ _ 45 rfl 48 (.agg #[.int .i64 0, .int .i64 0, .string ⟨#[]⟩, .string ⟨#[]⟩, .string ⟨#[]⟩, .bool false, .bool false]) 7 72 uslice uinfo rfl (by decide) w.heap.size _ _ _ _ rfl hown (ucell u0) rfl rfl rfl (by intro u hu; simp [ucell] at hu; rcases hu with rfl | rfl | rfl | rfl | rfl | rfl | rfl <;> rfl) (by omega) (by omega) (by omega) ?_; intro g cap w3 hown3 hg3; have X3 := ubox_grown HX.out HNE.out hg3; obtain ⟨⟨d0, d1, d2, d3, d4, d5, d6⟩, e0, e1, e2, e3, e4, e5, e6⟩ := ubox_cells X3; have HX3 := Lib.hid X3; have HO3 := Lib.hid hown3; have HG3 := Lib.hid hg3; clear hown3 hg3 X3 c0 c1 c2 c3 c4 c5 c6 f0 f1 f2 f3 f4 f5 f6)
      clear d0 d1 d2 d3 d4 d5 d6 e0 e1 e2 e3 e4 e5 e6
      have n4 : UBox (w3.alloc (.cells #[.int .i64 u0.src, .int .i64 u0.to, .string ⟨u0.name.toArray⟩, .string ⟨u0.key.toArray⟩, .string ⟨u0.dft.toArray⟩, .bool u0.hk, .bool u0.hd] 48)) w3.heap.size u0 := heap_alloc_new w3 _
      have HS := Lib.hid (uses_step HB.out HW.out HO3.out HG3.out (.cells #[.int .i64 u0.src, .int .i64 u0.to, .string ⟨u0.name.toArray⟩, .string ⟨u0.key.toArray⟩, .string ⟨u0.dft.toArray⟩, .bool u0.hk, .bool u0.hd] 48))
      generalize w3.alloc (.cells #[.int .i64 u0.src, .int .i64 u0.to, .string ⟨u0.name.toArray⟩, .string ⟨u0.key.toArray⟩, .string ⟨u0.dft.toArray⟩, .bool u0.hk, .bool u0.hd] 48) = W4 at *
      generalize w3.heap.size = b4 at *
      have HG4 := Lib.hid (HG.out.next HS.out.2.1)
      refine (sub_Find s u0.to W4 HG4.out hs).mono ?_
      rintro e w5 ⟨rfl, hb5⟩
      have hto := HF.out.le
      have hlt := HF.out.lt
      have hge := HF.out.ge
      rw [bs_size] at hto
      rw [show clampN (u0.to : Int) s.size = u0.to by unfold clampN; omega, found_any (vfind s.data.toList u0.to)]
      have n5 := n4.next hb5
      obtain ⟨⟨c0, c1, c2, c3, c4, c5, c6⟩, f0, f1, f2, f3, f4, f5, f6⟩ := ubox_cells n5
      have HN5 := Lib.hid n5
      have HS5 := Lib.hid (uses_step5 HS.out hb5)
      have hb4 := HS.out.2.2.2
      clear n4 n5 hb5 HS HG4 HX HX3 HO3 HG3 HW
      generalize hu' : (vfind s.data.toList u0.to).getD noUse = u'
      have HU' := Lib.hid hu'
      clear hu'
      generalize ho' : vfind s.data.toList u0.to = o'
      have HO3 := Lib.hid ho'
      rw [ho'] at HU'
      clear ho'
      go_wp2_with fail
      obtain ⟨k', hk', hus⟩ := usesK_some HO'.out (by rw [bs_size]; exact hk)
      rw [bs_size] at hk'
      have HD2 := Lib.hid (show (done ++ [u0]) ++ usesK s.data.toList k' u0.to = vuses s.data.toList by rw [← HD.out, hus]; simp)
      clear hus
      go_roundg (s.size + 1 - u0.to)
      case measure => omega
      case rel =>
        refine ⟨u0.to, k', b4, done ++ [u0], o', u', rfl, rfl, hto, by omega, hk', HO3, HU', HD2, Lib.hid ?_, Lib.hid (row7 _ _ _ _ _ _ _ HN5.out), Lib.hid ?_, hb4, Lib.hid ?_⟩
        · refine World.ownsRow.kept HS5.out.1 (turn7 (b := b4) _ _ _ _ _ _ _) (.inr HS5.out.2.2.1)
        · exact HS5.out.2.2.1
        · exact HS5.out.2.1.trans ((turn7 (b := b4) _ _ _ _ _ _ _).below hb4 HS5.out.2.1.size)
end Go.Proofs.YtoipnaoijccokaaGreatDoor
