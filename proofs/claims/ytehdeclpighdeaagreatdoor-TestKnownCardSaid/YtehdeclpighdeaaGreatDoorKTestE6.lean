/- The walks of the reference's alike and Same on trees, of places, and of theirs. The walks of places and of theirs. One element, of however many cells, is appended to a slice that the call owns: its row lies where it lay, or in a new block. The walk of theirs: a tree of the program's as one of the reference's. The walk of shape: a tree as letters. The walks of plain, of EqualFunc over trees, and of the program's Same. The laws' own functions on tests: is, fails, awake. -/
import Derived.Test.YtehdeclpighdeaaGreatDoorKTestR4
import Derived.Test.YtehdeclpighdeaaGreatDoorKRefFind26
import Derived.Test.YtehdeclpighdeaaGreatDoorKTestWP
import Derived.OwnWalk
namespace Go.Proofs.YtehdeclpighdeaaGreatDoor
open Go.RowKit
set_option linter.unusedVariables false
abbrev useIV (u : UseI) : Value := .agg #[.int .i64 u.src, .int .i64 u.till, .string ⟨u.name.toArray⟩, .string ⟨u.key.toArray⟩, .string ⟨u.dft.toArray⟩, .bool u.hk, .bool u.hd]
structure BW (W : World) where
  val : World
  below : Below W.heap.size W val
theorem rowAt_get {A : Nat → Prop} {W : World} : ∀ {l : List Ex} {b o i : Nat} {x : Ex}, RowAt A W l b o → l[i]? = some x → ∃ cs, ExAt A W x (.agg cs) ∧ CellsAt W b (o + i * 10) cs.toList
  | [], _, _, _, _, _, h => by simp at h
  | y :: r, b, o, 0, x, h, hx => by
    simp at hx; subst hx
    rw [rowAt_cons] at h
    exact h.1
  | y :: r, b, o, i + 1, x, h, hx => by
    rw [rowAt_cons] at h
    obtain ⟨cs, h1, h2⟩ := rowAt_get h.2 (by simpa using hx)
    exact ⟨cs, h1, by rw [show o + (i + 1) * 10 = o + 10 + i * 10 by omega]; exact h2⟩
theorem cells_ten {W : World} {b o : Nat} {k : Int} {t : Bs} {u : UseI} {kv : Value} (h : CellsAt W b o (exL k t u kv)) :
    W.cell? ⟨b, o, none⟩ = some (.int .i64 k) ∧ W.cell? ⟨b, o + 1, none⟩ = some (.string ⟨t.toArray⟩) ∧ W.cell? ⟨b, o + 2, none⟩ = some (.int .i64 u.src) ∧ W.cell? ⟨b, o + 3, none⟩ = some (.int .i64 u.till) ∧ W.cell? ⟨b, o + 4, none⟩ = some (.string ⟨u.name.toArray⟩) ∧ W.cell? ⟨b, o + 5, none⟩ = some (.string ⟨u.key.toArray⟩) ∧ W.cell? ⟨b, o + 6, none⟩ = some (.string ⟨u.dft.toArray⟩) ∧ W.cell? ⟨b, o + 7, none⟩ = some (.bool u.hk) ∧ W.cell? ⟨b, o + 8, none⟩ = some (.bool u.hd) ∧ W.cell? ⟨b, o + 9, none⟩ = some kv :=
  ⟨h 0 _ rfl, h 1 _ rfl, h 2 _ rfl, h 3 _ rfl, h 4 _ rfl, h 5 _ rfl, h 6 _ rfl, h 7 _ rfl, h 8 _ rfl, h 9 _ rfl⟩
theorem BW.next {W w' : World} (B : BW W) (hb : Below B.val.heap.size B.val w') : Below W.heap.size W w' := B.below.trans (hb.mono B.below.size)
structure KidAt (W : World) (b o : Nat) (x : Ex) (k : Int) (t : Bs) (u : UseI) (a : Option Addr) (n c : Nat) : Prop where
  ex : ∀ B : BW W, ExAt (fun _ => True) B.val x (exV k t u (.slice a n c))
  c0 : ∀ B : BW W, B.val.cell? ⟨b, o, none⟩ = some (.int .i64 k)
  c1 : ∀ B : BW W, B.val.cell? ⟨b, o + 1, none⟩ = some (.string ⟨t.toArray⟩)
  c2 : ∀ B : BW W, B.val.cell? ⟨b, o + 2, none⟩ = some (.int .i64 u.src)
  c3 : ∀ B : BW W, B.val.cell? ⟨b, o + 3, none⟩ = some (.int .i64 u.till)
  c4 : ∀ B : BW W, B.val.cell? ⟨b, o + 4, none⟩ = some (.string ⟨u.name.toArray⟩)
  c5 : ∀ B : BW W, B.val.cell? ⟨b, o + 5, none⟩ = some (.string ⟨u.key.toArray⟩)
  c6 : ∀ B : BW W, B.val.cell? ⟨b, o + 6, none⟩ = some (.string ⟨u.dft.toArray⟩)
  c7 : ∀ B : BW W, B.val.cell? ⟨b, o + 7, none⟩ = some (.bool u.hk)
  c8 : ∀ B : BW W, B.val.cell? ⟨b, o + 8, none⟩ = some (.bool u.hd)
  c9 : ∀ B : BW W, B.val.cell? ⟨b, o + 9, none⟩ = some (.slice a n c)
theorem ExAt.any {A : Nat → Prop} {W : World} {x : Ex} {v : Value} (h : ExAt A W x v) : ExAt (fun _ => True) W x v := exAt_lo (fun _ _ _ => trivial) _ _ h
theorem kid_get {A : Nat → Prop} {w W : World} {l : List Ex} {b o i : Nat} {x : Ex} (h : RowAt A w l b o) (hx : l[i]? = some x) (hb : Below w.heap.size w W) (hl : b < w.heap.size) :
    ∃ k t u a n c, KidAt W b (o + i * 10) x k t u a n c := by
  obtain ⟨cs, h1, h2⟩ := rowAt_get h hx
  obtain ⟨k, t, u, a, n, c, h3⟩ := h1.ten
  obtain rfl : cs = (exL k t u (.slice a n c)).toArray := by injection h3
  have h4 : ∀ B : BW W, CellsAt B.val b (o + i * 10) (exL k t u (.slice a n c)) := fun B => h2.keep ((B.below.block b (Nat.lt_of_lt_of_le hl hb.size)).trans (hb.block b hl))
  exact ⟨k, t, u, a, n, c, fun B => ((h1.any).next hb).next B.below, fun B => (cells_ten (h4 B)).1, fun B => (cells_ten (h4 B)).2.1, fun B => (cells_ten (h4 B)).2.2.1, fun B => (cells_ten (h4 B)).2.2.2.1, fun B => (cells_ten (h4 B)).2.2.2.2.1, fun B => (cells_ten (h4 B)).2.2.2.2.2.1, fun B => (cells_ten (h4 B)).2.2.2.2.2.2.1, fun B => (cells_ten (h4 B)).2.2.2.2.2.2.2.1, fun B => (cells_ten (h4 B)).2.2.2.2.2.2.2.2.1, fun B => (cells_ten (h4 B)).2.2.2.2.2.2.2.2.2⟩
theorem kids_row {A : Nat → Prop} {W : World} {l : List Ex} {kv : Value} {i : Nat} {x : Ex} (h : KidsAt A W l kv) (hx : l[i]? = some x) : ∃ b o c, kv = .slice (some ⟨b, o, none⟩) l.length c ∧ l.length ≤ c ∧ b < W.heap.size ∧ RowAt A W l b o := by
  rcases h with ⟨rfl, _⟩ | ⟨b, o, c, h1, h2, h3, h4, h5⟩
  · simp at hx
  · exact ⟨b, o, c, h1, h2, h4, h5⟩
theorem sameE_mk {k k2 : Int} {t t2 : Bs} {u u2 : UseI} {l l2 : List Ex} : sameE (.mk k t u l) (.mk k2 t2 u2 l2) = (decide (k = k2) && t == t2 && useSame u u2 && sameL l l2) := by rw [sameE]
theorem ten_two {w W : World} {k k2 : Int} {t t2 : Bs} {u u2 : UseI} {kv kv2 : Value} {T : TypeId} : Two w ((w.alloc (.cells (exL k t u kv).toArray T)).alloc (.cells (exL k2 t2 u2 kv2).toArray T)) (.cells (exL k t u kv).toArray T) (.cells (exL k2 t2 u2 kv2).toArray T) := two_new w _ _
end Go.Proofs.YtehdeclpighdeaaGreatDoor
namespace Go.Proofs.YtehdeclpighdeaaGreatDoor
open Go.RowKit
set_option linter.unusedVariables false
end Go.Proofs.YtehdeclpighdeaaGreatDoor
namespace Go.Proofs.YtehdeclpighdeaaGreatDoor
open Go.RowKit
set_option linter.unusedVariables false
end Go.Proofs.YtehdeclpighdeaaGreatDoor
namespace Go.Proofs.YtehdeclpighdeaaGreatDoor
open Go.RowKit
set_option linter.unusedVariables false
def RowC (A : Nat → Prop) (W : World) : List Ex → List Value → Prop
  | [], xs => xs = []
  | x :: r, xs => ∃ k t u a n c rest, xs = exL k t u (.slice a n c) ++ rest ∧ ExAt A W x (exV k t u (.slice a n c)) ∧ RowC A W r rest
theorem RowC.map {A A' : Nat → Prop} {W W' : World} (h : ∀ x v, ExAt A W x v → ExAt A' W' x v) : ∀ {l : List Ex} {xs : List Value}, RowC A W l xs → RowC A' W' l xs
  | [], _, h1 => h1
  | x :: r, xs, ⟨k, t, u, a, n, c, rest, h1, h2, h3⟩ => ⟨k, t, u, a, n, c, rest, h1, h _ _ h2, RowC.map h h3⟩
theorem RowC.at {A : Nat → Prop} {W : World} : ∀ {l : List Ex} {xs : List Value} {b o : Nat}, RowC A W l xs → CellsAt W b o xs → RowAt A W l b o
  | [], _, _, _, _, _ => rowAt_nil
  | x :: r, xs, b, o, ⟨k1, t1, u1, a1, n1, c1, rest, h1, h2, h3⟩, hc => by
    subst h1
    rw [rowAt_cons]
    refine ⟨⟨_, h2, fun j v hv => hc j v ?_⟩, RowC.at h3 (fun j v hv => ?_)⟩
    · rw [List.getElem?_append_left (List.getElem?_eq_some_iff.1 hv).1]; exact hv
    · have := hc (10 + j) v (by rw [List.getElem?_append_right (by simp)]; simpa using hv)
      rw [show o + 10 + j = o + (10 + j) by omega]; exact this
structure TH (w W : World) (k : Int) (t : Bs) (u : UseI) (a : Option Addr) (n0 c : Nat) (done : List Ex) (v : Value) (xs : List Value) : Prop where
  below : Below w.heap.size w W
  bx : W.heap[w.heap.size]? = some (.cells (exL k t u (.slice a n0 c)).toArray 27)
  br : W.heap[w.heap.size + 1]? = some (.cells (exL 0 [] noUseI (.slice none 0 0)).toArray 34)
  bn : W.heap[w.heap.size + 2]? = some (.cells (exL k t u v).toArray 34)
  own : W.ownsRow (w.heap.size + 3) 34 10 v done.length xs
  rows : RowC (fun z => w.heap.size + 3 ≤ z ∧ some z ≠ v.ownBlock) W done xs
  lt : w.heap.size + 3 ≤ W.heap.size
end Go.Proofs.YtehdeclpighdeaaGreatDoor
namespace Go.Proofs.YtehdeclpighdeaaGreatDoor
open Go.RowKit
set_option linter.unusedVariables false
mutual
def shapeE : Ex → Bs
  | .mk k t u l => if k = 10 then t else if k = 11 then t else if k = 12 then u.name else [UInt8.ofNat (64 + k.toNat), 40] ++ catS true l ++ [41]
def catS (first : Bool) : List Ex → Bs
  | [] => []
  | x :: r => (bif first then [] else [44]) ++ shapeE x ++ catS false r
end
mutual
def kindsE : Ex → Bool
  | .mk k _ _ l => decide (1 ≤ k ∧ k ≤ 12) && kindsL l
def kindsL : List Ex → Bool
  | [] => true
  | x :: r => kindsE x && kindsL r
end
theorem kinds_mem : ∀ {l : List Ex} {x : Ex}, kindsL l = true → x ∈ l → kindsE x = true
  | [], _, _, h => by cases h
  | y :: r, x, h, hx => by
    unfold kindsL at h
    rw [Bool.and_eq_true] at h
    rcases List.mem_cons.1 hx with e | hx
    · rw [e]; exact h.1
    · exact kinds_mem h.2 hx
theorem catS_snoc : ∀ (b : Bool) (l : List Ex) (x : Ex), catS b (l ++ [x]) = catS b l ++ ((bif (b && l.isEmpty) then [] else [44]) ++ shapeE x)
  | b, [], x => by simp [catS]
  | b, y :: r, x => by
    have ih := catS_snoc false r x
    rw [List.cons_append, catS, catS, ih]
    simp [List.append_assoc]
theorem catS_le : ∀ (b : Bool) (l : List Ex) (i : Nat), (catS b (l.take i)).length ≤ (catS b l).length
  | b, [], i => by simp
  | b, y :: r, 0 => by simp [catS]
  | b, y :: r, i + 1 => by
    have := catS_le false r i
    rw [List.take_succ_cons, catS, catS]; simp only [List.length_append]; omega
theorem shape_mk {k : Int} {t : Bs} {u : UseI} {l : List Ex} (h1 : k ≠ 10) (h2 : k ≠ 11) (h3 : k ≠ 12) : shapeE (.mk k t u l) = [UInt8.ofNat (64 + k.toNat), 40] ++ catS true l ++ [41] := by
  rw [shapeE, if_neg h1, if_neg h2, if_neg h3]
theorem sh_app (a b : Bs) : (⟨a.toArray⟩ : ByteArray) ++ ⟨b.toArray⟩ = ⟨(a ++ b).toArray⟩ := by
  apply ByteArray.ext; simp
theorem conv_one (w : World) (b : UInt8) (v : Int) (hv : v = (b.toNat : Int)) : (convert 92 9 (.slice (some ⟨w.heap.size, 0, none⟩) 1 1)).run Tryz.prog (w.alloc (.cells #[.int .u8 v] 5)) = .ok (.string ⟨[b].toArray⟩) (w.alloc (.cells #[.int .u8 v] 5)) := by
  subst hv
  have := run_convert_bytes_back (P := Tryz.prog) (w.alloc (.cells #[.int .u8 (b.toNat : Int)] 5)) 92 9 5 ⟨w.heap.size, 0, none⟩ 1 [b] u92 u5 u9 (fun j hj => by
    have hj0 : j = 0 := by simpa using hj
    subst hj0
    have : ((⟨w.heap.size, 0, none⟩ : Addr).add 0) = ⟨w.heap.size, 0, none⟩ := rfl
    rw [this]
    exact cell_new w _ _ 0 _ rfl)
  exact this
set_option maxRecDepth 100000 in
set_option maxHeartbeats 4000000 in
theorem law_shape_step (x : Ex) (hnar : narrowE x) (hkd : kindsE x = true) (hlen : (shapeE x).length ≤ 100000) (ih : ∀ x', x' ∈ x.kids → (shapeE x').length ≤ 100000 → ∀ (v : Value) (W : World), ExAt (fun _ => True) W x' v → Calls Tryz.prog 54 #[v] W (Ret W (.string ⟨(shapeE x').toArray⟩))) (v : Value) (w : World) (hx : ExAt (fun _ => True) w x v) :
    Calls Tryz.prog 54 #[v] w (Ret w (.string ⟨(shapeE x).toArray⟩)) := by
  obtain ⟨k, t, u, l⟩ := x
  have HIH := Lib.hid ih
  have HLM := Lib.hid (show l.length ≤ 1000000 by unfold narrowE at hnar; exact hnar.1)
  obtain ⟨kv, rfl, hk⟩ := exAt_iff.1 hx
  have HKID := Lib.hid hk
  have hl : ∃ a c, kv = .slice a l.length c := by rcases hk with ⟨rfl, a, c, rfl⟩ | ⟨b, o, c, rfl, _⟩ <;> exact ⟨_, _, rfl⟩
  obtain ⟨a, c, rfl⟩ := hl
  have HKD := Lib.hid (show 1 ≤ k ∧ k ≤ 12 by unfold kindsE at hkd; rw [Bool.and_eq_true, decide_eq_true_eq] at hkd; exact hkd.1)
  have HLE := Lib.hid hlen
  have HB := Lib.hid ((Below.refl w.heap.size w).alloc (Nat.le_refl _) (.cells (exL k t u (.slice a l.length c)).toArray 27))
  have HN0 := Lib.hid (heap_alloc_new w (.cells (exL k t u (.slice a l.length c)).toArray 27))
  clear ih hnar hx hk hkd hlen
  go_enter Tryz.func54, Tryz.ntmps54
  go_upto_region 1 with fail
  generalize w.alloc (.cells (exL k t u (.slice a l.length c)).toArray 27) = W0 at *
  obtain ⟨p0, p1, p2, p3, p4, p5, p6, p7, p8, p9⟩ := ten_cells HN0.out
  by_cases h10 : k = 10
  · subst h10
    go_wp2_with fail
    go_ret
    exact ⟨rfl, HB.out⟩
  · by_cases h11 : k = 11
    · subst h11
      go_wp2_with fail
      go_ret
      exact ⟨rfl, HB.out⟩
    · by_cases h12 : k = 12
      · subst h12
        go_wp2_with fail
        go_ret
        exact ⟨rfl, HB.out⟩
      · have HSH := Lib.hid (shape_mk (t := t) (u := u) (l := l) h10 h11 h12)
        have e10 : (k == 10) = false := beq_eq_false_iff_ne.2 h10
        have e11 : (k == 11) = false := beq_eq_false_iff_ne.2 h11
        have e12 : (k == 12) = false := beq_eq_false_iff_ne.2 h12
        have hk1 : 1 ≤ k := HKD.out.1
        have hk9 : k ≤ 9 := by have := HKD.out.2; omega
        clear h10 h11 h12
        go_upto_region 7 with fail
        clear e10 e11 e12
        obtain ⟨B, hB⟩ : ∃ B, UInt8.ofNat (64 + k.toNat) = B := ⟨_, rfl⟩
        have HBT := Lib.hid (show 65 + (k + 25) % 26 = (B.toNat : Int) by
          rw [← hB, UInt8.toNat_ofNat']; omega)
        rw [hB] at HSH
        have hcv := conv_one W0 B (65 + (k + 25) % 26) HBT.out
        have hA : Below W0.heap.size W0 (W0.alloc (.cells #[.int .u8 (65 + (k + 25) % 26)] 5)) := (Below.refl _ _).alloc (Nat.le_refl _) _
        have HA := Lib.hid hA
        rw [HSH.out] at HLE
        have HCL := Lib.hid (show (catS true l).length ≤ 99997 by have := HLE.out; simp only [List.length_append, List.length_cons, List.length_nil] at this; omega)
        clear hA hB
        go_upto_region 8 with fail
        clear hcv p0 p1 p2 p3 p4 p5 p6 p7 p8 p9
        generalize W0.alloc (.cells #[.int .u8 (65 + (k + 25) % 26)] 5) = W1 at *
        obtain ⟨S0, hS0⟩ : ∃ S0, [B, 40] ++ catS true (l.take 0) = S0 := ⟨_, rfl⟩
        rw [show ({ data := #[B] } : ByteArray) ++ { data := #[40] } = ⟨S0.toArray⟩ from by rw [← hS0, show catS true (l.take 0) = [] from rfl]; exact sh_app [B] [40]]
        have HS0 := Lib.hid hS0
        clear hS0
        obtain ⟨n, hn⟩ : ∃ n, l.length = n := ⟨_, rfl⟩
        rw [hn] at HKID HLM HN0
        rw [hn]
        have HN := Lib.hid hn
        have hn6 := HLM.out
        have HB1 := Lib.hid (HB.out.trans (HA.out.mono HB.out.size))
        clear hn
        go_upto_region 9 with fail
        go_loopw [3, 4] (fun sv iv wr => ∃ i : Nat, i ≤ n ∧ iv = .int .i64 i ∧ sv = .string ⟨([B, 40] ++ catS true (l.take i)).toArray⟩ ∧ Hid (Below W0.heap.size W0 wr)) (fun _ iv _ => n - (intOf iv).toNat)
        case atStart => exact ⟨0, Nat.zero_le _, rfl, by rw [HS0.out], HA⟩
        case round =>
          obtain ⟨i, hi, rfl, rfl, HW⟩ := hrel
          have HBB := Lib.hid (HB.out.trans (HW.out.mono HB.out.size))
          have HQ := Lib.hid ((HW.out.block _ (Array.getElem?_eq_some_iff.1 HN0.out).1).trans HN0.out)
          obtain ⟨-, -, -, -, -, -, -, -, -, p9⟩ := ten_cells HQ.out
          obtain ⟨S, hS⟩ : ∃ S, [B, 40] ++ catS true (l.take i) = S := ⟨_, rfl⟩
          have hsl : S.length ≤ 100000 := by rw [← hS, List.length_append]; have := catS_le true l i; have := HCL.out; simp only [List.length_cons, List.length_nil]; omega
          rw [hS]
          by_cases hlt : i < n
          · have i1 : (i : Int) < (n : Int) := by omega
            have i0 : (0 : Int) ≤ (i : Int) := by omega
            obtain ⟨x, hx⟩ : ∃ x, l[i]? = some x := ⟨_, List.getElem?_eq_getElem (by rw [HN.out]; exact hlt)⟩
            have htk : l.take (i + 1) = l.take i ++ [x] := by rw [List.take_add_one, hx]; rfl
            have hsn := catS_snoc true (l.take i) x
            rw [← htk] at hsn
            have hl1 := catS_le true l (i + 1)
            have HMEM := Lib.hid (show x ∈ (Ex.mk k t u l).kids from List.mem_of_getElem? hx)
            obtain ⟨b, o, c', he, hlc, hbl, hrow⟩ := kids_row HKID.out hx
            obtain ⟨rfl, rfl⟩ : a = some ⟨b, o, none⟩ ∧ c = c' := by injection he with h1 h2 h3; exact ⟨h1, h3⟩
            obtain ⟨k1, t1, u1, a1, n1, c1, hk1⟩ := kid_get hrow hx HBB.out hbl
            obtain ⟨R, hR⟩ : ∃ R, shapeE x = R := ⟨_, rfl⟩
            rw [hR] at hsn
            have hsz : R.length ≤ 99997 := by rw [hsn] at hl1; simp only [List.length_append] at hl1; have := HCL.out; omega
            have HCALL := Lib.hid (show Calls Tryz.prog 54 #[exV k1 t1 u1 (.slice a1 n1 c1)] wr (Ret wr (.string ⟨R.toArray⟩)) from hR ▸ HIH.out x HMEM.out (by rw [hR]; omega) _ wr (hk1.ex ⟨wr, Below.refl _ _⟩))
            have hemp : (l.take i).isEmpty = decide (i = 0) := by
              rw [Bool.eq_iff_iff, decide_eq_true_eq, List.isEmpty_iff, List.take_eq_nil_iff]
              constructor
              · rintro (h | h)
                · exact h
                · rw [h] at hx; simp at hx
              · exact Or.inl
            rw [hemp] at hsn
            have HSN := Lib.hid hsn
            obtain ⟨-, y0, y1, y2, y3, y4, y5, y6, y7, y8, y9⟩ := hk1
            have z0 := y0 ⟨wr, Below.refl _ _⟩
            have z1 := y1 ⟨wr, Below.refl _ _⟩
            have z2 := y2 ⟨wr, Below.refl _ _⟩
            have z3 := y3 ⟨wr, Below.refl _ _⟩
            have z4 := y4 ⟨wr, Below.refl _ _⟩
            have z5 := y5 ⟨wr, Below.refl _ _⟩
            have z6 := y6 ⟨wr, Below.refl _ _⟩
            have z7 := y7 ⟨wr, Below.refl _ _⟩
            have z8 := y8 ⟨wr, Below.refl _ _⟩
            have z9 := y9 ⟨wr, Below.refl _ _⟩
            dsimp only at z0 z1 z2 z3 z4 z5 z6 z7 z8 z9
            have HSS := Lib.hid hS
            clear hx hrow hbl he hlc y0 y1 y2 y3 y4 y5 y6 y7 y8 y9 htk hsn hl1 hR hemp hS
            by_cases hi0 : 0 < i
            · have i2 : (0 : Int) < (i : Int) := by omega
              have hg := sh_app S [44]
              have hg2 := sh_app (S ++ [44]) R
              have HG := Lib.hid (show S ++ [44] ++ R = [B, 40] ++ catS true (l.take (i + 1)) by rw [HSN.out, decide_eq_false (by omega), ← HSS.out]; simp)
              obtain ⟨S2, hS2⟩ : ∃ S2, S ++ [44] = S2 := ⟨_, rfl⟩
              have hl2 : S2.length ≤ 100001 := by rw [← hS2, List.length_append, List.length_singleton]; omega
              rw [hS2] at hg hg2 HG
              obtain ⟨S3, hS3⟩ : ∃ S3, S2 ++ R = S3 := ⟨_, rfl⟩
              rw [hS3] at hg2 HG
              clear hi0 hS2 hS3
              go_wp2_with fail
              refine HCALL.out.mono ?_
              rintro e w3 ⟨rfl, hb3⟩
              have HB3 := Lib.hid (HW.out.trans (hb3.mono HW.out.size))
              clear hb3 z0 z1 z2 z3 z4 z5 z6 z7 z8 z9 p9
              go_wp2_with fail
              go_roundw
              case rel => exact ⟨i + 1, by omega, by go_num, by rw [← HG.out], HB3⟩
              case measure => (simp [intOf] <;> omega)
            · have i2 : ¬ (0 : Int) < (i : Int) := by omega
              have hg := sh_app S R
              have HG := Lib.hid (show S ++ R = [B, 40] ++ catS true (l.take (i + 1)) by rw [HSN.out, decide_eq_true (by omega), ← HSS.out]; simp)
              obtain ⟨S3, hS3⟩ : ∃ S3, S ++ R = S3 := ⟨_, rfl⟩
              rw [hS3] at hg HG
              clear hi0 hS3
              go_wp2_with fail
              refine HCALL.out.mono ?_
              rintro e w3 ⟨rfl, hb3⟩
              have HB3 := Lib.hid (HW.out.trans (hb3.mono HW.out.size))
              clear hb3 z0 z1 z2 z3 z4 z5 z6 z7 z8 z9 p9
              go_wp2_with fail
              go_roundw
              case rel => exact ⟨i + 1, by omega, by go_num, by rw [← HG.out], HB3⟩
              case measure => (simp [intOf] <;> omega)
          · obtain rfl : i = n := by omega
            have hg := sh_app S [41]
            have HSS := Lib.hid (show shapeE (.mk k t u l) = S ++ [41] by rw [HSH.out, ← hS, List.take_of_length_le (by rw [HN.out]; exact Nat.le_refl _)])
            clear hlt hS
            go_wp2_with fail
            go_ret
            exact ⟨by rw [HSS.out, ← hg]; rfl, HBB.out⟩
theorem law_shape (x : Ex) : narrowE x → kindsE x = true → (shapeE x).length ≤ 100000 → ∀ (v : Value) (w : World), ExAt (fun _ => True) w x v → Calls Tryz.prog 54 #[v] w (Ret w (.string ⟨(shapeE x).toArray⟩)) := by
  refine Ex.ind (P := fun x => narrowE x → kindsE x = true → (shapeE x).length ≤ 100000 → ∀ (v : Value) (w : World), ExAt (fun _ => True) w x v → Calls Tryz.prog 54 #[v] w (Ret w (.string ⟨(shapeE x).toArray⟩))) (fun k t u l ih hn hk hlen v w hx => ?_) x
  have hl : narrowL l := by unfold narrowE at hn; exact hn.2
  have hl2 : kindsL l = true := by unfold kindsE at hk; rw [Bool.and_eq_true] at hk; exact hk.2
  exact law_shape_step (.mk k t u l) hn hk hlen (fun x' hx' hlen' v W h1 => ih x' hx' (narrow_mem hl hx') (kinds_mem hl2 hx') hlen' v W h1) v w hx
end Go.Proofs.YtehdeclpighdeaaGreatDoor
namespace Go.Proofs.YtehdeclpighdeaaGreatDoor
open Go.RowKit
set_option linter.unusedVariables false
theorem results_seven {fn : Func} {W : World} {tmps : Array Value} {b slot : Nat} {v0 v1 v2 v3 v4 v5 v6 : Value} (h : fn.results = #[.cell slot 24]) (ht : tmps.getD slot undef = .pointer (some ⟨b, 0, none⟩)) (hW : W.heap[b]? = some (.cells #[v0, v1, v2, v3, v4, v5, v6] 24)) :
    (results fn tmps).run Tryz.prog W = .ok (.agg #[v0, v1, v2, v3, v4, v5, v6]) W := by
  obtain ⟨-, -, -, -, -, -, -, y0, y1, y2, y3, y4, y5, y6⟩ := seven_live hW
  have ht2 : tmps[slot]?.getD undef = .pointer (some ⟨b, 0, none⟩) := by rw [← ht]; simp
  simp [results, h, go_sem, ht2, y0, y1, y2, y3, y4, y5, y6]
set_option maxRecDepth 100000 in
theorem test_plain (u : UseI) (w : World) : Calls Tryz.prog 46 #[useIV u] w (Ret w (.agg #[.int .i64 0, .int .i64 0, .string ⟨u.name.toArray⟩, .string ⟨u.key.toArray⟩, .string ⟨u.dft.toArray⟩, .bool u.hk, .bool u.hd])) := by
  go_enter Tryz.func46, Tryz.ntmps46
  go_wp2_with fail
  have HT := Lib.hid (two_new w (.cells #[.int .i64 0, .int .i64 0, .string ⟨u.name.toArray⟩, .string ⟨u.key.toArray⟩, .string ⟨u.dft.toArray⟩, .bool u.hk, .bool u.hd] 24) (.cells #[.int .i64 0, .int .i64 0, .string ⟨u.name.toArray⟩, .string ⟨u.key.toArray⟩, .string ⟨u.dft.toArray⟩, .bool u.hk, .bool u.hd] 24))
  refine bodyPost_ret (v := .agg #[.int .i64 0, .int .i64 0, .string ⟨u.name.toArray⟩, .string ⟨u.key.toArray⟩, .string ⟨u.dft.toArray⟩, .bool u.hk, .bool u.hd]) ?_ rfl ⟨rfl, HT.out.below⟩
  exact results_seven (b := w.heap.size + 1) rfl rfl HT.out.b2
set_option maxRecDepth 100000 in
set_option maxHeartbeats 4000000 in
theorem lib_EqualFunc (l l2 : List Ex) (hlm : l.length ≤ 1000000) (hcb : ∀ x, x ∈ l → ∀ (y : Ex) (v v2 : Value) (W : World), ExAt (fun _ => True) W x v → ExAt (fun _ => True) W y v2 → Calls Tryz.prog 20 #[v, v2] W (Ret W (.bool (sameE x y)))) (a a2 : Option Addr) (c c2 : Nat) (w : World) (hk : KidsAt (fun _ => True) w l (.slice a l.length c)) (hk2 : KidsAt (fun _ => True) w l2 (.slice a2 l2.length c2)) :
    Calls Tryz.prog 47 #[.slice a l.length c, .slice a2 l2.length c2, .func (.func 20) #[] #[]] w (Ret w (.bool (sameL l l2))) := by
  have HCB := Lib.hid hcb
  have HKID := Lib.hid hk
  have HKID2 := Lib.hid hk2
  have HLM := Lib.hid hlm
  clear hcb hk hk2
  go_enter Tryz.func47, Tryz.ntmps47
  go_upto_region 1 with fail
  by_cases hl : l.length = l2.length
  · have HLN := Lib.hid hl
    have hn6 : l2.length ≤ 1000000 := by have := HLM.out; omega
    rw [hl]
    rw [hl] at HKID
    obtain ⟨n, hn⟩ : ∃ n, l2.length = n := ⟨_, rfl⟩
    rw [hn] at HKID HKID2 HLN hn6
    rw [hn]
    have HN2 := Lib.hid hn
    clear hl hn hlm
    go_upto_region 4 with fail
    go_loopw [17] (fun iv wr => ∃ i : Nat, i ≤ n ∧ iv = .int .i64 i ∧ Hid (sameL l l2 = sameL (l.drop i) (l2.drop i)) ∧ Hid (Below w.heap.size w wr)) (fun iv _ => n - (intOf iv).toNat)
    case atStart => exact ⟨0, Nat.zero_le _, rfl, Lib.hid rfl, Lib.hid (Below.refl _ _)⟩
    case round =>
      obtain ⟨i, hi, rfl, HS, HW⟩ := hrel
      by_cases hlt : i < n
      · have i1 : (i : Int) < (n : Int) := by omega
        have i0 : (0 : Int) ≤ (i : Int) := by omega
        obtain ⟨x, hx⟩ : ∃ x, l[i]? = some x := ⟨_, List.getElem?_eq_getElem (by rw [HLN.out]; exact hlt)⟩
        obtain ⟨y, hy⟩ : ∃ y, l2[i]? = some y := ⟨_, List.getElem?_eq_getElem (by rw [HN2.out]; exact hlt)⟩
        have HMEM := Lib.hid (show x ∈ l from List.mem_of_getElem? hx)
        have HST := Lib.hid (sameL_step hx hy)
        obtain ⟨b, o, c', he, hlc, hbl, hrow⟩ := kids_row HKID.out hx
        obtain ⟨b', o', c2', he', hlc', hbl', hrow'⟩ := kids_row HKID2.out hy
        obtain ⟨rfl, rfl⟩ : a = some ⟨b, o, none⟩ ∧ c = c' := by injection he with h1 h2 h3; exact ⟨h1, h3⟩
        obtain ⟨rfl, rfl⟩ : a2 = some ⟨b', o', none⟩ ∧ c2 = c2' := by injection he' with h1 h2 h3; exact ⟨h1, h3⟩
        obtain ⟨k1, t1, u1, a1, n1, c1, hk1⟩ := kid_get hrow hx HW.out hbl
        obtain ⟨k3, t3, u3, a3, n3, c3, hk3⟩ := kid_get hrow' hy HW.out hbl'
        have HK1 := Lib.hid hk1
        have HK3 := Lib.hid hk3
        obtain ⟨q, hq⟩ : ∃ q, sameE x y = q := ⟨_, rfl⟩
        have HCALL := Lib.hid (show ∀ W, Below wr.heap.size wr W → Calls Tryz.prog 20 #[exV k1 t1 u1 (.slice a1 n1 c1), exV k3 t3 u3 (.slice a3 n3 c3)] W (Ret W (.bool q)) from fun W hW => hq ▸ HCB.out x HMEM.out y _ _ _ (hk1.ex ⟨W, hW⟩) (hk3.ex ⟨W, hW⟩))
        have HQ := Lib.hid hq
        clear hq hx hy hrow hrow' hbl hbl' he he' hk1 hk3 hlc hlc'
        have y0 : wr.cell? ⟨b, o + i * 10, none⟩ = _ := HK1.out.c0 ⟨wr, Below.refl _ _⟩
        have y1 : wr.cell? ⟨b, o + i * 10 + 1, none⟩ = _ := HK1.out.c1 ⟨wr, Below.refl _ _⟩
        have y2 : wr.cell? ⟨b, o + i * 10 + 2, none⟩ = _ := HK1.out.c2 ⟨wr, Below.refl _ _⟩
        have y3 : wr.cell? ⟨b, o + i * 10 + 3, none⟩ = _ := HK1.out.c3 ⟨wr, Below.refl _ _⟩
        have y4 : wr.cell? ⟨b, o + i * 10 + 4, none⟩ = _ := HK1.out.c4 ⟨wr, Below.refl _ _⟩
        have y5 : wr.cell? ⟨b, o + i * 10 + 5, none⟩ = _ := HK1.out.c5 ⟨wr, Below.refl _ _⟩
        have y6 : wr.cell? ⟨b, o + i * 10 + 6, none⟩ = _ := HK1.out.c6 ⟨wr, Below.refl _ _⟩
        have y7 : wr.cell? ⟨b, o + i * 10 + 7, none⟩ = _ := HK1.out.c7 ⟨wr, Below.refl _ _⟩
        have y8 : wr.cell? ⟨b, o + i * 10 + 8, none⟩ = _ := HK1.out.c8 ⟨wr, Below.refl _ _⟩
        have y9 : wr.cell? ⟨b, o + i * 10 + 9, none⟩ = _ := HK1.out.c9 ⟨wr, Below.refl _ _⟩
        have z0 : ∀ O, (wr.alloc O).cell? ⟨b', o' + i * 10, none⟩ = _ := fun O => HK3.out.c0 ⟨wr.alloc O, (Below.refl _ _).alloc (Nat.le_refl _) _⟩
        have z1 : ∀ O, (wr.alloc O).cell? ⟨b', o' + i * 10 + 1, none⟩ = _ := fun O => HK3.out.c1 ⟨wr.alloc O, (Below.refl _ _).alloc (Nat.le_refl _) _⟩
        have z2 : ∀ O, (wr.alloc O).cell? ⟨b', o' + i * 10 + 2, none⟩ = _ := fun O => HK3.out.c2 ⟨wr.alloc O, (Below.refl _ _).alloc (Nat.le_refl _) _⟩
        have z3 : ∀ O, (wr.alloc O).cell? ⟨b', o' + i * 10 + 3, none⟩ = _ := fun O => HK3.out.c3 ⟨wr.alloc O, (Below.refl _ _).alloc (Nat.le_refl _) _⟩
        have z4 : ∀ O, (wr.alloc O).cell? ⟨b', o' + i * 10 + 4, none⟩ = _ := fun O => HK3.out.c4 ⟨wr.alloc O, (Below.refl _ _).alloc (Nat.le_refl _) _⟩
        have z5 : ∀ O, (wr.alloc O).cell? ⟨b', o' + i * 10 + 5, none⟩ = _ := fun O => HK3.out.c5 ⟨wr.alloc O, (Below.refl _ _).alloc (Nat.le_refl _) _⟩
        have z6 : ∀ O, (wr.alloc O).cell? ⟨b', o' + i * 10 + 6, none⟩ = _ := fun O => HK3.out.c6 ⟨wr.alloc O, (Below.refl _ _).alloc (Nat.le_refl _) _⟩
        have z7 : ∀ O, (wr.alloc O).cell? ⟨b', o' + i * 10 + 7, none⟩ = _ := fun O => HK3.out.c7 ⟨wr.alloc O, (Below.refl _ _).alloc (Nat.le_refl _) _⟩
        have z8 : ∀ O, (wr.alloc O).cell? ⟨b', o' + i * 10 + 8, none⟩ = _ := fun O => HK3.out.c8 ⟨wr.alloc O, (Below.refl _ _).alloc (Nat.le_refl _) _⟩
        have z9 : ∀ O, (wr.alloc O).cell? ⟨b', o' + i * 10 + 9, none⟩ = _ := fun O => HK3.out.c9 ⟨wr.alloc O, (Below.refl _ _).alloc (Nat.le_refl _) _⟩
        go_wp2_with fail
        refine (HCALL.out _ (two_new wr _ _).below).mono ?_
        rintro e w3 ⟨rfl, hb3⟩
        have HB3 := Lib.hid (HW.out.trans (((two_new wr _ _).below.trans (hb3.mono (two_new wr _ _).below.size)).mono HW.out.size))
        clear hb3 y0 y1 y2 y3 y4 y5 y6 y7 y8 y9 z0 z1 z2 z3 z4 z5 z6 z7 z8 z9
        cases q
        · have HE := Lib.hid (show sameL l l2 = false by rw [HS.out, HST.out, HQ.out]; rfl)
          go_wp2_with fail
          go_ret
          exact ⟨by rw [HE.out]; rfl, HB3.out⟩
        · have HE := Lib.hid (show sameL l l2 = sameL (l.drop (i + 1)) (l2.drop (i + 1)) by rw [HS.out, HST.out, HQ.out]; rfl)
          go_wp2_with fail
          go_roundw
          case rel => exact ⟨i + 1, by omega, by go_num, Lib.hid HE.out, HB3⟩
          case measure => (simp [intOf] <;> omega)
      · obtain rfl : i = n := by omega
        have HE := Lib.hid (show sameL l l2 = true by rw [HS.out]; have := sameL_end (l := l) (l2 := l2) (by rw [HLN.out, HN2.out]); rw [HLN.out] at this; exact this)
        clear hlt
        go_wp2_with fail
        go_ret
        exact ⟨by rw [HE.out]; rfl, HW.out⟩
  · have hl3 : ((l.length : Int) == (l2.length : Int)) = false := by rw [beq_eq_false_iff_ne]; omega
    have HS := Lib.hid (sameL_ne hl)
    clear hl
    go_wp2_with fail
    go_ret
    exact ⟨by rw [HS.out]; rfl, Below.refl _ _⟩
theorem kids_next {w W : World} {l : List Ex} {kv : Value} (h : KidsAt (fun _ => True) w l kv) (hb : Below w.heap.size w W) : KidsAt (fun _ => True) W l kv := by
  have h1 : ExAt (fun _ => True) w (.mk 0 [] noUseI l) (exV 0 [] noUseI kv) := exAt_iff.2 ⟨kv, rfl, h⟩
  obtain ⟨kv2, h2, h3⟩ := exAt_iff.1 (h1.next hb)
  have : kv2 = kv := by
    simp only [exV, Value.agg.injEq, Array.mk.injEq, List.cons.injEq] at h2
    simp_all
  rw [← this]; exact h3
theorem equal_useP (u u2 : UseI) (W : World) : (Op.equalIn 10000 24 (.agg #[.int .i64 0, .int .i64 0, .string ⟨u.name.toArray⟩, .string ⟨u.key.toArray⟩, .string ⟨u.dft.toArray⟩, .bool u.hk, .bool u.hd]) (.agg #[.int .i64 0, .int .i64 0, .string ⟨u2.name.toArray⟩, .string ⟨u2.key.toArray⟩, .string ⟨u2.dft.toArray⟩, .bool u2.hk, .bool u2.hd])).run Tryz.prog W = .ok (useSame u u2) W := by
  simp only [useSame]
  simp [go_sem]
  repeat' split
  all_goals simp_all
set_option maxRecDepth 100000 in
set_option maxHeartbeats 8000000 in
theorem test_Same_step (x y : Ex) (hnar : narrowE x) (ih : ∀ x', x' ∈ x.kids → ∀ (y' : Ex) (v v2 : Value) (W : World), ExAt (fun _ => True) W x' v → ExAt (fun _ => True) W y' v2 → Calls Tryz.prog 20 #[v, v2] W (Ret W (.bool (sameE x' y')))) (v v2 : Value) (w : World) (hx : ExAt (fun _ => True) w x v) (hy : ExAt (fun _ => True) w y v2) :
    Calls Tryz.prog 20 #[v, v2] w (Ret w (.bool (sameE x y))) := by
  obtain ⟨k, t, u, l⟩ := x
  obtain ⟨k2, t2, u2, l2⟩ := y
  have hlm : l.length ≤ 1000000 := by unfold narrowE at hnar; exact hnar.1
  obtain ⟨kv, rfl, hk⟩ := exAt_iff.1 hx
  obtain ⟨kv2, rfl, hk2⟩ := exAt_iff.1 hy
  have hl : ∃ a c, kv = .slice a l.length c := by rcases hk with ⟨rfl, a, c, rfl⟩ | ⟨b, o, c, rfl, _⟩ <;> exact ⟨_, _, rfl⟩
  have hl2 : ∃ a c, kv2 = .slice a l2.length c := by rcases hk2 with ⟨rfl, a, c, rfl⟩ | ⟨b, o, c, rfl, _⟩ <;> exact ⟨_, _, rfl⟩
  obtain ⟨a, c, rfl⟩ := hl
  obtain ⟨a2, c2, rfl⟩ := hl2
  have HT := Lib.hid (ten_two (w := w) (W := w) (k := k) (t := t) (u := u) (kv := .slice a l.length c) (k2 := k2) (t2 := t2) (u2 := u2) (kv2 := .slice a2 l2.length c2) (T := 27))
  have HEQ := Lib.hid (equal_useP u u2)
  obtain ⟨q, hq⟩ : ∃ q, sameL l l2 = q := ⟨_, rfl⟩
  have hef := fun (W : World) (hW : Below w.heap.size w W) => lib_EqualFunc l l2 hlm (fun x' hx' y' v v2 W h1 h2 => ih x' hx' y' v v2 W h1 h2) a a2 c c2 W (kids_next hk hW) (kids_next hk2 hW)
  rw [hq] at hef
  have HQ := Lib.hid hq
  have HEF0 := Lib.hid hef
  clear ih hnar hx hy hk hk2 hef hq hlm
  go_enter Tryz.func20, Tryz.ntmps20
  go_upto_region 1 with fail
  generalize ((w.alloc (.cells (exL k t u (.slice a l.length c)).toArray 27)).alloc (.cells (exL k2 t2 u2 (.slice a2 l2.length c2)).toArray 27)) = W0 at *
  have HB := Lib.hid HT.out.below
  have HB1 := Lib.hid HT.out.b1
  have HB2 := Lib.hid HT.out.b2
  have HEF := Lib.hid (fun B : BW W0 => HEF0.out B.val (HB.out.trans (B.below.mono HB.out.size)))
  have p0 : ∀ B : BW W0, B.val.cell? ⟨w.heap.size, 0, none⟩ = _ := fun B => cell_of_row _ _ 0 _ _ _ ((B.below.block _ (Array.getElem?_eq_some_iff.1 HB1.out).1).trans HB1.out)
  have p1 : ∀ B : BW W0, B.val.cell? ⟨w.heap.size, 1, none⟩ = _ := fun B => cell_of_row _ _ 1 _ _ _ ((B.below.block _ (Array.getElem?_eq_some_iff.1 HB1.out).1).trans HB1.out)
  have p2 : ∀ B : BW W0, B.val.cell? ⟨w.heap.size, 2, none⟩ = _ := fun B => cell_of_row _ _ 2 _ _ _ ((B.below.block _ (Array.getElem?_eq_some_iff.1 HB1.out).1).trans HB1.out)
  have p3 : ∀ B : BW W0, B.val.cell? ⟨w.heap.size, 3, none⟩ = _ := fun B => cell_of_row _ _ 3 _ _ _ ((B.below.block _ (Array.getElem?_eq_some_iff.1 HB1.out).1).trans HB1.out)
  have p4 : ∀ B : BW W0, B.val.cell? ⟨w.heap.size, 4, none⟩ = _ := fun B => cell_of_row _ _ 4 _ _ _ ((B.below.block _ (Array.getElem?_eq_some_iff.1 HB1.out).1).trans HB1.out)
  have p5 : ∀ B : BW W0, B.val.cell? ⟨w.heap.size, 5, none⟩ = _ := fun B => cell_of_row _ _ 5 _ _ _ ((B.below.block _ (Array.getElem?_eq_some_iff.1 HB1.out).1).trans HB1.out)
  have p6 : ∀ B : BW W0, B.val.cell? ⟨w.heap.size, 6, none⟩ = _ := fun B => cell_of_row _ _ 6 _ _ _ ((B.below.block _ (Array.getElem?_eq_some_iff.1 HB1.out).1).trans HB1.out)
  have p7 : ∀ B : BW W0, B.val.cell? ⟨w.heap.size, 7, none⟩ = _ := fun B => cell_of_row _ _ 7 _ _ _ ((B.below.block _ (Array.getElem?_eq_some_iff.1 HB1.out).1).trans HB1.out)
  have p8 : ∀ B : BW W0, B.val.cell? ⟨w.heap.size, 8, none⟩ = _ := fun B => cell_of_row _ _ 8 _ _ _ ((B.below.block _ (Array.getElem?_eq_some_iff.1 HB1.out).1).trans HB1.out)
  have p9 : ∀ B : BW W0, B.val.cell? ⟨w.heap.size, 9, none⟩ = _ := fun B => cell_of_row _ _ 9 _ _ _ ((B.below.block _ (Array.getElem?_eq_some_iff.1 HB1.out).1).trans HB1.out)
  have r0 : ∀ B : BW W0, B.val.cell? ⟨w.heap.size + 1, 0, none⟩ = _ := fun B => cell_of_row _ _ 0 _ _ _ ((B.below.block _ (Array.getElem?_eq_some_iff.1 HB2.out).1).trans HB2.out)
  have r1 : ∀ B : BW W0, B.val.cell? ⟨w.heap.size + 1, 1, none⟩ = _ := fun B => cell_of_row _ _ 1 _ _ _ ((B.below.block _ (Array.getElem?_eq_some_iff.1 HB2.out).1).trans HB2.out)
  have r2 : ∀ B : BW W0, B.val.cell? ⟨w.heap.size + 1, 2, none⟩ = _ := fun B => cell_of_row _ _ 2 _ _ _ ((B.below.block _ (Array.getElem?_eq_some_iff.1 HB2.out).1).trans HB2.out)
  have r3 : ∀ B : BW W0, B.val.cell? ⟨w.heap.size + 1, 3, none⟩ = _ := fun B => cell_of_row _ _ 3 _ _ _ ((B.below.block _ (Array.getElem?_eq_some_iff.1 HB2.out).1).trans HB2.out)
  have r4 : ∀ B : BW W0, B.val.cell? ⟨w.heap.size + 1, 4, none⟩ = _ := fun B => cell_of_row _ _ 4 _ _ _ ((B.below.block _ (Array.getElem?_eq_some_iff.1 HB2.out).1).trans HB2.out)
  have r5 : ∀ B : BW W0, B.val.cell? ⟨w.heap.size + 1, 5, none⟩ = _ := fun B => cell_of_row _ _ 5 _ _ _ ((B.below.block _ (Array.getElem?_eq_some_iff.1 HB2.out).1).trans HB2.out)
  have r6 : ∀ B : BW W0, B.val.cell? ⟨w.heap.size + 1, 6, none⟩ = _ := fun B => cell_of_row _ _ 6 _ _ _ ((B.below.block _ (Array.getElem?_eq_some_iff.1 HB2.out).1).trans HB2.out)
  have r7 : ∀ B : BW W0, B.val.cell? ⟨w.heap.size + 1, 7, none⟩ = _ := fun B => cell_of_row _ _ 7 _ _ _ ((B.below.block _ (Array.getElem?_eq_some_iff.1 HB2.out).1).trans HB2.out)
  have r8 : ∀ B : BW W0, B.val.cell? ⟨w.heap.size + 1, 8, none⟩ = _ := fun B => cell_of_row _ _ 8 _ _ _ ((B.below.block _ (Array.getElem?_eq_some_iff.1 HB2.out).1).trans HB2.out)
  have r9 : ∀ B : BW W0, B.val.cell? ⟨w.heap.size + 1, 9, none⟩ = _ := fun B => cell_of_row _ _ 9 _ _ _ ((B.below.block _ (Array.getElem?_eq_some_iff.1 HB2.out).1).trans HB2.out)
  haveI : Nonempty (BW W0) := ⟨⟨W0, Below.refl _ _⟩⟩
  clear HT
  by_cases h1 : k = k2
  · subst h1
    by_cases h2 : t = t2
    · subst h2
      have heq := HEQ.out
      cases hu : useSame u u2
      · rw [hu] at heq
        refine wp_region_last_lit 28 (fun B : BW W0 => B.val) ⟨W0.drew, below_drewn (Below.refl _ _)⟩ rfl (by kernel_rfl) (by rfl) (by rfl) (by kernel_rfl) (by kernel_rfl) (by kernel_rfl) ?_
        simp only [List.take_succ_cons, List.take_zero]
        repeat (quiet_step ((first
          | (go_at_call 46; refine (test_plain u _).mono ?_; rintro e v1 ⟨rfl, hb1⟩; exact ⟨rfl, ⟨v1, BW.next _ hb1⟩, rfl⟩)
          | (go_at_call 46; refine (test_plain u2 _).mono ?_; rintro e v1 ⟨rfl, hb1⟩; exact ⟨rfl, ⟨v1, BW.next _ hb1⟩, rfl⟩)
          | (go_at_call 47; refine (HEF.out _).mono ?_; rintro e v1 ⟨rfl, hb1⟩; exact ⟨rfl, ⟨v1, BW.next _ hb1⟩, rfl⟩))))
        refine wpQuiet_nil ?_
        rintro w' ⟨B, rfl⟩
        rw [if_pos (by rfl)]
        have HBE := Lib.hid (HB.out.trans (B.below.mono HB.out.size))
        go_simp
        go_wp2_with fail
        go_ret
        exact ⟨by rw [sameE_mk, hu]; simp, HBE.out⟩
      · rw [hu] at heq
        refine wp_region_last_lit 28 (fun B : BW W0 => B.val) ⟨W0.drew, below_drewn (Below.refl _ _)⟩ rfl (by kernel_rfl) (by rfl) (by rfl) (by kernel_rfl) (by kernel_rfl) (by kernel_rfl) ?_
        simp only [List.take_succ_cons, List.take_zero]
        repeat (quiet_step ((first
          | (go_at_call 46; refine (test_plain u _).mono ?_; rintro e v1 ⟨rfl, hb1⟩; exact ⟨rfl, ⟨v1, BW.next _ hb1⟩, rfl⟩)
          | (go_at_call 46; refine (test_plain u2 _).mono ?_; rintro e v1 ⟨rfl, hb1⟩; exact ⟨rfl, ⟨v1, BW.next _ hb1⟩, rfl⟩)
          | (go_at_call 47; refine (HEF.out _).mono ?_; rintro e v1 ⟨rfl, hb1⟩; exact ⟨rfl, ⟨v1, BW.next _ hb1⟩, rfl⟩))))
        refine wpQuiet_nil ?_
        rintro w' ⟨B, rfl⟩
        rw [if_pos (by rfl)]
        have HBE := Lib.hid (HB.out.trans (B.below.mono HB.out.size))
        go_simp
        go_wp2_with fail
        go_ret
        exact ⟨by rw [sameE_mk, hu, HQ.out]; simp, HBE.out⟩
    · have h2b : (t == t2) = false := by rw [beq_eq_false_iff_ne]; exact h2
      have H2 := Lib.hid h2b
      clear h2
      refine wp_region_last_lit 28 (fun B : BW W0 => B.val) ⟨W0.drew, below_drewn (Below.refl _ _)⟩ rfl (by kernel_rfl) (by rfl) (by rfl) (by kernel_rfl) (by kernel_rfl) (by kernel_rfl) ?_
      simp only [List.take_succ_cons, List.take_zero]
      repeat (quiet_step ((first
        | (go_at_call 46; refine (test_plain u _).mono ?_; rintro e v1 ⟨rfl, hb1⟩; exact ⟨rfl, ⟨v1, BW.next _ hb1⟩, rfl⟩)
        | (go_at_call 46; refine (test_plain u2 _).mono ?_; rintro e v1 ⟨rfl, hb1⟩; exact ⟨rfl, ⟨v1, BW.next _ hb1⟩, rfl⟩)
        | (go_at_call 47; refine (HEF.out _).mono ?_; rintro e v1 ⟨rfl, hb1⟩; exact ⟨rfl, ⟨v1, BW.next _ hb1⟩, rfl⟩))))
      refine wpQuiet_nil ?_
      rintro w' ⟨B, rfl⟩
      rw [if_pos (by rfl)]
      have HBE := Lib.hid (HB.out.trans (B.below.mono HB.out.size))
      go_simp
      go_wp2_with fail
      go_ret
      exact ⟨by rw [sameE_mk, H2.out]; simp, HBE.out⟩
  · have h1b : (k == k2) = false := by rw [beq_eq_false_iff_ne]; exact h1
    have H1 := Lib.hid (decide_eq_false h1)
    clear h1
    refine wp_region_last_lit 28 (fun B : BW W0 => B.val) ⟨W0.drew, below_drewn (Below.refl _ _)⟩ rfl (by kernel_rfl) (by rfl) (by rfl) (by kernel_rfl) (by kernel_rfl) (by kernel_rfl) ?_
    simp only [List.take_succ_cons, List.take_zero]
    repeat (quiet_step ((first
      | (go_at_call 46; refine (test_plain u _).mono ?_; rintro e v1 ⟨rfl, hb1⟩; exact ⟨rfl, ⟨v1, BW.next _ hb1⟩, rfl⟩)
      | (go_at_call 46; refine (test_plain u2 _).mono ?_; rintro e v1 ⟨rfl, hb1⟩; exact ⟨rfl, ⟨v1, BW.next _ hb1⟩, rfl⟩)
      | (go_at_call 47; refine (HEF.out _).mono ?_; rintro e v1 ⟨rfl, hb1⟩; exact ⟨rfl, ⟨v1, BW.next _ hb1⟩, rfl⟩))))
    refine wpQuiet_nil ?_
    rintro w' ⟨B, rfl⟩
    rw [if_pos (by rfl)]
    have HBE := Lib.hid (HB.out.trans (B.below.mono HB.out.size))
    go_simp
    go_wp2_with fail
    go_ret
    exact ⟨by rw [sameE_mk, H1.out]; simp, HBE.out⟩
theorem test_Same (x : Ex) : narrowE x → ∀ (y : Ex) (v v2 : Value) (w : World), ExAt (fun _ => True) w x v → ExAt (fun _ => True) w y v2 → Calls Tryz.prog 20 #[v, v2] w (Ret w (.bool (sameE x y))) := by
  refine Ex.ind (P := fun x => narrowE x → ∀ (y : Ex) (v v2 : Value) (w : World), ExAt (fun _ => True) w x v → ExAt (fun _ => True) w y v2 → Calls Tryz.prog 20 #[v, v2] w (Ret w (.bool (sameE x y)))) (fun k t u l ih hn y v v2 w hx hy => ?_) x
  have hl : narrowL l := by unfold narrowE at hn; exact hn.2
  exact test_Same_step (.mk k t u l) y hn (fun x' hx' y' v v2 W h1 h2 => ih x' hx' (narrow_mem hl hx') y' v v2 W h1 h2) v v2 w hx hy
end Go.Proofs.YtehdeclpighdeaaGreatDoor
namespace Go.Proofs.YtehdeclpighdeaaGreatDoor
open Go.RowKit
set_option linter.unusedVariables false
set_option maxRecDepth 100000 in
set_option maxHeartbeats 4000000 in
theorem law27_is (s want : Bs) (w : World) (hG : Good w) (hs : s.length ≤ 100000) (h1 : (testB s).2.1 = 0) (h2 : (testB s).2.2 = 0) (h3 : shapeE (testB s).1 = want) (h4 : kindsE (testB s).1 = true) (h5 : want.length ≤ 100000) :
    Calls Tryz.prog 23 #[.string ⟨s.toArray⟩, .string ⟨want.toArray⟩] w (Ret w (.bool true)) := by
  have HNR := Lib.hid (testB_narrow s)
  go_enter Tryz.func23, Tryz.ntmps23
  go_wp2_with fail
  refine (test_Parse w s hs hG).mono ?_
  rintro e w1 ⟨v, rfl, hb, hx⟩
  rw [h1, h2]
  obtain ⟨X, hX⟩ : ∃ X, (testB s).1 = X := ⟨_, rfl⟩
  rw [hX] at hx h3 h4 HNR
  obtain ⟨k, t, u, a, n, c, rfl⟩ := hx.out.ten
  have hA : Below w1.heap.size w1 (w1.alloc (.cells (exL k t u (.slice a n c)).toArray 27)) := (Below.refl _ _).alloc (Nat.le_refl _) _
  have HX := Lib.hid ((hx.out.next hA).any)
  have HB := Lib.hid (hb.trans (hA.mono hb.size))
  have HN := Lib.hid (heap_alloc_new w1 (.cells (exL k t u (.slice a n c)).toArray 27))
  have H3 := Lib.hid h3
  have H4 := Lib.hid h4
  have H5 := Lib.hid h5
  clear h1 h2 h3 h4 h5 hX hx hb hA
  go_upto_region 2 with fail
  generalize w1.alloc (.cells (exL k t u (.slice a n c)).toArray 27) = W1 at *
  obtain ⟨p0, p1, p2, p3, p4, p5, p6, p7, p8, p9⟩ := ten_cells HN.out
  go_wp2_with fail
  refine (law_shape X HNR.out H4.out (by rw [H3.out]; exact H5.out) _ W1 HX.out).mono ?_
  rintro e w2 ⟨rfl, hb2⟩
  rw [H3.out]
  have HB2 := Lib.hid (HB.out.trans (hb2.mono HB.out.size))
  clear hb2 p0 p1 p2 p3 p4 p5 p6 p7 p8 p9
  go_wp2_with fail
  go_ret
  exact ⟨rfl, HB2.out⟩
set_option maxRecDepth 100000 in
set_option maxHeartbeats 4000000 in
theorem law27_fails (s : Bs) (at' : Nat) (e' : Int) (w : World) (hG : Good w) (hs : s.length ≤ 100000) (h1 : testB s = (noEx, at', e')) :
    Calls Tryz.prog 22 #[.string ⟨s.toArray⟩, .int .i64 (at' : Int), .int .i64 e'] w (Ret w (.bool true)) := by
  go_enter Tryz.func22, Tryz.ntmps22
  go_wp2_with fail
  refine (test_Parse w s hs hG).mono ?_
  rintro e w1 ⟨v, rfl, hb, hx⟩
  rw [h1]
  rw [h1] at hx
  obtain ⟨k, t, u, a, n, c, rfl⟩ := hx.out.ten
  have hA : Below w1.heap.size w1 (w1.alloc (.cells (exL k t u (.slice a n c)).toArray 27)) := (Below.refl _ _).alloc (Nat.le_refl _) _
  have HX := Lib.hid ((hx.out.next hA).any)
  have HB := Lib.hid (hb.trans (hA.mono hb.size))
  have HN := Lib.hid (heap_alloc_new w1 (.cells (exL k t u (.slice a n c)).toArray 27))
  clear h1 hx hb hA
  go_upto_region 2 with fail
  generalize w1.alloc (.cells (exL k t u (.slice a n c)).toArray 27) = W1 at *
  obtain ⟨p0, p1, p2, p3, p4, p5, p6, p7, p8, p9⟩ := ten_cells HN.out
  go_wp2_with fail
  refine (test_Same noEx (narrow_leaf 0 [] noUseI) noEx _ _ W1 HX.out (show ExAt (fun _ => True) W1 noEx (exV 0 [] noUseI (.slice none 0 0)) from noEx_at _ _)).mono ?_
  rintro e w2 ⟨rfl, hb2⟩
  rw [sameE_refl]
  have HB2 := Lib.hid (HB.out.trans (hb2.mono HB.out.size))
  clear hb2 p0 p1 p2 p3 p4 p5 p6 p7 p8 p9
  go_wp2_with fail
  go_ret
  exact ⟨rfl, HB2.out⟩
set_option maxRecDepth 100000 in
set_option maxHeartbeats 4000000 in
theorem law27_awake (w : World) (hG : Good w) : Calls Tryz.prog 11 #[] w (Ret w (.bool true)) := by
  go_enter Tryz.func11, Tryz.ntmps11
  go_wp2_with fail
  refine (law27_is [49, 61, 61, 50, 32, 124, 32, 33, 36, 40, 72, 84, 84, 80, 95, 72, 79, 83, 84, 41, 32, 38, 32, 39, 97, 32, 98, 39] [65, 40, 68, 40, 49, 44, 50, 41, 44, 66, 40, 67, 40, 72, 84, 84, 80, 95, 72, 79, 83, 84, 41, 44, 97, 32, 98, 41, 41] w hG (by decide) (by kernel_rfl) (by kernel_rfl) (by kernel_rfl) (by kernel_rfl) (by decide)).mono ?_
  rintro e w1 ⟨rfl, hb1⟩
  have HB1 := Lib.hid hb1
  have HG1 := Lib.hid (hG.next hb1)
  clear hb1
  go_wp2_with fail
  refine (law27_fails [49, 32, 61, 61, 32] 5 15 w1 HG1.out (by decide) (by kernel_rfl)).mono ?_
  rintro e w2 ⟨rfl, hb2⟩
  have HB2 := Lib.hid (HB1.out.trans (hb2.mono HB1.out.size))
  have HG2 := Lib.hid (HG1.out.next hb2)
  clear hb2
  go_wp2_with fail
  refine (law27_is [33, 49, 61, 61, 50] [67, 40, 68, 40, 49, 44, 50, 41, 41] w2 HG2.out (by decide) (by kernel_rfl) (by kernel_rfl) (by kernel_rfl) (by kernel_rfl) (by decide)).mono ?_
  rintro e w3 ⟨rfl, hb3⟩
  have HB3 := Lib.hid (HB2.out.trans (hb3.mono HB2.out.size))
  clear hb3
  go_wp2_with fail
  go_ret
  exact ⟨rfl, HB3.out⟩
end Go.Proofs.YtehdeclpighdeaaGreatDoor
