/- strings.SplitSeq's contract. -/
import Derived.Test.YtehdeclpighdeaaGreatDoorKSplit
namespace Go.Proofs.YtehdeclpighdeaaGreatDoor
open Go.RowKit Go.Shelf
set_option linter.unusedVariables false
theorem Stays.refl (n bs : Nat) (A : World) : Stays n bs A A := ⟨rfl, rfl, rfl, Nat.le_refl _, fun _ _ _ => rfl⟩
theorem Stays.trans {n bs : Nat} {A B C : World} (h : Stays n bs A B) (k : Stays n bs B C) : Stays n bs A C :=
  ⟨k.os.trans h.os, k.tape.trans h.tape, k.output.trans h.output, Nat.le_trans h.size k.size, fun i hi hn => (k.block i hi hn).trans (h.block i hi hn)⟩
theorem Stays.below {n bs m : Nat} {w A B : World} (h : Stays n bs A B) (hb : Below m w A) (hm : m ≤ n) (hbs : m ≤ bs) : Below m w B :=
  ⟨h.os.trans hb.os, h.tape.trans hb.tape, h.output.trans hb.output, Nat.le_trans hb.size h.size, fun k hk => (h.block k (by omega) (by omega)).trans (hb.block k hk)⟩
theorem lib_SplitSeq (s : Bs) (c : UInt8) (w : World) :
    Calls Tryz.prog 164 #[.string ⟨s.toArray⟩, .string ⟨#[c]⟩] w fun e w' =>
      e = .returned (.func (.func 184) #[] #[.pointer (some ⟨w.heap.size + 1, 0, none⟩), .pointer (some ⟨w.heap.size, 0, none⟩), .pointer (some ⟨w.heap.size + 1 + 1, 0, none⟩)]) ∧
      Iter w' w.heap.size (w.heap.size + 1) (w.heap.size + 1 + 1) s c ∧ w'.heap.size = w.heap.size + 1 + 1 + 1 ∧ Below w.heap.size w w' := by
  have hb1 := (Below.refl w.heap.size w).alloc (Nat.le_refl _) (.cells #[.string ⟨s.toArray⟩] 9)
  have hb2 := hb1.alloc hb1.size (.cells #[.string ⟨#[c]⟩] 9)
  have hb3 := hb2.alloc hb2.size (.cells #[.int .i64 0] 3)
  have n1 : (w.alloc (.cells #[.string ⟨s.toArray⟩] 9)).heap[w.heap.size]? = some (.cells #[.string ⟨s.toArray⟩] 9) := World.alloc_heap_new w _
  have n2 := World.alloc_heap_new (w.alloc (.cells #[.string ⟨s.toArray⟩] 9)) (.cells #[.string ⟨#[c]⟩] 9)
  have n3 := World.alloc_heap_new ((w.alloc (.cells #[.string ⟨s.toArray⟩] 9)).alloc (.cells #[.string ⟨#[c]⟩] 9)) (.cells #[.int .i64 0] 3)
  simp only [World.size_alloc] at n2 n3
  have hI : Iter (((w.alloc (.cells #[.string ⟨s.toArray⟩] 9)).alloc (.cells #[.string ⟨#[c]⟩] 9)).alloc (.cells #[.int .i64 0] 3)) w.heap.size (w.heap.size + 1) (w.heap.size + 1 + 1) s c :=
    ⟨(Below.heap_alloc _ _ _ (by simp; omega)).trans ((Below.heap_alloc _ _ _ (by simp)).trans n1), (Below.heap_alloc _ _ _ (by simp)).trans n2, n3⟩
  have HI := Lib.hid hI
  clear hI n1 n2 n3 hb1 hb2
  have HB := Lib.hid hb3
  clear hb3
  go_enter Tryz.func164, Tryz.ntmps164
  go_wp2
  go_ret
  exact ⟨rfl, HI.out, by simp, HB.out⟩
end Go.Proofs.YtehdeclpighdeaaGreatDoor
