/- The law KeyGone: the keys that go when any reply came for any address are the document's. -/
import Derived.Test.YtmkpejioinkceaaGreatDoorRefGone
import Derived.Test.YtmkpejioinkceaaGreatDoorKeyAwake
import Derived.Test.YtmkpejioinkceaaGreatDoorKeyLong
import Derived.Deep.RegionHeld3
namespace Go.Proofs.YtmkpejioinkceaaGreatDoor
open Go.RowKit
set_option linter.unusedVariables false

/-- The address and the reply where they lie. -/
structure KG (w W : World) (u : U) (st mn : Int) (m bd : ByteArray) (a : Option Addr) (n c : Nat) (fs : List Fld) : Prop where
  below : Below w.heap.size w W
  ub : UBx W w.heap.size u
  rb : W.heap[w.heap.size + 1]? = some (repObj st m mn a n c bd)
  fat : FieldsAt W (.slice a n c) fs
theorem KG.next {w W W' : World} {u : U} {st mn : Int} {m bd : ByteArray} {a : Option Addr} {n c : Nat} {fs : List Fld} (h : KG w W u st mn m bd a n c fs) (hb : Below W.heap.size W W') : KG w W' u st mn m bd a n c fs :=
  ⟨h.below.trans (hb.mono h.below.size), h.ub.next hb, (hb.block _ (lt_of_at h.rb)).trans h.rb, h.fat.below hb⟩
abbrev SixR (b : Nat) (u : U) (r : Nat) (st mn : Int) (m bd : ByteArray) (a : Option Addr) (n c : Nat) (w' : World) : Prop :=
  SixU b u w' ∧ w'.cell? ⟨r, 0, none⟩ = some (.int .i64 st) ∧ w'.cell? ⟨r, 1, none⟩ = some (.string m) ∧ w'.cell? ⟨r, 2, none⟩ = some (.int .i64 mn) ∧ w'.cell? ⟨r, 3, none⟩ = some (.slice a n c) ∧ w'.cell? ⟨r, 4, none⟩ = some (.string bd)
theorem KG.six {w W : World} {u : U} {st mn : Int} {m bd : ByteArray} {a : Option Addr} {n c : Nat} {fs : List Fld} (h : KG w W u st mn m bd a n c fs) : SixR w.heap.size u (w.heap.size + 1) st mn m bd a n c W :=
  ⟨h.ub.six, cell_of_row _ _ 0 _ _ _ h.rb, cell_of_row _ _ 1 _ _ _ h.rb, cell_of_row _ _ 2 _ _ _ h.rb, cell_of_row _ _ 3 _ _ _ h.rb, cell_of_row _ _ 4 _ _ _ h.rb⟩
theorem ref17_Gone (u : U) (st mn : Int) (m bd : ByteArray) (a : Option Addr) (n c : Nat) (fs : List Fld) (w : World) (hl : LimU u) (hF : FieldsAt w (.slice a n c) fs) (hlim : Lim fs) :
    Calls Tryz.prog 17 #[uV u, .agg #[.int .i64 st, .string m, .int .i64 mn, .slice a n c, .string bd]] w (RetStrs w (goneB u st fs)) := by
  cases hok : goneOk u st
  · rw [gone_no hok]; exact ref17_Gone_no u st mn m bd a n c w hl hok
  · exact ref17_Gone_yes u st mn m bd a n c fs w hl hF hlim hok

set_option maxRecDepth 100000 in
set_option maxHeartbeats 2000000 in
theorem law17_KeyGone (u : U) (st mn : Int) (m bd : ByteArray) (a : Option Addr) (n c : Nat) (fs : List Fld) (w : World) (hg : GX w) (hu : BigU u) (hF : FieldsAt w (.slice a n c) fs) (hs : ∀ f ∈ fs, f.1.length ≤ 140737488355328 ∧ f.2.length ≤ 140737488355328) (hlen : fs.length ≤ 140737488355328) :
    Calls Tryz.prog 4 #[uV u, .agg #[.int .i64 st, .string m, .int .i64 mn, .slice a n c, .string bd]] w (Ret w (.bool true)) := by
  have HT := two_new w (.cells #[.string ⟨u.scheme.toArray⟩, .string ⟨u.host.toArray⟩, .int .i64 u.port, .string ⟨u.path.toArray⟩, .string ⟨u.query.toArray⟩, .bool u.hq] 23) (.cells #[.int .i64 st, .string m, .int .i64 mn, .slice a n c, .string bd] 31)
  have HK := Lib.hid (show KG w _ u st mn m bd a n c fs from ⟨HT.below, HT.b1, HT.b2, hF.below HT.below⟩)
  have HG := Lib.hid hg
  have HU := Lib.hid hu
  have HS := Lib.hid hs
  have HN := Lib.hid hlen
  clear HT hg hu hF hs hlen
  obtain ⟨⟨c0, c1, c2, c3, c4, c5⟩, -⟩ := HK.out.six
  go_enter Tryz.func4, Tryz.ntmps4
  go_wp2_with fail
  generalize (w.alloc (.cells #[.string ⟨u.scheme.toArray⟩, .string ⟨u.host.toArray⟩, .int .i64 u.port, .string ⟨u.path.toArray⟩, .string ⟨u.query.toArray⟩, .bool u.hq] 23)).alloc (.cells #[.int .i64 st, .string m, .int .i64 mn, .slice a n c, .string bd] 31) = W at *
  refine (law17_long u W HU.out).mono ?_
  rintro e w1 ⟨rfl, hb1⟩
  have HK1 := Lib.hid (HK.out.next hb1)
  clear hb1 c0 c1 c2 c3 c4 c5
  rcases hl : longU u with _ | _
  · have HL := Lib.hid (not_long hl)
    have r3 := HK1.out.six.2.2.2.2.1
    go_wp2_with fail
    refine (law17_few a n c fs w1 HK1.out.fat HS.out HN.out).mono ?_
    rintro e w2 ⟨rfl, hb2⟩
    have HK2 := Lib.hid (HK1.out.next hb2)
    clear hb2 r3
    rcases hfw : kfew fs with _ | _
    · go_wp2_with fail
      refine (law17_awake w2 (HG.out.next HK2.out.below)).mono ?_
      rintro e w3 ⟨rfl, hb3⟩
      have HK3 := Lib.hid (HK2.out.next hb3)
      clear hb3
      go_wp2_with fail
      go_ret
      exact ⟨rfl, HK3.out.below⟩
    · have HM := Lib.hid (kfew_ok hfw)
      have HSd := Lib.hid (show SixR w.heap.size u (w.heap.size + 1) st mn m bd a n c w2.drew from HK2.out.six)
      have HKd := Lib.hid (show KG w w2.drew u st mn m bd a n c fs from HK2.out.next ((Below.refl _ _).drew))
      have HLen := Lib.hid (gone_len u st (fs := fs) (by have := (kfew_lim hfw).1; omega))
      go_wp2_with fail
      go_region_held3 (SixR w.heap.size u (w.heap.size + 1) st mn m bd a n c) (with_reducible exact HSd.out)
        (first
          | (go_at_call 16; (with_reducible refine (key_Gone u st mn m bd a n c fs _ (HG.out.next HKd.out.below) HL.out HKd.out.fat HM.out).mono ?_); rintro e wy ⟨v1, rfl, hown1, hby⟩; have HA1 := Lib.hid (StrsAt.of_own hown1); (try have HA2 := Lib.hid (HA2.out.below hby)); have HKd := Lib.hid (HKd.out.next hby); have HSd := Lib.hid HKd.out.six; clear hby hown1)
          | (go_at_call 17; (with_reducible refine (ref17_Gone u st mn m bd a n c fs _ HL.out HKd.out.fat HM.out).mono ?_); rintro e wy ⟨v2, rfl, hown2, hby⟩; have HA2 := Lib.hid (StrsAt.of_own hown2); (try have HA1 := Lib.hid (HA1.out.below hby)); have HKd := Lib.hid (HKd.out.next hby); have HSd := Lib.hid HKd.out.six; clear hby hown2)
          | (go_at_call 15; (with_reducible refine (ref01_Texts _ _ (goneB u st fs) _ HA1.out HA2.out (by have := HLen.out.many; omega)).mono ?_); rintro e wy ⟨rfl, hby⟩; have HKd := Lib.hid (HKd.out.next hby); have HSd := Lib.hid HKd.out.six; clear hby)
          | (go_at_call 9; (with_reducible refine (law17_awake _ (HG.out.next HKd.out.below)).mono ?_); rintro e wy ⟨rfl, hby⟩; have HKd := Lib.hid (HKd.out.next hby); have HSd := Lib.hid HKd.out.six; clear hby))
      all_goals
        go_wp2_with fail
        go_ret
        exact ⟨rfl, HKd.out.below⟩
  · go_wp2_with fail
    refine (law17_awake w1 (HG.out.next HK1.out.below)).mono ?_
    rintro e w3 ⟨rfl, hb3⟩
    have HK3 := Lib.hid (HK1.out.next hb3)
    clear hb3
    go_wp2_with fail
    go_ret
    exact ⟨rfl, HK3.out.below⟩
end Go.Proofs.YtmkpejioinkceaaGreatDoor
