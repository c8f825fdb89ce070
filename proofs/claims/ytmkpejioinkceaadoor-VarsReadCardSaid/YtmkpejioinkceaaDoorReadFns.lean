/- VarsRead's own functions: the name of the field of which a variable is made; whether a variable is the same of two requests. -/
import Derived.Test.YtmkpejioinkceaaDoorNine
import Derived.Test.YtmkpejioinkceaaDoorSource
import Derived.Test.YtmkpejioinkceaaDoorReadPlain
import Derived.Deep.RegionHeld3
namespace Go.Proofs.YtmkpejioinkceaaDoor
open Go.RowKit
set_option linter.unusedVariables false

theorem field_is (name key : Bs) (has : Bool) : (bif Lib.hasPrefix (vsource name key has) cookieDot then cookieName else vsource name key has) = vsrc name := by
  cases h : Lib.hasPrefix (vsource name key has) cookieDot
  · rw [cond_false]; exact field_no name key has h
  · rw [cond_true]; exact (field_yes name key has h).symm
set_option maxRecDepth 100000 in
theorem law_field (host name key : ByteArray) (has : Bool) (w : World) (hk : key.size ≤ 100000) :
    Calls Tryd.prog 6 #[.agg #[.string host, .string name, .string key, .bool has]] w (Ret w (.string ⟨(vsrc name.data.toList).toArray⟩)) := by
  have HI := Lib.hid (field_is name.data.toList key.data.toList has)
  have HW := Lib.hid ((Below.refl w.heap.size w).alloc (Nat.le_refl _) (.cells #[.string host, .string name, .string key, .bool has] 26))
  go_enter Tryd.func6, Tryd.ntmps6
  go_wp2_with fail
  generalize w.alloc (.cells #[.string host, .string name, .string key, .bool has] 26) = W at *
  refine (vars_Source name key has W (by omega)).mono ?_
  rintro e w1 ⟨rfl, hb1⟩
  have HW1 := Lib.hid (HW.out.trans (hb1.mono HW.out.size))
  clear hb1
  generalize vsource name.data.toList key.data.toList has = s at *
  go_wp2_with fail
  refine (lib_HasPrefix ⟨s.toArray⟩ ⟨#[99, 111, 111, 107, 105, 101, 46]⟩ w1).mono ?_
  rintro e w2 ⟨rfl, rfl⟩
  rw [show Lib.hasPrefix (⟨s.toArray⟩ : ByteArray).data.toList (⟨#[99, 111, 111, 107, 105, 101, 46]⟩ : ByteArray).data.toList = Lib.hasPrefix s cookieDot from rfl]
  cases hp : Lib.hasPrefix s cookieDot
  · rw [hp] at HI
    go_wp2_with fail
    go_ret
    exact ⟨by rw [← HI.out]; rfl, HW1.out⟩
  · rw [hp] at HI
    go_wp2_with fail
    go_ret
    exact ⟨by rw [← HI.out]; rfl, HW1.out⟩

abbrev reqObj (m t : ByteArray) (mn : Int) (v : Value) (bd : ByteArray) : Obj := .cells #[.string m, .string t, .int .i64 mn, v, .string bd] 24
abbrev askObj (host name key : ByteArray) (has : Bool) : Obj := .cells #[.string host, .string name, .string key, .bool has] 26
structure Three (w W : World) (o1 o2 o3 : Obj) : Prop where
  b1 : W.heap[w.heap.size]? = some o1
  b2 : W.heap[w.heap.size + 1]? = some o2
  b3 : W.heap[w.heap.size + 1 + 1]? = some o3
  size : W.heap.size = w.heap.size + 1 + 1 + 1
  below : Below w.heap.size w W
theorem three_new (w : World) (o1 o2 o3 : Obj) : Three w (((w.alloc o1).alloc o2).alloc o3) o1 o2 o3 := by
  have h := two_new w o1 o2
  have n3 := heap_alloc_new ((w.alloc o1).alloc o2) o3
  rw [h.size] at n3
  have hs : (((w.alloc o1).alloc o2).alloc o3).heap.size = w.heap.size + 1 + 1 + 1 := by rw [World.size_alloc, h.size]
  exact ⟨(Below.heap_alloc _ _ _ (by rw [h.size]; omega)).trans h.b1, (Below.heap_alloc _ _ _ (by rw [h.size]; omega)).trans h.b2, n3, hs, h.below.alloc h.below.size o3⟩
theorem ask4 {W : World} {b : Nat} {host name key : ByteArray} {has : Bool} (h : W.heap[b]? = some (askObj host name key has)) : W.cell? ⟨b, 0, none⟩ = some (.string host) ∧ W.cell? ⟨b, 1, none⟩ = some (.string name) ∧ W.cell? ⟨b, 2, none⟩ = some (.string key) ∧ W.cell? ⟨b, 3, none⟩ = some (.bool has) :=
  ⟨cell_of_row _ _ 0 _ _ _ h, cell_of_row _ _ 1 _ _ _ h, cell_of_row _ _ 2 _ _ _ h, cell_of_row _ _ 3 _ _ _ h⟩
theorem req5 {W : World} {b : Nat} {m t bd : ByteArray} {mn : Int} {v : Value} (h : W.heap[b]? = some (reqObj m t mn v bd)) : W.cell? ⟨b, 0, none⟩ = some (.string m) ∧ W.cell? ⟨b, 1, none⟩ = some (.string t) ∧ W.cell? ⟨b, 2, none⟩ = some (.int .i64 mn) ∧ W.cell? ⟨b, 3, none⟩ = some v ∧ W.cell? ⟨b, 4, none⟩ = some (.string bd) :=
  ⟨cell_of_row _ _ 0 _ _ _ h, cell_of_row _ _ 1 _ _ _ h, cell_of_row _ _ 2 _ _ _ h, cell_of_row _ _ 3 _ _ _ h, cell_of_row _ _ 4 _ _ _ h⟩
/-- A request and a variable, as a drawn region reads them. -/
abbrev Nine9 (b : Nat) (m t bd : ByteArray) (mn : Int) (v : Value) (q : Nat) (host name key : ByteArray) (has : Bool) (w' : World) : Prop :=
  (w'.cell? ⟨b, 0, none⟩ = some (.string m) ∧ w'.cell? ⟨b, 1, none⟩ = some (.string t) ∧ w'.cell? ⟨b, 2, none⟩ = some (.int .i64 mn) ∧ w'.cell? ⟨b, 3, none⟩ = some v ∧ w'.cell? ⟨b, 4, none⟩ = some (.string bd)) ∧
  (w'.cell? ⟨q, 0, none⟩ = some (.string host) ∧ w'.cell? ⟨q, 1, none⟩ = some (.string name) ∧ w'.cell? ⟨q, 2, none⟩ = some (.string key) ∧ w'.cell? ⟨q, 3, none⟩ = some (.bool has))
theorem nine9 {W : World} {b q : Nat} {m t bd host name key : ByteArray} {mn : Int} {v : Value} {has : Bool} (h1 : W.heap[b]? = some (reqObj m t mn v bd)) (h2 : W.heap[q]? = some (askObj host name key has)) : Nine9 b m t bd mn v q host name key has W := ⟨req5 h1, ask4 h2⟩
theorem at_next {W W' : World} {b : Nat} {o : Obj} (h : W.heap[b]? = some o) (hb : Below W.heap.size W W') : W'.heap[b]? = some o := (hb.block _ (Array.getElem?_eq_some_iff.1 h).1).trans h
/-- The two requests and the variable, where they lie. -/
structure VS (w W : World) (m1 t1 bd1 m2 t2 bd2 host name key : ByteArray) (mn1 mn2 : Int) (a1 a2 : Option Addr) (n1 n2 c1 c2 : Nat) (has : Bool) (fs1 fs2 : List Fld) : Prop where
  below : Below w.heap.size w W
  r1 : W.heap[w.heap.size]? = some (reqObj m1 t1 mn1 (.slice a1 n1 c1) bd1)
  r2 : W.heap[w.heap.size + 1]? = some (reqObj m2 t2 mn2 (.slice a2 n2 c2) bd2)
  q : W.heap[w.heap.size + 1 + 1]? = some (askObj host name key has)
  f1 : FieldsAt W (.slice a1 n1 c1) fs1
  f2 : FieldsAt W (.slice a2 n2 c2) fs2
theorem VS.next {w W W' : World} {m1 t1 bd1 m2 t2 bd2 host name key : ByteArray} {mn1 mn2 : Int} {a1 a2 : Option Addr} {n1 n2 c1 c2 : Nat} {has : Bool} {fs1 fs2 : List Fld} (h : VS w W m1 t1 bd1 m2 t2 bd2 host name key mn1 mn2 a1 a2 n1 n2 c1 c2 has fs1 fs2) (hb : Below W.heap.size W W') : VS w W' m1 t1 bd1 m2 t2 bd2 host name key mn1 mn2 a1 a2 n1 n2 c1 c2 has fs1 fs2 :=
  ⟨h.below.trans (hb.mono h.below.size), at_next h.r1 hb, at_next h.r2 hb, at_next h.q hb, h.f1.below hb, h.f2.below hb⟩

set_option maxRecDepth 100000 in
set_option maxHeartbeats 2000000 in
theorem law_same_eq (m1 t1 bd1 m2 t2 bd2 host name key : ByteArray) (mn1 mn2 : Int) (a1 a2 : Option Addr) (n1 n2 c1 c2 : Nat) (has : Bool) (fs1 fs2 : List Fld) (w : World) (hg : Good w) (hF1 : FieldsAt w (.slice a1 n1 c1) fs1) (hF2 : FieldsAt w (.slice a2 n2 c2) fs2)
    (hl1 : Lim fs1) (hl2 : Lim fs2) (ht1 : t1.size ≤ 100000) (ht2 : t2.size ≤ 100000) (hk : key.size ≤ 100000) (hv : vget host.data.toList t1.data.toList fs1 name.data.toList key.data.toList has = vget host.data.toList t2.data.toList fs2 name.data.toList key.data.toList has) :
    Calls Tryd.prog 8 #[.agg #[.string m1, .string t1, .int .i64 mn1, .slice a1 n1 c1, .string bd1], .agg #[.string m2, .string t2, .int .i64 mn2, .slice a2 n2 c2, .string bd2], .agg #[.string host, .string name, .string key, .bool has]] w (Ret w (.bool true)) := by
  have HG := Lib.hid hg
  have HT := three_new w (reqObj m1 t1 mn1 (.slice a1 n1 c1) bd1) (reqObj m2 t2 mn2 (.slice a2 n2 c2) bd2) (askObj host name key has)
  have HS := Lib.hid (show VS w _ m1 t1 bd1 m2 t2 bd2 host name key mn1 mn2 a1 a2 n1 n2 c1 c2 has fs1 fs2 from ⟨HT.below, HT.b1, HT.b2, HT.b3, hF1.below HT.below, hF2.below HT.below⟩)
  have HL1 := Lib.hid hl1
  have HL2 := Lib.hid hl2
  obtain ⟨vv, hvv⟩ : ∃ vv, vget host.data.toList t1.data.toList fs1 name.data.toList key.data.toList has = vv := ⟨_, rfl⟩
  have HV1 := Lib.hid hvv
  have HV2 := Lib.hid (hv.symm.trans hvv)
  clear hg HT hF1 hF2 hl1 hl2 hv hvv
  go_enter Tryd.func8, Tryd.ntmps8
  go_wp2_with fail
  generalize ((w.alloc (.cells #[.string m1, .string t1, .int .i64 mn1, .slice a1 n1 c1, .string bd1] 24)).alloc (.cells #[.string m2, .string t2, .int .i64 mn2, .slice a2 n2 c2, .string bd2] 24)).alloc (.cells #[.string host, .string name, .string key, .bool has] 26) = W at *
  have HSd := Lib.hid (show VS w W.drew m1 t1 bd1 m2 t2 bd2 host name key mn1 mn2 a1 a2 n1 n2 c1 c2 has fs1 fs2 from HS.out.next ((Below.refl _ _).drew))
  have HN := Lib.hid (nine9 HSd.out.r1 HSd.out.q)
  go_region_held3 (Nine9 w.heap.size m1 t1 bd1 mn1 (.slice a1 n1 c1) (w.heap.size + 1 + 1) host name key has) (first | with_reducible exact HN.out)
    (first
      | (go_at_call 10; (with_reducible refine (vars_Of m1 t1 bd1 host mn1 a1 n1 c1 fs1 _ HSd.out.f1 HL1.out.many).mono ?_); rintro e w5 ⟨a5, c5, rfl, hown5, hb5⟩; have HSd := Lib.hid (HSd.out.next hb5); have HN := Lib.hid (nine9 HSd.out.r1 HSd.out.q); have HO5 := Lib.hid hown5.at; clear hown5 hb5)
      | (go_at_call 11; (with_reducible refine (vars_Get host t1 name key a5 fs1.length c5 fs1 has w5 (HG.out.next HSd.out.below) HO5.out HL1.out ht1 hk).mono ?_); rintro e w6 ⟨rfl, hb6⟩; rw [HV1.out]; have HSd := Lib.hid (HSd.out.next hb6); have HN := Lib.hid (nine9 HSd.out.r1 HSd.out.q); clear hb6))
  clear HO5
  go_wp2_with fail
  have HSe := Lib.hid (show VS w w6.drew m1 t1 bd1 m2 t2 bd2 host name key mn1 mn2 a1 a2 n1 n2 c1 c2 has fs1 fs2 from HSd.out.next ((Below.refl _ _).drew))
  have HM := Lib.hid (nine9 HSe.out.r2 HSe.out.q)
  go_region_held3 (Nine9 (w.heap.size + 1) m2 t2 bd2 mn2 (.slice a2 n2 c2) (w.heap.size + 1 + 1) host name key has) (first | with_reducible exact HM.out)
    (first
      | (go_at_call 10; (with_reducible refine (vars_Of m2 t2 bd2 host mn2 a2 n2 c2 fs2 _ HSe.out.f2 HL2.out.many).mono ?_); rintro e w7 ⟨a7, c7, rfl, hown7, hb7⟩; have HSe := Lib.hid (HSe.out.next hb7); have HM := Lib.hid (nine9 HSe.out.r2 HSe.out.q); have HO7 := Lib.hid hown7.at; clear hown7 hb7)
      | (go_at_call 11; (with_reducible refine (vars_Get host t2 name key a7 fs2.length c7 fs2 has w7 (HG.out.next HSe.out.below) HO7.out HL2.out ht2 hk).mono ?_); rintro e w8 ⟨rfl, hb8⟩; rw [HV2.out]; have HSe := Lib.hid (HSe.out.next hb8); have HM := Lib.hid (nine9 HSe.out.r2 HSe.out.q); clear hb8))
  go_wp2_with fail
  go_ret
  exact ⟨rfl, HSe.out.below⟩
end Go.Proofs.YtmkpejioinkceaaDoor
