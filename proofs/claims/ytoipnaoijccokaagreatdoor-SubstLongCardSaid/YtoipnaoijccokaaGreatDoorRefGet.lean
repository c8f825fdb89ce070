/- The walk of the reference's Get: any variable of any request. -/
import Derived.Test.YtoipnaoijccokaaGreatDoorRefNames
import Derived.Test.YtoipnaoijccokaaGreatDoorRefAgent
import Derived.Test.YtoipnaoijccokaaGreatDoorPlain
namespace Go.Proofs.YtoipnaoijccokaaGreatDoor
open Go.RowKit
set_option linter.unusedVariables false

theorem tl_data {name : ByteArray} {l : Bs} {b : Bool} (h : (name.toList == l) = b) : (name.data.toList == l) = b := by rw [← Lib.toList_data]; exact h

set_option maxRecDepth 100000 in
set_option maxHeartbeats 400000 in
theorem ref25_Get_whole_0 (m t bd h name key : ByteArray) (mn : Int) (a : Option Addr) (n c : Nat) (fs : List Fld) (w : World) (hF : FieldsAt w (.slice a n c) fs) (hlim : Lim fs) (ht : t.size ≤ 100000) (hkey : key.size ≤ 140737488351232) (k0 : (name.toList == [72, 84, 84, 80, 95, 72, 79, 83, 84]) = true) :
    Calls Tryz.prog 21 #[.agg #[.string m, .string t, .int .i64 mn, .slice a n c, .string bd, .string h], .string name, .string key, .bool false] w (Ret w (.tuple #[.string ⟨(vwhole h.data.toList t.data.toList fs name.data.toList).1.toArray⟩, .bool (vwhole h.data.toList t.data.toList fs name.data.toList).2])) := by
  go_enter Tryz.func21, Tryz.ntmps21
  have HR := Lib.hid (show vwhole h.data.toList t.data.toList fs name.data.toList = (h.data.toList, !h.data.toList.isEmpty) by unfold vwhole; rw [show (name.data.toList == nHost) = _ from tl_data k0]; rfl)
  rcases he : h.toList.isEmpty with _ | _
  · have he2 : h.data.toList.isEmpty = false := by rw [← Lib.toList_data]; exact he
    have He := Lib.hid he2
    clear he2
    have hne : (!h.toList.isEmpty) = true := by rw [he]; rfl
    go_wp2
    go_ret2
    rw [HR.out, He.out]
    exact ⟨rfl, (Below.refl _ _).alloc (Nat.le_refl _) _⟩
  · have he2 : h.data.toList.isEmpty = true := by rw [← Lib.toList_data]; exact he
    have He := Lib.hid he2
    have Hn := Lib.hid (List.isEmpty_iff.1 he2)
    clear he2
    have hne : (!h.toList.isEmpty) = false := by rw [he]; rfl
    go_wp2
    go_ret2
    rw [HR.out, He.out, Hn.out]
    exact ⟨rfl, (Below.refl _ _).alloc (Nat.le_refl _) _⟩

set_option maxRecDepth 100000 in
set_option maxHeartbeats 400000 in
theorem ref25_Get_whole_1 (m t bd h name key : ByteArray) (mn : Int) (a : Option Addr) (n c : Nat) (fs : List Fld) (w : World) (hF : FieldsAt w (.slice a n c) fs) (hlim : Lim fs) (ht : t.size ≤ 100000) (hkey : key.size ≤ 140737488351232) (k0 : (name.toList == [72, 84, 84, 80, 95, 72, 79, 83, 84]) = false) (k1 : (name.toList == [72, 84, 84, 80, 95, 82, 69, 70, 69, 82, 69, 82]) = true) :
    Calls Tryz.prog 21 #[.agg #[.string m, .string t, .int .i64 mn, .slice a n c, .string bd, .string h], .string name, .string key, .bool false] w (Ret w (.tuple #[.string ⟨(vwhole h.data.toList t.data.toList fs name.data.toList).1.toArray⟩, .bool (vwhole h.data.toList t.data.toList fs name.data.toList).2])) := by
  go_enter Tryz.func21, Tryz.ntmps21
  have HR := Lib.hid (show vwhole h.data.toList t.data.toList fs name.data.toList = fget fs refererName by unfold vwhole; rw [show (name.data.toList == nHost) = _ from tl_data k0, show (name.data.toList == nReferer) = _ from tl_data k1]; rfl)
  go_wp2_with fail
  refine (ref04_Get fs _ ⟨#[114, 101, 102, 101, 114, 101, 114]⟩ _ (hF.below ((Below.refl _ _).alloc (Nat.le_refl _) _)) hlim (by decide)).mono ?_
  rintro e w1 ⟨rfl, hb0⟩
  have hb1 := below_alloc hb0
  clear hb0
  go_wp2
  go_ret2
  rw [HR.out]
  exact ⟨rfl, hb1⟩

set_option maxRecDepth 100000 in
set_option maxHeartbeats 400000 in
theorem ref25_Get_whole_2 (m t bd h name key : ByteArray) (mn : Int) (a : Option Addr) (n c : Nat) (fs : List Fld) (w : World) (hF : FieldsAt w (.slice a n c) fs) (hlim : Lim fs) (ht : t.size ≤ 100000) (hkey : key.size ≤ 140737488351232) (k0 : (name.toList == [72, 84, 84, 80, 95, 72, 79, 83, 84]) = false) (k1 : (name.toList == [72, 84, 84, 80, 95, 82, 69, 70, 69, 82, 69, 82]) = false) (k2 : (name.toList == [72, 84, 84, 80, 95, 85, 83, 69, 82, 95, 65, 71, 69, 78, 84]) = true) :
    Calls Tryz.prog 21 #[.agg #[.string m, .string t, .int .i64 mn, .slice a n c, .string bd, .string h], .string name, .string key, .bool false] w (Ret w (.tuple #[.string ⟨(vwhole h.data.toList t.data.toList fs name.data.toList).1.toArray⟩, .bool (vwhole h.data.toList t.data.toList fs name.data.toList).2])) := by
  go_enter Tryz.func21, Tryz.ntmps21
  have HR := Lib.hid (show vwhole h.data.toList t.data.toList fs name.data.toList = fget fs agentName by unfold vwhole; rw [show (name.data.toList == nHost) = _ from tl_data k0, show (name.data.toList == nReferer) = _ from tl_data k1, show (name.data.toList == nAgent) = _ from tl_data k2]; rfl)
  go_wp2_with fail
  refine (ref04_Get fs _ ⟨#[117, 115, 101, 114, 45, 97, 103, 101, 110, 116]⟩ _ (hF.below ((Below.refl _ _).alloc (Nat.le_refl _) _)) hlim (by decide)).mono ?_
  rintro e w1 ⟨rfl, hb0⟩
  have hb1 := below_alloc hb0
  clear hb0
  go_wp2
  go_ret2
  rw [HR.out]
  exact ⟨rfl, hb1⟩

set_option maxRecDepth 100000 in
set_option maxHeartbeats 400000 in
theorem ref25_Get_whole_3 (m t bd h name key : ByteArray) (mn : Int) (a : Option Addr) (n c : Nat) (fs : List Fld) (w : World) (hF : FieldsAt w (.slice a n c) fs) (hlim : Lim fs) (ht : t.size ≤ 100000) (hkey : key.size ≤ 140737488351232) (k0 : (name.toList == [72, 84, 84, 80, 95, 72, 79, 83, 84]) = false) (k1 : (name.toList == [72, 84, 84, 80, 95, 82, 69, 70, 69, 82, 69, 82]) = false) (k2 : (name.toList == [72, 84, 84, 80, 95, 85, 83, 69, 82, 95, 65, 71, 69, 78, 84]) = false) (k3 : (name.toList == [72, 84, 84, 80, 95, 67, 79, 79, 75, 73, 69]) = true) :
    Calls Tryz.prog 21 #[.agg #[.string m, .string t, .int .i64 mn, .slice a n c, .string bd, .string h], .string name, .string key, .bool false] w (Ret w (.tuple #[.string ⟨(vwhole h.data.toList t.data.toList fs name.data.toList).1.toArray⟩, .bool (vwhole h.data.toList t.data.toList fs name.data.toList).2])) := by
  go_enter Tryz.func21, Tryz.ntmps21
  have HR := Lib.hid (show vwhole h.data.toList t.data.toList fs name.data.toList = vcookies fs by unfold vwhole; rw [show (name.data.toList == nHost) = _ from tl_data k0, show (name.data.toList == nReferer) = _ from tl_data k1, show (name.data.toList == nAgent) = _ from tl_data k2, show (name.data.toList == nCookie) = _ from tl_data k3]; rfl)
  go_wp2_with fail
  refine (ref25_Cookies m t bd h mn a n c fs _ (hF.below ((Below.refl _ _).alloc (Nat.le_refl _) _)) hlim).mono ?_
  rintro e w1 ⟨rfl, hb0⟩
  have hb1 := below_alloc hb0
  clear hb0
  go_wp2
  go_ret2
  rw [HR.out]
  exact ⟨rfl, hb1⟩

set_option maxRecDepth 100000 in
set_option maxHeartbeats 400000 in
theorem ref25_Get_whole_4 (m t bd h name key : ByteArray) (mn : Int) (a : Option Addr) (n c : Nat) (fs : List Fld) (w : World) (hF : FieldsAt w (.slice a n c) fs) (hlim : Lim fs) (ht : t.size ≤ 100000) (hkey : key.size ≤ 140737488351232) (k0 : (name.toList == [72, 84, 84, 80, 95, 72, 79, 83, 84]) = false) (k1 : (name.toList == [72, 84, 84, 80, 95, 82, 69, 70, 69, 82, 69, 82]) = false) (k2 : (name.toList == [72, 84, 84, 80, 95, 85, 83, 69, 82, 95, 65, 71, 69, 78, 84]) = false) (k3 : (name.toList == [72, 84, 84, 80, 95, 67, 79, 79, 75, 73, 69]) = false) (k4 : (name.toList == [81, 85, 69, 82, 89, 95, 83, 84, 82, 73, 78, 71]) = true) :
    Calls Tryz.prog 21 #[.agg #[.string m, .string t, .int .i64 mn, .slice a n c, .string bd, .string h], .string name, .string key, .bool false] w (Ret w (.tuple #[.string ⟨(vwhole h.data.toList t.data.toList fs name.data.toList).1.toArray⟩, .bool (vwhole h.data.toList t.data.toList fs name.data.toList).2])) := by
  go_enter Tryz.func21, Tryz.ntmps21
  have HR := Lib.hid (show vwhole h.data.toList t.data.toList fs name.data.toList = optP (vquery t.data.toList) by unfold vwhole; rw [show (name.data.toList == nHost) = _ from tl_data k0, show (name.data.toList == nReferer) = _ from tl_data k1, show (name.data.toList == nAgent) = _ from tl_data k2, show (name.data.toList == nCookie) = _ from tl_data k3, show (name.data.toList == nQuery) = _ from tl_data k4]; rfl)
  rcases hq : t.data.toList.contains 63 with _ | _
  · have HQ := Lib.hid (show vquery t.data.toList = none by unfold vquery; rw [hq]; rfl)
    go_wp2_with fail
    refine (ref25_query_no m t bd h key mn a n c false _ ht hq).mono ?_
    rintro e w1 ⟨rfl, hb0⟩
    have hb1 := below_alloc hb0
    clear hb0 hq
    go_wp2
    go_ret2
    rw [HR.out, HQ.out]
    exact ⟨rfl, hb1⟩
  · have HQ := Lib.hid (show vquery t.data.toList = some (past 63 t.data.toList) by unfold vquery; rw [hq]; rfl)
    go_wp2_with fail
    refine (ref25_query_whole m t bd h key mn a n c _ ht hq).mono ?_
    rintro e w1 ⟨rfl, hb0⟩
    have hb1 := below_alloc hb0
    clear hb0 hq
    go_wp2
    go_ret2
    rw [HR.out, HQ.out]
    exact ⟨rfl, hb1⟩

set_option maxRecDepth 100000 in
set_option maxHeartbeats 400000 in
theorem ref25_Get_whole_5 (m t bd h name key : ByteArray) (mn : Int) (a : Option Addr) (n c : Nat) (fs : List Fld) (w : World) (hF : FieldsAt w (.slice a n c) fs) (hlim : Lim fs) (ht : t.size ≤ 100000) (hkey : key.size ≤ 140737488351232) (k0 : (name.toList == [72, 84, 84, 80, 95, 72, 79, 83, 84]) = false) (k1 : (name.toList == [72, 84, 84, 80, 95, 82, 69, 70, 69, 82, 69, 82]) = false) (k2 : (name.toList == [72, 84, 84, 80, 95, 85, 83, 69, 82, 95, 65, 71, 69, 78, 84]) = false) (k3 : (name.toList == [72, 84, 84, 80, 95, 67, 79, 79, 75, 73, 69]) = false) (k4 : (name.toList == [81, 85, 69, 82, 89, 95, 83, 84, 82, 73, 78, 71]) = false) (k5 : (name.toList == [72, 84, 84, 80, 95, 65, 67, 67, 69, 80, 84, 95, 76, 65, 78, 71, 85, 65, 71, 69]) = true) :
    Calls Tryz.prog 21 #[.agg #[.string m, .string t, .int .i64 mn, .slice a n c, .string bd, .string h], .string name, .string key, .bool false] w (Ret w (.tuple #[.string ⟨(vwhole h.data.toList t.data.toList fs name.data.toList).1.toArray⟩, .bool (vwhole h.data.toList t.data.toList fs name.data.toList).2])) := by
  go_enter Tryz.func21, Tryz.ntmps21
  have HR := Lib.hid (show vwhole h.data.toList t.data.toList fs name.data.toList = fget fs langName by unfold vwhole; rw [show (name.data.toList == nHost) = _ from tl_data k0, show (name.data.toList == nReferer) = _ from tl_data k1, show (name.data.toList == nAgent) = _ from tl_data k2, show (name.data.toList == nCookie) = _ from tl_data k3, show (name.data.toList == nQuery) = _ from tl_data k4, show (name.data.toList == nLang) = _ from tl_data k5]; rfl)
  go_wp2_with fail
  refine (ref04_Get fs _ ⟨#[97, 99, 99, 101, 112, 116, 45, 108, 97, 110, 103, 117, 97, 103, 101]⟩ _ (hF.below ((Below.refl _ _).alloc (Nat.le_refl _) _)) hlim (by decide)).mono ?_
  rintro e w1 ⟨rfl, hb0⟩
  have hb1 := below_alloc hb0
  clear hb0
  go_wp2
  go_ret2
  rw [HR.out]
  exact ⟨rfl, hb1⟩

set_option maxRecDepth 100000 in
set_option maxHeartbeats 400000 in
theorem ref25_Get_whole_6 (m t bd h name key : ByteArray) (mn : Int) (a : Option Addr) (n c : Nat) (fs : List Fld) (w : World) (hF : FieldsAt w (.slice a n c) fs) (hlim : Lim fs) (ht : t.size ≤ 100000) (hkey : key.size ≤ 140737488351232) (k0 : (name.toList == [72, 84, 84, 80, 95, 72, 79, 83, 84]) = false) (k1 : (name.toList == [72, 84, 84, 80, 95, 82, 69, 70, 69, 82, 69, 82]) = false) (k2 : (name.toList == [72, 84, 84, 80, 95, 85, 83, 69, 82, 95, 65, 71, 69, 78, 84]) = false) (k3 : (name.toList == [72, 84, 84, 80, 95, 67, 79, 79, 75, 73, 69]) = false) (k4 : (name.toList == [81, 85, 69, 82, 89, 95, 83, 84, 82, 73, 78, 71]) = false) (k5 : (name.toList == [72, 84, 84, 80, 95, 65, 67, 67, 69, 80, 84, 95, 76, 65, 78, 71, 85, 65, 71, 69]) = false) :
    Calls Tryz.prog 21 #[.agg #[.string m, .string t, .int .i64 mn, .slice a n c, .string bd, .string h], .string name, .string key, .bool false] w (Ret w (.tuple #[.string ⟨(vwhole h.data.toList t.data.toList fs name.data.toList).1.toArray⟩, .bool (vwhole h.data.toList t.data.toList fs name.data.toList).2])) := by
  go_enter Tryz.func21, Tryz.ntmps21
  have HR := Lib.hid (show vwhole h.data.toList t.data.toList fs name.data.toList = (([] : Bs), false) by unfold vwhole; rw [show (name.data.toList == nHost) = _ from tl_data k0, show (name.data.toList == nReferer) = _ from tl_data k1, show (name.data.toList == nAgent) = _ from tl_data k2, show (name.data.toList == nCookie) = _ from tl_data k3, show (name.data.toList == nQuery) = _ from tl_data k4, show (name.data.toList == nLang) = _ from tl_data k5]; rfl)
  go_wp2
  go_ret2
  rw [HR.out]
  exact ⟨rfl, (Below.refl _ _).alloc (Nat.le_refl _) _⟩

set_option maxRecDepth 100000 in
set_option maxHeartbeats 400000 in
theorem ref25_Get_part_0 (m t bd h name key : ByteArray) (mn : Int) (a : Option Addr) (n c : Nat) (fs : List Fld) (w : World) (hF : FieldsAt w (.slice a n c) fs) (hlim : Lim fs) (ht : t.size ≤ 100000) (hkey : key.size ≤ 140737488351232) (k0 : (name.toList == [72, 84, 84, 80, 95, 72, 79, 83, 84]) = true) (hk : vkey key.data.toList = true) :
    Calls Tryz.prog 21 #[.agg #[.string m, .string t, .int .i64 mn, .slice a n c, .string bd, .string h], .string name, .string key, .bool true] w (Ret w (.tuple #[.string ⟨(vpart t.data.toList fs name.data.toList key.data.toList).1.toArray⟩, .bool (vpart t.data.toList fs name.data.toList key.data.toList).2])) := by
  go_enter Tryz.func21, Tryz.ntmps21
  go_wp2_with fail
  refine (ref25_Key key _ hkey).mono ?_
  rintro e w0 ⟨rfl, rfl⟩
  have HR := Lib.hid (show vpart t.data.toList fs name.data.toList key.data.toList = (([] : Bs), false) by unfold vpart; rw [show (name.data.toList == nHost) = _ from tl_data k0]; rfl)
  go_wp2
  go_ret2
  rw [HR.out]
  exact ⟨rfl, (Below.refl _ _).alloc (Nat.le_refl _) _⟩

set_option maxRecDepth 100000 in
set_option maxHeartbeats 400000 in
theorem ref25_Get_part_1 (m t bd h name key : ByteArray) (mn : Int) (a : Option Addr) (n c : Nat) (fs : List Fld) (w : World) (hF : FieldsAt w (.slice a n c) fs) (hlim : Lim fs) (ht : t.size ≤ 100000) (hkey : key.size ≤ 140737488351232) (k0 : (name.toList == [72, 84, 84, 80, 95, 72, 79, 83, 84]) = false) (k1 : (name.toList == [72, 84, 84, 80, 95, 82, 69, 70, 69, 82, 69, 82]) = true) (hk : vkey key.data.toList = true) :
    Calls Tryz.prog 21 #[.agg #[.string m, .string t, .int .i64 mn, .slice a n c, .string bd, .string h], .string name, .string key, .bool true] w (Ret w (.tuple #[.string ⟨(vpart t.data.toList fs name.data.toList key.data.toList).1.toArray⟩, .bool (vpart t.data.toList fs name.data.toList key.data.toList).2])) := by
  go_enter Tryz.func21, Tryz.ntmps21
  go_wp2_with fail
  refine (ref25_Key key _ hkey).mono ?_
  rintro e w0 ⟨rfl, rfl⟩
  have HR := Lib.hid (show vpart t.data.toList fs name.data.toList key.data.toList = (([] : Bs), false) by unfold vpart; rw [show (name.data.toList == nHost) = _ from tl_data k0, show (name.data.toList == nReferer) = _ from tl_data k1]; rfl)
  go_wp2
  go_ret2
  rw [HR.out]
  exact ⟨rfl, (Below.refl _ _).alloc (Nat.le_refl _) _⟩

set_option maxRecDepth 100000 in
set_option maxHeartbeats 400000 in
theorem ref25_Get_part_2 (m t bd h name key : ByteArray) (mn : Int) (a : Option Addr) (n c : Nat) (fs : List Fld) (w : World) (hF : FieldsAt w (.slice a n c) fs) (hlim : Lim fs) (ht : t.size ≤ 100000) (hkey : key.size ≤ 140737488351232) (k0 : (name.toList == [72, 84, 84, 80, 95, 72, 79, 83, 84]) = false) (k1 : (name.toList == [72, 84, 84, 80, 95, 82, 69, 70, 69, 82, 69, 82]) = false) (k2 : (name.toList == [72, 84, 84, 80, 95, 85, 83, 69, 82, 95, 65, 71, 69, 78, 84]) = true) (hk : vkey key.data.toList = true) :
    Calls Tryz.prog 21 #[.agg #[.string m, .string t, .int .i64 mn, .slice a n c, .string bd, .string h], .string name, .string key, .bool true] w (Ret w (.tuple #[.string ⟨(vpart t.data.toList fs name.data.toList key.data.toList).1.toArray⟩, .bool (vpart t.data.toList fs name.data.toList key.data.toList).2])) := by
  go_enter Tryz.func21, Tryz.ntmps21
  go_wp2_with fail
  refine (ref25_Key key _ hkey).mono ?_
  rintro e w0 ⟨rfl, rfl⟩
  have HR := Lib.hid (show vpart t.data.toList fs name.data.toList key.data.toList = vua fs key.data.toList by unfold vpart; rw [show (name.data.toList == nHost) = _ from tl_data k0, show (name.data.toList == nReferer) = _ from tl_data k1, show (name.data.toList == nAgent) = _ from tl_data k2]; rfl)
  go_wp2_with fail
  refine (ref25_agent m t bd h key mn a n c fs _ (hF.below ((Below.refl _ _).alloc (Nat.le_refl _) _)) hlim hkey).mono ?_
  rintro e w1 ⟨rfl, hb0⟩
  have hb1 := below_alloc hb0
  clear hb0
  go_wp2
  go_ret2
  rw [HR.out]
  exact ⟨rfl, hb1⟩

set_option maxRecDepth 100000 in
set_option maxHeartbeats 400000 in
theorem ref25_Get_part_3 (m t bd h name key : ByteArray) (mn : Int) (a : Option Addr) (n c : Nat) (fs : List Fld) (w : World) (hF : FieldsAt w (.slice a n c) fs) (hlim : Lim fs) (ht : t.size ≤ 100000) (hkey : key.size ≤ 140737488351232) (k0 : (name.toList == [72, 84, 84, 80, 95, 72, 79, 83, 84]) = false) (k1 : (name.toList == [72, 84, 84, 80, 95, 82, 69, 70, 69, 82, 69, 82]) = false) (k2 : (name.toList == [72, 84, 84, 80, 95, 85, 83, 69, 82, 95, 65, 71, 69, 78, 84]) = false) (k3 : (name.toList == [72, 84, 84, 80, 95, 67, 79, 79, 75, 73, 69]) = true) (hk : vkey key.data.toList = true) :
    Calls Tryz.prog 21 #[.agg #[.string m, .string t, .int .i64 mn, .slice a n c, .string bd, .string h], .string name, .string key, .bool true] w (Ret w (.tuple #[.string ⟨(vpart t.data.toList fs name.data.toList key.data.toList).1.toArray⟩, .bool (vpart t.data.toList fs name.data.toList key.data.toList).2])) := by
  go_enter Tryz.func21, Tryz.ntmps21
  go_wp2_with fail
  refine (ref25_Key key _ hkey).mono ?_
  rintro e w0 ⟨rfl, rfl⟩
  have HR := Lib.hid (show vpart t.data.toList fs name.data.toList key.data.toList = optP (vcookie fs key.data.toList) by unfold vpart; rw [show (name.data.toList == nHost) = _ from tl_data k0, show (name.data.toList == nReferer) = _ from tl_data k1, show (name.data.toList == nAgent) = _ from tl_data k2, show (name.data.toList == nCookie) = _ from tl_data k3]; rfl)
  go_wp2_with fail
  refine (ref25_cookie m t bd h key mn a n c fs _ (hF.below ((Below.refl _ _).alloc (Nat.le_refl _) _)) hlim).mono ?_
  rintro e w1 ⟨rfl, hb0⟩
  have hb1 := below_alloc hb0
  clear hb0
  go_wp2
  go_ret2
  rw [HR.out]
  exact ⟨rfl, hb1⟩

set_option maxRecDepth 100000 in
set_option maxHeartbeats 400000 in
theorem ref25_Get_part_4 (m t bd h name key : ByteArray) (mn : Int) (a : Option Addr) (n c : Nat) (fs : List Fld) (w : World) (hF : FieldsAt w (.slice a n c) fs) (hlim : Lim fs) (ht : t.size ≤ 100000) (hkey : key.size ≤ 140737488351232) (k0 : (name.toList == [72, 84, 84, 80, 95, 72, 79, 83, 84]) = false) (k1 : (name.toList == [72, 84, 84, 80, 95, 82, 69, 70, 69, 82, 69, 82]) = false) (k2 : (name.toList == [72, 84, 84, 80, 95, 85, 83, 69, 82, 95, 65, 71, 69, 78, 84]) = false) (k3 : (name.toList == [72, 84, 84, 80, 95, 67, 79, 79, 75, 73, 69]) = false) (k4 : (name.toList == [81, 85, 69, 82, 89, 95, 83, 84, 82, 73, 78, 71]) = true) (hk : vkey key.data.toList = true) :
    Calls Tryz.prog 21 #[.agg #[.string m, .string t, .int .i64 mn, .slice a n c, .string bd, .string h], .string name, .string key, .bool true] w (Ret w (.tuple #[.string ⟨(vpart t.data.toList fs name.data.toList key.data.toList).1.toArray⟩, .bool (vpart t.data.toList fs name.data.toList key.data.toList).2])) := by
  go_enter Tryz.func21, Tryz.ntmps21
  go_wp2_with fail
  refine (ref25_Key key _ hkey).mono ?_
  rintro e w0 ⟨rfl, rfl⟩
  have HR := Lib.hid (show vpart t.data.toList fs name.data.toList key.data.toList = optP (bif t.data.toList.contains 63 then vasked t.data.toList key.data.toList else none) by unfold vpart; rw [show (name.data.toList == nHost) = _ from tl_data k0, show (name.data.toList == nReferer) = _ from tl_data k1, show (name.data.toList == nAgent) = _ from tl_data k2, show (name.data.toList == nCookie) = _ from tl_data k3, show (name.data.toList == nQuery) = _ from tl_data k4]; rfl)
  rcases hq : t.data.toList.contains 63 with _ | _
  · rw [hq] at HR
    go_wp2_with fail
    refine (ref25_query_no m t bd h key mn a n c true _ ht hq).mono ?_
    rintro e w1 ⟨rfl, hb0⟩
    have hb1 := below_alloc hb0
    clear hb0 hq
    go_wp2
    go_ret2
    rw [HR.out]
    exact ⟨rfl, hb1⟩
  · rw [hq] at HR
    go_wp2_with fail
    refine (ref25_query_part m t bd h key mn a n c _ ht hq).mono ?_
    rintro e w1 ⟨rfl, hb0⟩
    have hb1 := below_alloc hb0
    clear hb0 hq
    go_wp2
    go_ret2
    rw [HR.out]
    exact ⟨rfl, hb1⟩

set_option maxRecDepth 100000 in
set_option maxHeartbeats 400000 in
theorem ref25_Get_part_5 (m t bd h name key : ByteArray) (mn : Int) (a : Option Addr) (n c : Nat) (fs : List Fld) (w : World) (hF : FieldsAt w (.slice a n c) fs) (hlim : Lim fs) (ht : t.size ≤ 100000) (hkey : key.size ≤ 140737488351232) (k0 : (name.toList == [72, 84, 84, 80, 95, 72, 79, 83, 84]) = false) (k1 : (name.toList == [72, 84, 84, 80, 95, 82, 69, 70, 69, 82, 69, 82]) = false) (k2 : (name.toList == [72, 84, 84, 80, 95, 85, 83, 69, 82, 95, 65, 71, 69, 78, 84]) = false) (k3 : (name.toList == [72, 84, 84, 80, 95, 67, 79, 79, 75, 73, 69]) = false) (k4 : (name.toList == [81, 85, 69, 82, 89, 95, 83, 84, 82, 73, 78, 71]) = false) (k5 : (name.toList == [72, 84, 84, 80, 95, 65, 67, 67, 69, 80, 84, 95, 76, 65, 78, 71, 85, 65, 71, 69]) = true) (hk : vkey key.data.toList = true) :
    Calls Tryz.prog 21 #[.agg #[.string m, .string t, .int .i64 mn, .slice a n c, .string bd, .string h], .string name, .string key, .bool true] w (Ret w (.tuple #[.string ⟨(vpart t.data.toList fs name.data.toList key.data.toList).1.toArray⟩, .bool (vpart t.data.toList fs name.data.toList key.data.toList).2])) := by
  go_enter Tryz.func21, Tryz.ntmps21
  go_wp2_with fail
  refine (ref25_Key key _ hkey).mono ?_
  rintro e w0 ⟨rfl, rfl⟩
  have HR := Lib.hid (show vpart t.data.toList fs name.data.toList key.data.toList = (langV (vlang fs key.data.toList), vlang fs key.data.toList) by unfold vpart; rw [show (name.data.toList == nHost) = _ from tl_data k0, show (name.data.toList == nReferer) = _ from tl_data k1, show (name.data.toList == nAgent) = _ from tl_data k2, show (name.data.toList == nCookie) = _ from tl_data k3, show (name.data.toList == nQuery) = _ from tl_data k4, show (name.data.toList == nLang) = _ from tl_data k5]; rfl)
  go_wp2_with fail
  refine (ref25_language m t bd h key mn a n c fs _ (hF.below ((Below.refl _ _).alloc (Nat.le_refl _) _)) hlim hkey).mono ?_
  rintro e w1 ⟨rfl, hb0⟩
  have hb1 := below_alloc hb0
  clear hb0
  go_wp2
  go_ret2
  rw [HR.out]
  exact ⟨rfl, hb1⟩

set_option maxRecDepth 100000 in
set_option maxHeartbeats 400000 in
theorem ref25_Get_part_6 (m t bd h name key : ByteArray) (mn : Int) (a : Option Addr) (n c : Nat) (fs : List Fld) (w : World) (hF : FieldsAt w (.slice a n c) fs) (hlim : Lim fs) (ht : t.size ≤ 100000) (hkey : key.size ≤ 140737488351232) (k0 : (name.toList == [72, 84, 84, 80, 95, 72, 79, 83, 84]) = false) (k1 : (name.toList == [72, 84, 84, 80, 95, 82, 69, 70, 69, 82, 69, 82]) = false) (k2 : (name.toList == [72, 84, 84, 80, 95, 85, 83, 69, 82, 95, 65, 71, 69, 78, 84]) = false) (k3 : (name.toList == [72, 84, 84, 80, 95, 67, 79, 79, 75, 73, 69]) = false) (k4 : (name.toList == [81, 85, 69, 82, 89, 95, 83, 84, 82, 73, 78, 71]) = false) (k5 : (name.toList == [72, 84, 84, 80, 95, 65, 67, 67, 69, 80, 84, 95, 76, 65, 78, 71, 85, 65, 71, 69]) = false) (hk : vkey key.data.toList = true) :
    Calls Tryz.prog 21 #[.agg #[.string m, .string t, .int .i64 mn, .slice a n c, .string bd, .string h], .string name, .string key, .bool true] w (Ret w (.tuple #[.string ⟨(vpart t.data.toList fs name.data.toList key.data.toList).1.toArray⟩, .bool (vpart t.data.toList fs name.data.toList key.data.toList).2])) := by
  go_enter Tryz.func21, Tryz.ntmps21
  go_wp2_with fail
  refine (ref25_Key key _ hkey).mono ?_
  rintro e w0 ⟨rfl, rfl⟩
  have HR := Lib.hid (show vpart t.data.toList fs name.data.toList key.data.toList = (([] : Bs), false) by unfold vpart; rw [show (name.data.toList == nHost) = _ from tl_data k0, show (name.data.toList == nReferer) = _ from tl_data k1, show (name.data.toList == nAgent) = _ from tl_data k2, show (name.data.toList == nCookie) = _ from tl_data k3, show (name.data.toList == nQuery) = _ from tl_data k4, show (name.data.toList == nLang) = _ from tl_data k5]; rfl)
  go_wp2
  go_ret2
  rw [HR.out]
  exact ⟨rfl, (Below.refl _ _).alloc (Nat.le_refl _) _⟩

set_option maxRecDepth 100000 in
set_option maxHeartbeats 400000 in
theorem ref25_Get_nokey (m t bd h name key : ByteArray) (mn : Int) (a : Option Addr) (n c : Nat) (fs : List Fld) (w : World) (hF : FieldsAt w (.slice a n c) fs) (hlim : Lim fs) (ht : t.size ≤ 100000) (hkey : key.size ≤ 140737488351232) (hk : vkey key.data.toList = false) :
    Calls Tryz.prog 21 #[.agg #[.string m, .string t, .int .i64 mn, .slice a n c, .string bd, .string h], .string name, .string key, .bool true] w (Ret w (.tuple #[.string ⟨#[]⟩, .bool false])) := by
  go_enter Tryz.func21, Tryz.ntmps21
  go_wp2_with fail
  refine (ref25_Key key _ hkey).mono ?_
  rintro e w0 ⟨rfl, rfl⟩
  go_wp2
  go_ret2
  exact ⟨rfl, (Below.refl _ _).alloc (Nat.le_refl _) _⟩

theorem ref25_Get (m t bd h name key : ByteArray) (mn : Int) (a : Option Addr) (n c : Nat) (fs : List Fld) (w : World) (hF : FieldsAt w (.slice a n c) fs) (hlim : Lim fs) (ht : t.size ≤ 100000) (hkey : key.size ≤ 140737488351232) (has : Bool) :
    Calls Tryz.prog 21 #[.agg #[.string m, .string t, .int .i64 mn, .slice a n c, .string bd, .string h], .string name, .string key, .bool has] w (Ret w (.tuple #[.string ⟨(vget h.data.toList t.data.toList fs name.data.toList key.data.toList has).1.toArray⟩, .bool (vget h.data.toList t.data.toList fs name.data.toList key.data.toList has).2])) := by
  rcases has with _ | _
  case false =>
    have e : vget h.data.toList t.data.toList fs name.data.toList key.data.toList false = vwhole h.data.toList t.data.toList fs name.data.toList := rfl
    rw [e]
    rcases k0 : (name.toList == [72, 84, 84, 80, 95, 72, 79, 83, 84]) with _ | _
    case false =>
      rcases k1 : (name.toList == [72, 84, 84, 80, 95, 82, 69, 70, 69, 82, 69, 82]) with _ | _
      case false =>
        rcases k2 : (name.toList == [72, 84, 84, 80, 95, 85, 83, 69, 82, 95, 65, 71, 69, 78, 84]) with _ | _
        case false =>
          rcases k3 : (name.toList == [72, 84, 84, 80, 95, 67, 79, 79, 75, 73, 69]) with _ | _
          case false =>
            rcases k4 : (name.toList == [81, 85, 69, 82, 89, 95, 83, 84, 82, 73, 78, 71]) with _ | _
            case false =>
              rcases k5 : (name.toList == [72, 84, 84, 80, 95, 65, 67, 67, 69, 80, 84, 95, 76, 65, 78, 71, 85, 65, 71, 69]) with _ | _
              case false =>
                exact ref25_Get_whole_6 m t bd h name key mn a n c fs w hF hlim ht hkey k0 k1 k2 k3 k4 k5
              case true =>
                exact ref25_Get_whole_5 m t bd h name key mn a n c fs w hF hlim ht hkey k0 k1 k2 k3 k4 k5
            case true =>
              exact ref25_Get_whole_4 m t bd h name key mn a n c fs w hF hlim ht hkey k0 k1 k2 k3 k4
          case true =>
            exact ref25_Get_whole_3 m t bd h name key mn a n c fs w hF hlim ht hkey k0 k1 k2 k3
        case true =>
          exact ref25_Get_whole_2 m t bd h name key mn a n c fs w hF hlim ht hkey k0 k1 k2
      case true =>
        exact ref25_Get_whole_1 m t bd h name key mn a n c fs w hF hlim ht hkey k0 k1
    case true =>
      exact ref25_Get_whole_0 m t bd h name key mn a n c fs w hF hlim ht hkey k0
  case true =>
    rcases hk : vkey key.data.toList with _ | _
    case false =>
      have e : vget h.data.toList t.data.toList fs name.data.toList key.data.toList true = ([], false) := by unfold vget; rw [hk]; rfl
      rw [e]
      exact ref25_Get_nokey m t bd h name key mn a n c fs w hF hlim ht hkey hk
    case true =>
      have e : vget h.data.toList t.data.toList fs name.data.toList key.data.toList true = vpart t.data.toList fs name.data.toList key.data.toList := by unfold vget; rw [hk]; rfl
      rw [e]
      rcases k0 : (name.toList == [72, 84, 84, 80, 95, 72, 79, 83, 84]) with _ | _
      case false =>
        rcases k1 : (name.toList == [72, 84, 84, 80, 95, 82, 69, 70, 69, 82, 69, 82]) with _ | _
        case false =>
          rcases k2 : (name.toList == [72, 84, 84, 80, 95, 85, 83, 69, 82, 95, 65, 71, 69, 78, 84]) with _ | _
          case false =>
            rcases k3 : (name.toList == [72, 84, 84, 80, 95, 67, 79, 79, 75, 73, 69]) with _ | _
            case false =>
              rcases k4 : (name.toList == [81, 85, 69, 82, 89, 95, 83, 84, 82, 73, 78, 71]) with _ | _
              case false =>
                rcases k5 : (name.toList == [72, 84, 84, 80, 95, 65, 67, 67, 69, 80, 84, 95, 76, 65, 78, 71, 85, 65, 71, 69]) with _ | _
                case false =>
                  exact ref25_Get_part_6 m t bd h name key mn a n c fs w hF hlim ht hkey k0 k1 k2 k3 k4 k5 hk
                case true =>
                  exact ref25_Get_part_5 m t bd h name key mn a n c fs w hF hlim ht hkey k0 k1 k2 k3 k4 k5 hk
              case true =>
                exact ref25_Get_part_4 m t bd h name key mn a n c fs w hF hlim ht hkey k0 k1 k2 k3 k4 hk
            case true =>
              exact ref25_Get_part_3 m t bd h name key mn a n c fs w hF hlim ht hkey k0 k1 k2 k3 hk
          case true =>
            exact ref25_Get_part_2 m t bd h name key mn a n c fs w hF hlim ht hkey k0 k1 k2 hk
        case true =>
          exact ref25_Get_part_1 m t bd h name key mn a n c fs w hF hlim ht hkey k0 k1 hk
      case true =>
        exact ref25_Get_part_0 m t bd h name key mn a n c fs w hF hlim ht hkey k0 hk
end Go.Proofs.YtoipnaoijccokaaGreatDoor
