/- The walk of the program's Get: any variable of any request. The program's Get, joined: it answers as the plain law says. -/
import Derived.Test.YtehdeclpighdeaaGreatDoorKLook
import Derived.Test.YtehdeclpighdeaaGreatDoorKLang
namespace Go.Proofs.YtehdeclpighdeaaGreatDoor
open Go.RowKit
set_option linter.unusedVariables false
set_option maxRecDepth 100000 in
theorem vars_Get1_never (h t key : ByteArray) (a : Option Addr) (n c br bk : Nat) (w : World) (hc : w.cell? ⟨br, 2, none⟩ = some (.func (.func 137) #[] #[])) (hk : w.cell? ⟨bk, 0, none⟩ = some (.string key)) (v : Bs × Bool)
    (hcall : Calls Tryz.prog 137 #[.agg #[.string h, .string t, .slice a n c], .string key] (w.alloc (.cells #[.string h, .string t, .slice a n c] 59)) (Ret (w.alloc (.cells #[.string h, .string t, .slice a n c] 59)) (.tuple #[.string ⟨v.1.toArray⟩, .bool v.2]))) :
    Calls Tryz.prog 120 #[.agg #[.string h, .string t, .slice a n c], .pointer (some ⟨br, 0, none⟩), .pointer (some ⟨bk, 0, none⟩)] w (Ret w (.tuple #[.string ⟨v.1.toArray⟩, .bool v.2])) := by
  have hlt := cell_lt hc
  have hlk := cell_lt hk
  go_enter Tryz.func120, Tryz.ntmps120
  go_wp2_with fail
  refine hcall.mono ?_
  rintro e w1 ⟨rfl, hb1⟩
  go_wp2
  go_ret2
  exact ⟨rfl, below_alloc hb1⟩
set_option maxRecDepth 100000 in
theorem vars_Get1_agent (h t key : ByteArray) (a : Option Addr) (n c br bk : Nat) (w : World) (hc : w.cell? ⟨br, 2, none⟩ = some (.func (.func 139) #[] #[])) (hk : w.cell? ⟨bk, 0, none⟩ = some (.string key)) (v : Bs × Bool)
    (hcall : Calls Tryz.prog 139 #[.agg #[.string h, .string t, .slice a n c], .string key] (w.alloc (.cells #[.string h, .string t, .slice a n c] 59)) (Ret (w.alloc (.cells #[.string h, .string t, .slice a n c] 59)) (.tuple #[.string ⟨v.1.toArray⟩, .bool v.2]))) :
    Calls Tryz.prog 120 #[.agg #[.string h, .string t, .slice a n c], .pointer (some ⟨br, 0, none⟩), .pointer (some ⟨bk, 0, none⟩)] w (Ret w (.tuple #[.string ⟨v.1.toArray⟩, .bool v.2])) := by
  have hlt := cell_lt hc
  have hlk := cell_lt hk
  go_enter Tryz.func120, Tryz.ntmps120
  go_wp2_with fail
  refine hcall.mono ?_
  rintro e w1 ⟨rfl, hb1⟩
  go_wp2
  go_ret2
  exact ⟨rfl, below_alloc hb1⟩
set_option maxRecDepth 100000 in
theorem vars_Get1_cookie (h t key : ByteArray) (a : Option Addr) (n c br bk : Nat) (w : World) (hc : w.cell? ⟨br, 2, none⟩ = some (.func (.func 141) #[] #[])) (hk : w.cell? ⟨bk, 0, none⟩ = some (.string key)) (v : Bs × Bool)
    (hcall : Calls Tryz.prog 141 #[.agg #[.string h, .string t, .slice a n c], .string key] (w.alloc (.cells #[.string h, .string t, .slice a n c] 59)) (Ret (w.alloc (.cells #[.string h, .string t, .slice a n c] 59)) (.tuple #[.string ⟨v.1.toArray⟩, .bool v.2]))) :
    Calls Tryz.prog 120 #[.agg #[.string h, .string t, .slice a n c], .pointer (some ⟨br, 0, none⟩), .pointer (some ⟨bk, 0, none⟩)] w (Ret w (.tuple #[.string ⟨v.1.toArray⟩, .bool v.2])) := by
  have hlt := cell_lt hc
  have hlk := cell_lt hk
  go_enter Tryz.func120, Tryz.ntmps120
  go_wp2_with fail
  refine hcall.mono ?_
  rintro e w1 ⟨rfl, hb1⟩
  go_wp2
  go_ret2
  exact ⟨rfl, below_alloc hb1⟩
set_option maxRecDepth 100000 in
theorem vars_Get1_asked (h t key : ByteArray) (a : Option Addr) (n c br bk : Nat) (w : World) (hc : w.cell? ⟨br, 2, none⟩ = some (.func (.func 143) #[] #[])) (hk : w.cell? ⟨bk, 0, none⟩ = some (.string key)) (v : Bs × Bool)
    (hcall : Calls Tryz.prog 143 #[.agg #[.string h, .string t, .slice a n c], .string key] (w.alloc (.cells #[.string h, .string t, .slice a n c] 59)) (Ret (w.alloc (.cells #[.string h, .string t, .slice a n c] 59)) (.tuple #[.string ⟨v.1.toArray⟩, .bool v.2]))) :
    Calls Tryz.prog 120 #[.agg #[.string h, .string t, .slice a n c], .pointer (some ⟨br, 0, none⟩), .pointer (some ⟨bk, 0, none⟩)] w (Ret w (.tuple #[.string ⟨v.1.toArray⟩, .bool v.2])) := by
  have hlt := cell_lt hc
  have hlk := cell_lt hk
  go_enter Tryz.func120, Tryz.ntmps120
  go_wp2_with fail
  refine hcall.mono ?_
  rintro e w1 ⟨rfl, hb1⟩
  go_wp2
  go_ret2
  exact ⟨rfl, below_alloc hb1⟩
set_option maxRecDepth 100000 in
theorem vars_Get1_language (h t key : ByteArray) (a : Option Addr) (n c br bk : Nat) (w : World) (hc : w.cell? ⟨br, 2, none⟩ = some (.func (.func 144) #[] #[])) (hk : w.cell? ⟨bk, 0, none⟩ = some (.string key)) (v : Bs × Bool)
    (hcall : Calls Tryz.prog 144 #[.agg #[.string h, .string t, .slice a n c], .string key] (w.alloc (.cells #[.string h, .string t, .slice a n c] 59)) (Ret (w.alloc (.cells #[.string h, .string t, .slice a n c] 59)) (.tuple #[.string ⟨v.1.toArray⟩, .bool v.2]))) :
    Calls Tryz.prog 120 #[.agg #[.string h, .string t, .slice a n c], .pointer (some ⟨br, 0, none⟩), .pointer (some ⟨bk, 0, none⟩)] w (Ret w (.tuple #[.string ⟨v.1.toArray⟩, .bool v.2])) := by
  have hlt := cell_lt hc
  have hlk := cell_lt hk
  go_enter Tryz.func120, Tryz.ntmps120
  go_wp2_with fail
  refine hcall.mono ?_
  rintro e w1 ⟨rfl, hb1⟩
  go_wp2
  go_ret2
  exact ⟨rfl, below_alloc hb1⟩
set_option maxRecDepth 100000 in
set_option maxHeartbeats 400000 in
theorem getn_false (h t name key : ByteArray) (a : Option Addr) (n c : Nat) (w : World) (hn : vknown name.data.toList = false) :
    Calls Tryz.prog 99 #[.agg #[.string h, .string t, .slice a n c], .string name, .string key, .bool false] w (Ret w (.tuple #[.string ⟨#[]⟩, .bool false])) := by
  have HN := Lib.hid hn
  clear hn
  have hb0 : Below w.heap.size w ((w.alloc (.cells #[.string h, .string t, .slice a n c] 59)).alloc (.cells #[.string key] 9)) := ((Below.refl _ _).alloc (Nat.le_refl _) _).alloc (by simp) _
  have HB0 := Lib.hid hb0
  clear hb0
  go_enter Tryz.func99, Tryz.ntmps99
  go_wp2_with fail
  refine (vars_rules _).mono ?_
  rintro e w1 ⟨b, p1, p2, p3, rfl, hR, hb1⟩
  have hbw1 := HB0.out.trans (hb1.mono HB0.out.size)
  have hl := look2_6 hR HN.out
  go_wp2
  go_ret2
  exact ⟨rfl, hbw1.alloc hbw1.size _⟩
set_option maxRecDepth 100000 in
set_option maxHeartbeats 400000 in
theorem getn_true (h t name key : ByteArray) (a : Option Addr) (n c : Nat) (w : World) (hn : vknown name.data.toList = false) :
    Calls Tryz.prog 99 #[.agg #[.string h, .string t, .slice a n c], .string name, .string key, .bool true] w (Ret w (.tuple #[.string ⟨#[]⟩, .bool false])) := by
  have HN := Lib.hid hn
  clear hn
  have hb0 : Below w.heap.size w ((w.alloc (.cells #[.string h, .string t, .slice a n c] 59)).alloc (.cells #[.string key] 9)) := ((Below.refl _ _).alloc (Nat.le_refl _) _).alloc (by simp) _
  have HB0 := Lib.hid hb0
  clear hb0
  go_enter Tryz.func99, Tryz.ntmps99
  go_wp2_with fail
  refine (vars_rules _).mono ?_
  rintro e w1 ⟨b, p1, p2, p3, rfl, hR, hb1⟩
  have hbw1 := HB0.out.trans (hb1.mono HB0.out.size)
  have hl := look2_6 hR HN.out
  go_wp2
  go_ret2
  exact ⟨rfl, hbw1.alloc hbw1.size _⟩
set_option maxRecDepth 100000 in
set_option maxHeartbeats 400000 in
theorem getw_0 (h t key : ByteArray) (a : Option Addr) (n c : Nat) (w : World) (v : Bs × Bool) (hv0 : v.2 = false → v.1 = [])
    (hcall : ∀ W, Below w.heap.size w W → Calls Tryz.prog 136 #[.agg #[.string h, .string t, .slice a n c]] W (Ret W (.tuple #[.string ⟨v.1.toArray⟩, .bool v.2]))) :
    Calls Tryz.prog 99 #[.agg #[.string h, .string t, .slice a n c], .string ⟨nHost.toArray⟩, .string key, .bool false] w (Ret w (.tuple #[.string ⟨v.1.toArray⟩, .bool v.2])) := by
  have HV0 := Lib.hid hv0
  clear hv0
  have hb0 : Below w.heap.size w ((w.alloc (.cells #[.string h, .string t, .slice a n c] 59)).alloc (.cells #[.string key] 9)) := ((Below.refl _ _).alloc (Nat.le_refl _) _).alloc (by simp) _
  have d0 : ((w.alloc (.cells #[.string h, .string t, .slice a n c] 59)).alloc (.cells #[.string key] 9)).cell? ⟨w.heap.size, 0, none⟩ = some (.string h) := (((Below.refl _ _).alloc (Nat.le_refl _) _).cell (p := ⟨w.heap.size, 0, none⟩) (by show w.heap.size < _; simp)).trans (cell_new w _ _ 0 _ rfl)
  have d1 : ((w.alloc (.cells #[.string h, .string t, .slice a n c] 59)).alloc (.cells #[.string key] 9)).cell? ⟨w.heap.size, 1, none⟩ = some (.string t) := (((Below.refl _ _).alloc (Nat.le_refl _) _).cell (p := ⟨w.heap.size, 1, none⟩) (by show w.heap.size < _; simp)).trans (cell_new w _ _ 1 _ rfl)
  have d2 : ((w.alloc (.cells #[.string h, .string t, .slice a n c] 59)).alloc (.cells #[.string key] 9)).cell? ⟨w.heap.size, 2, none⟩ = some (.slice a n c) := (((Below.refl _ _).alloc (Nat.le_refl _) _).cell (p := ⟨w.heap.size, 2, none⟩) (by show w.heap.size < _; simp)).trans (cell_new w _ _ 2 _ rfl)
  have d3 := cell_new (w.alloc (.cells #[.string h, .string t, .slice a n c] 59)) #[.string key] 9 0 _ rfl
  rw [World.size_alloc] at d3
  have D0 := Lib.hid d0
  have D1 := Lib.hid d1
  have D2 := Lib.hid d2
  have D3 := Lib.hid d3
  have HB0 := Lib.hid hb0
  clear d0 d1 d2 d3 hb0
  go_enter Tryz.func99, Tryz.ntmps99
  go_wp2_with fail
  refine (vars_rules _).mono ?_
  rintro e w1 ⟨b, p1, p2, p3, rfl, hR, hb1⟩
  have e0 := ((bcell hb1).1 _ 0 (cell_lt D0.out)).trans D0.out
  have e1 := ((bcell hb1).1 _ 1 (cell_lt D1.out)).trans D1.out
  have e2 := ((bcell hb1).1 _ 2 (cell_lt D2.out)).trans D2.out
  have e3 := ((bcell hb1).1 _ 0 (cell_lt D3.out)).trans D3.out
  have l0 := cell_lt e0
  have l3 := cell_lt e3
  have hbw1 := HB0.out.trans (hb1.mono HB0.out.size)
  clear hb1 D0 D1 D2 D3 HB0
  have hl := look2_0 hR
  go_wp2_with fail
  refine (hcall _ (hbw1.alloc hbw1.size _)).mono ?_
  rintro e w2 ⟨rfl, hb2⟩
  have hbw2 := hbw1.trans ((below_alloc hb2).mono hbw1.size)
  obtain ⟨x, y⟩ := v
  rcases y with _ | _
  · have hx : x = [] := HV0.out rfl
    have HX := Lib.hid hx
    clear hx
    go_wp2
    go_ret2
    rw [HX.out]
    exact ⟨rfl, hbw2⟩
  · go_wp2
    go_ret2
    exact ⟨rfl, hbw2⟩
set_option maxRecDepth 100000 in
set_option maxHeartbeats 400000 in
theorem getp_0 (h t key : ByteArray) (a : Option Addr) (n c : Nat) (w : World) (v : Bs × Bool) (hv0 : v.2 = false → v.1 = []) (hkey : key.size ≤ 140737488351232) (hvk : vkey key.data.toList = true)
    (hcall : ∀ W, Below w.heap.size w W → Calls Tryz.prog 137 #[.agg #[.string h, .string t, .slice a n c], .string key] W (Ret W (.tuple #[.string ⟨v.1.toArray⟩, .bool v.2]))) :
    Calls Tryz.prog 99 #[.agg #[.string h, .string t, .slice a n c], .string ⟨nHost.toArray⟩, .string key, .bool true] w (Ret w (.tuple #[.string ⟨v.1.toArray⟩, .bool v.2])) := by
  have HV0 := Lib.hid hv0
  clear hv0
  have HVK := Lib.hid hvk
  clear hvk
  have hb0 : Below w.heap.size w ((w.alloc (.cells #[.string h, .string t, .slice a n c] 59)).alloc (.cells #[.string key] 9)) := ((Below.refl _ _).alloc (Nat.le_refl _) _).alloc (by simp) _
  have d0 : ((w.alloc (.cells #[.string h, .string t, .slice a n c] 59)).alloc (.cells #[.string key] 9)).cell? ⟨w.heap.size, 0, none⟩ = some (.string h) := (((Below.refl _ _).alloc (Nat.le_refl _) _).cell (p := ⟨w.heap.size, 0, none⟩) (by show w.heap.size < _; simp)).trans (cell_new w _ _ 0 _ rfl)
  have d1 : ((w.alloc (.cells #[.string h, .string t, .slice a n c] 59)).alloc (.cells #[.string key] 9)).cell? ⟨w.heap.size, 1, none⟩ = some (.string t) := (((Below.refl _ _).alloc (Nat.le_refl _) _).cell (p := ⟨w.heap.size, 1, none⟩) (by show w.heap.size < _; simp)).trans (cell_new w _ _ 1 _ rfl)
  have d2 : ((w.alloc (.cells #[.string h, .string t, .slice a n c] 59)).alloc (.cells #[.string key] 9)).cell? ⟨w.heap.size, 2, none⟩ = some (.slice a n c) := (((Below.refl _ _).alloc (Nat.le_refl _) _).cell (p := ⟨w.heap.size, 2, none⟩) (by show w.heap.size < _; simp)).trans (cell_new w _ _ 2 _ rfl)
  have d3 := cell_new (w.alloc (.cells #[.string h, .string t, .slice a n c] 59)) #[.string key] 9 0 _ rfl
  rw [World.size_alloc] at d3
  have D0 := Lib.hid d0
  have D1 := Lib.hid d1
  have D2 := Lib.hid d2
  have D3 := Lib.hid d3
  have HB0 := Lib.hid hb0
  clear d0 d1 d2 d3 hb0
  go_enter Tryz.func99, Tryz.ntmps99
  go_wp2_with fail
  refine (vars_rules _).mono ?_
  rintro e w1 ⟨b, p1, p2, p3, rfl, hR, hb1⟩
  have e0 := ((bcell hb1).1 _ 0 (cell_lt D0.out)).trans D0.out
  have e1 := ((bcell hb1).1 _ 1 (cell_lt D1.out)).trans D1.out
  have e2 := ((bcell hb1).1 _ 2 (cell_lt D2.out)).trans D2.out
  have e3 := ((bcell hb1).1 _ 0 (cell_lt D3.out)).trans D3.out
  have l0 := cell_lt e0
  have l3 := cell_lt e3
  have hbw1 := HB0.out.trans (hb1.mono HB0.out.size)
  clear hb1 D0 D1 D2 D3 HB0
  have hl := look2_0 hR
  go_wp2_with fail
  refine (vars_Key key _ hkey).mono ?_
  rintro e w2 ⟨rfl, hb2⟩
  rw [HVK.out]
  have q := fun o => (bcell hb2).1 w1.heap.size o (by simp)
  have r1 := (q 1).trans (cell_new w1 _ _ 1 _ rfl)
  have r2 := (q 2).trans (cell_new w1 _ _ 2 _ rfl)
  have hb12 := below_alloc hb2
  replace e0 := ((bcell hb12).1 _ 0 l0).trans e0
  replace e1 := ((bcell hb12).1 _ 1 l0).trans e1
  replace e2 := ((bcell hb12).1 _ 2 l0).trans e2
  replace e3 := ((bcell hb12).1 _ 0 l3).trans e3
  have hbw2 := hbw1.trans (hb12.mono hbw1.size)
  clear q hb2 hb12
  go_wp2_with fail
  refine (vars_Get1_never h t key a n c w1.heap.size (w.heap.size + 1) w2 r2 e3 v (hcall _ (hbw2.alloc hbw2.size _))).mono ?_
  rintro e w3 ⟨rfl, hb3⟩
  have hbw3 := hbw2.trans (hb3.mono hbw2.size)
  obtain ⟨x, y⟩ := v
  rcases y with _ | _
  · have hx : x = [] := HV0.out rfl
    have HX := Lib.hid hx
    clear hx
    go_wp2
    go_ret2
    rw [HX.out]
    exact ⟨rfl, hbw3⟩
  · go_wp2
    go_ret2
    exact ⟨rfl, hbw3⟩
set_option maxRecDepth 100000 in
set_option maxHeartbeats 400000 in
theorem getb_0 (h t key : ByteArray) (a : Option Addr) (n c : Nat) (w : World) (hkey : key.size ≤ 140737488351232) (hvk : vkey key.data.toList = false) :
    Calls Tryz.prog 99 #[.agg #[.string h, .string t, .slice a n c], .string ⟨nHost.toArray⟩, .string key, .bool true] w (Ret w (.tuple #[.string ⟨#[]⟩, .bool false])) := by
  have HVK := Lib.hid hvk
  clear hvk
  have hb0 : Below w.heap.size w ((w.alloc (.cells #[.string h, .string t, .slice a n c] 59)).alloc (.cells #[.string key] 9)) := ((Below.refl _ _).alloc (Nat.le_refl _) _).alloc (by simp) _
  have d0 : ((w.alloc (.cells #[.string h, .string t, .slice a n c] 59)).alloc (.cells #[.string key] 9)).cell? ⟨w.heap.size, 0, none⟩ = some (.string h) := (((Below.refl _ _).alloc (Nat.le_refl _) _).cell (p := ⟨w.heap.size, 0, none⟩) (by show w.heap.size < _; simp)).trans (cell_new w _ _ 0 _ rfl)
  have d1 : ((w.alloc (.cells #[.string h, .string t, .slice a n c] 59)).alloc (.cells #[.string key] 9)).cell? ⟨w.heap.size, 1, none⟩ = some (.string t) := (((Below.refl _ _).alloc (Nat.le_refl _) _).cell (p := ⟨w.heap.size, 1, none⟩) (by show w.heap.size < _; simp)).trans (cell_new w _ _ 1 _ rfl)
  have d2 : ((w.alloc (.cells #[.string h, .string t, .slice a n c] 59)).alloc (.cells #[.string key] 9)).cell? ⟨w.heap.size, 2, none⟩ = some (.slice a n c) := (((Below.refl _ _).alloc (Nat.le_refl _) _).cell (p := ⟨w.heap.size, 2, none⟩) (by show w.heap.size < _; simp)).trans (cell_new w _ _ 2 _ rfl)
  have d3 := cell_new (w.alloc (.cells #[.string h, .string t, .slice a n c] 59)) #[.string key] 9 0 _ rfl
  rw [World.size_alloc] at d3
  have D0 := Lib.hid d0
  have D1 := Lib.hid d1
  have D2 := Lib.hid d2
  have D3 := Lib.hid d3
  have HB0 := Lib.hid hb0
  clear d0 d1 d2 d3 hb0
  go_enter Tryz.func99, Tryz.ntmps99
  go_wp2_with fail
  refine (vars_rules _).mono ?_
  rintro e w1 ⟨b, p1, p2, p3, rfl, hR, hb1⟩
  have e0 := ((bcell hb1).1 _ 0 (cell_lt D0.out)).trans D0.out
  have e1 := ((bcell hb1).1 _ 1 (cell_lt D1.out)).trans D1.out
  have e2 := ((bcell hb1).1 _ 2 (cell_lt D2.out)).trans D2.out
  have e3 := ((bcell hb1).1 _ 0 (cell_lt D3.out)).trans D3.out
  have l0 := cell_lt e0
  have l3 := cell_lt e3
  have hbw1 := HB0.out.trans (hb1.mono HB0.out.size)
  clear hb1 D0 D1 D2 D3 HB0
  have hl := look2_0 hR
  go_wp2_with fail
  refine (vars_Key key _ hkey).mono ?_
  rintro e w2 ⟨rfl, hb2⟩
  rw [HVK.out]
  have q := fun o => (bcell hb2).1 w1.heap.size o (by simp)
  have r1 := (q 1).trans (cell_new w1 _ _ 1 _ rfl)
  have r2 := (q 2).trans (cell_new w1 _ _ 2 _ rfl)
  have hb12 := below_alloc hb2
  replace e0 := ((bcell hb12).1 _ 0 l0).trans e0
  replace e1 := ((bcell hb12).1 _ 1 l0).trans e1
  replace e2 := ((bcell hb12).1 _ 2 l0).trans e2
  replace e3 := ((bcell hb12).1 _ 0 l3).trans e3
  have hbw2 := hbw1.trans (hb12.mono hbw1.size)
  clear q hb2 hb12
  go_wp2
  go_ret2
  exact ⟨rfl, hbw2⟩
set_option maxRecDepth 100000 in
set_option maxHeartbeats 400000 in
theorem getw_1 (h t key : ByteArray) (a : Option Addr) (n c : Nat) (w : World) (v : Bs × Bool) (hv0 : v.2 = false → v.1 = [])
    (hcall : ∀ W p, Below w.heap.size w W → W.cell? ⟨p, 0, none⟩ = some (.string ⟨refererName.toArray⟩) → Calls Tryz.prog 158 #[.agg #[.string h, .string t, .slice a n c], .pointer (some ⟨p, 0, none⟩)] W (Ret W (.tuple #[.string ⟨v.1.toArray⟩, .bool v.2]))) :
    Calls Tryz.prog 99 #[.agg #[.string h, .string t, .slice a n c], .string ⟨nReferer.toArray⟩, .string key, .bool false] w (Ret w (.tuple #[.string ⟨v.1.toArray⟩, .bool v.2])) := by
  have HV0 := Lib.hid hv0
  clear hv0
  have hb0 : Below w.heap.size w ((w.alloc (.cells #[.string h, .string t, .slice a n c] 59)).alloc (.cells #[.string key] 9)) := ((Below.refl _ _).alloc (Nat.le_refl _) _).alloc (by simp) _
  have d0 : ((w.alloc (.cells #[.string h, .string t, .slice a n c] 59)).alloc (.cells #[.string key] 9)).cell? ⟨w.heap.size, 0, none⟩ = some (.string h) := (((Below.refl _ _).alloc (Nat.le_refl _) _).cell (p := ⟨w.heap.size, 0, none⟩) (by show w.heap.size < _; simp)).trans (cell_new w _ _ 0 _ rfl)
  have d1 : ((w.alloc (.cells #[.string h, .string t, .slice a n c] 59)).alloc (.cells #[.string key] 9)).cell? ⟨w.heap.size, 1, none⟩ = some (.string t) := (((Below.refl _ _).alloc (Nat.le_refl _) _).cell (p := ⟨w.heap.size, 1, none⟩) (by show w.heap.size < _; simp)).trans (cell_new w _ _ 1 _ rfl)
  have d2 : ((w.alloc (.cells #[.string h, .string t, .slice a n c] 59)).alloc (.cells #[.string key] 9)).cell? ⟨w.heap.size, 2, none⟩ = some (.slice a n c) := (((Below.refl _ _).alloc (Nat.le_refl _) _).cell (p := ⟨w.heap.size, 2, none⟩) (by show w.heap.size < _; simp)).trans (cell_new w _ _ 2 _ rfl)
  have d3 := cell_new (w.alloc (.cells #[.string h, .string t, .slice a n c] 59)) #[.string key] 9 0 _ rfl
  rw [World.size_alloc] at d3
  have D0 := Lib.hid d0
  have D1 := Lib.hid d1
  have D2 := Lib.hid d2
  have D3 := Lib.hid d3
  have HB0 := Lib.hid hb0
  clear d0 d1 d2 d3 hb0
  go_enter Tryz.func99, Tryz.ntmps99
  go_wp2_with fail
  refine (vars_rules _).mono ?_
  rintro e w1 ⟨b, p1, p2, p3, rfl, hR, hb1⟩
  have e0 := ((bcell hb1).1 _ 0 (cell_lt D0.out)).trans D0.out
  have e1 := ((bcell hb1).1 _ 1 (cell_lt D1.out)).trans D1.out
  have e2 := ((bcell hb1).1 _ 2 (cell_lt D2.out)).trans D2.out
  have e3 := ((bcell hb1).1 _ 0 (cell_lt D3.out)).trans D3.out
  have l0 := cell_lt e0
  have l3 := cell_lt e3
  have hbw1 := HB0.out.trans (hb1.mono HB0.out.size)
  clear hb1 D0 D1 D2 D3 HB0
  have hl := look2_1 hR
  go_wp2_with fail
  refine (hcall _ p1 (hbw1.alloc hbw1.size _) (hR.next ((Below.refl _ _).alloc (Nat.le_refl _) _)).c1).mono ?_
  rintro e w2 ⟨rfl, hb2⟩
  have hbw2 := hbw1.trans ((below_alloc hb2).mono hbw1.size)
  obtain ⟨x, y⟩ := v
  rcases y with _ | _
  · have hx : x = [] := HV0.out rfl
    have HX := Lib.hid hx
    clear hx
    go_wp2
    go_ret2
    rw [HX.out]
    exact ⟨rfl, hbw2⟩
  · go_wp2
    go_ret2
    exact ⟨rfl, hbw2⟩
set_option maxRecDepth 100000 in
set_option maxHeartbeats 400000 in
theorem getp_1 (h t key : ByteArray) (a : Option Addr) (n c : Nat) (w : World) (v : Bs × Bool) (hv0 : v.2 = false → v.1 = []) (hkey : key.size ≤ 140737488351232) (hvk : vkey key.data.toList = true)
    (hcall : ∀ W, Below w.heap.size w W → Calls Tryz.prog 137 #[.agg #[.string h, .string t, .slice a n c], .string key] W (Ret W (.tuple #[.string ⟨v.1.toArray⟩, .bool v.2]))) :
    Calls Tryz.prog 99 #[.agg #[.string h, .string t, .slice a n c], .string ⟨nReferer.toArray⟩, .string key, .bool true] w (Ret w (.tuple #[.string ⟨v.1.toArray⟩, .bool v.2])) := by
  have HV0 := Lib.hid hv0
  clear hv0
  have HVK := Lib.hid hvk
  clear hvk
  have hb0 : Below w.heap.size w ((w.alloc (.cells #[.string h, .string t, .slice a n c] 59)).alloc (.cells #[.string key] 9)) := ((Below.refl _ _).alloc (Nat.le_refl _) _).alloc (by simp) _
  have d0 : ((w.alloc (.cells #[.string h, .string t, .slice a n c] 59)).alloc (.cells #[.string key] 9)).cell? ⟨w.heap.size, 0, none⟩ = some (.string h) := (((Below.refl _ _).alloc (Nat.le_refl _) _).cell (p := ⟨w.heap.size, 0, none⟩) (by show w.heap.size < _; simp)).trans (cell_new w _ _ 0 _ rfl)
  have d1 : ((w.alloc (.cells #[.string h, .string t, .slice a n c] 59)).alloc (.cells #[.string key] 9)).cell? ⟨w.heap.size, 1, none⟩ = some (.string t) := (((Below.refl _ _).alloc (Nat.le_refl _) _).cell (p := ⟨w.heap.size, 1, none⟩) (by show w.heap.size < _; simp)).trans (cell_new w _ _ 1 _ rfl)
  have d2 : ((w.alloc (.cells #[.string h, .string t, .slice a n c] 59)).alloc (.cells #[.string key] 9)).cell? ⟨w.heap.size, 2, none⟩ = some (.slice a n c) := (((Below.refl _ _).alloc (Nat.le_refl _) _).cell (p := ⟨w.heap.size, 2, none⟩) (by show w.heap.size < _; simp)).trans (cell_new w _ _ 2 _ rfl)
  have d3 := cell_new (w.alloc (.cells #[.string h, .string t, .slice a n c] 59)) #[.string key] 9 0 _ rfl
  rw [World.size_alloc] at d3
  have D0 := Lib.hid d0
  have D1 := Lib.hid d1
  have D2 := Lib.hid d2
  have D3 := Lib.hid d3
  have HB0 := Lib.hid hb0
  clear d0 d1 d2 d3 hb0
  go_enter Tryz.func99, Tryz.ntmps99
  go_wp2_with fail
  refine (vars_rules _).mono ?_
  rintro e w1 ⟨b, p1, p2, p3, rfl, hR, hb1⟩
  have e0 := ((bcell hb1).1 _ 0 (cell_lt D0.out)).trans D0.out
  have e1 := ((bcell hb1).1 _ 1 (cell_lt D1.out)).trans D1.out
  have e2 := ((bcell hb1).1 _ 2 (cell_lt D2.out)).trans D2.out
  have e3 := ((bcell hb1).1 _ 0 (cell_lt D3.out)).trans D3.out
  have l0 := cell_lt e0
  have l3 := cell_lt e3
  have hbw1 := HB0.out.trans (hb1.mono HB0.out.size)
  clear hb1 D0 D1 D2 D3 HB0
  have hl := look2_1 hR
  go_wp2_with fail
  refine (vars_Key key _ hkey).mono ?_
  rintro e w2 ⟨rfl, hb2⟩
  rw [HVK.out]
  have q := fun o => (bcell hb2).1 w1.heap.size o (by simp)
  have r1 := (q 1).trans (cell_new w1 _ _ 1 _ rfl)
  have r2 := (q 2).trans (cell_new w1 _ _ 2 _ rfl)
  have hb12 := below_alloc hb2
  replace e0 := ((bcell hb12).1 _ 0 l0).trans e0
  replace e1 := ((bcell hb12).1 _ 1 l0).trans e1
  replace e2 := ((bcell hb12).1 _ 2 l0).trans e2
  replace e3 := ((bcell hb12).1 _ 0 l3).trans e3
  have hbw2 := hbw1.trans (hb12.mono hbw1.size)
  clear q hb2 hb12
  go_wp2_with fail
  refine (vars_Get1_never h t key a n c w1.heap.size (w.heap.size + 1) w2 r2 e3 v (hcall _ (hbw2.alloc hbw2.size _))).mono ?_
  rintro e w3 ⟨rfl, hb3⟩
  have hbw3 := hbw2.trans (hb3.mono hbw2.size)
  obtain ⟨x, y⟩ := v
  rcases y with _ | _
  · have hx : x = [] := HV0.out rfl
    have HX := Lib.hid hx
    clear hx
    go_wp2
    go_ret2
    rw [HX.out]
    exact ⟨rfl, hbw3⟩
  · go_wp2
    go_ret2
    exact ⟨rfl, hbw3⟩
set_option maxRecDepth 100000 in
set_option maxHeartbeats 400000 in
theorem getb_1 (h t key : ByteArray) (a : Option Addr) (n c : Nat) (w : World) (hkey : key.size ≤ 140737488351232) (hvk : vkey key.data.toList = false) :
    Calls Tryz.prog 99 #[.agg #[.string h, .string t, .slice a n c], .string ⟨nReferer.toArray⟩, .string key, .bool true] w (Ret w (.tuple #[.string ⟨#[]⟩, .bool false])) := by
  have HVK := Lib.hid hvk
  clear hvk
  have hb0 : Below w.heap.size w ((w.alloc (.cells #[.string h, .string t, .slice a n c] 59)).alloc (.cells #[.string key] 9)) := ((Below.refl _ _).alloc (Nat.le_refl _) _).alloc (by simp) _
  have d0 : ((w.alloc (.cells #[.string h, .string t, .slice a n c] 59)).alloc (.cells #[.string key] 9)).cell? ⟨w.heap.size, 0, none⟩ = some (.string h) := (((Below.refl _ _).alloc (Nat.le_refl _) _).cell (p := ⟨w.heap.size, 0, none⟩) (by show w.heap.size < _; simp)).trans (cell_new w _ _ 0 _ rfl)
  have d1 : ((w.alloc (.cells #[.string h, .string t, .slice a n c] 59)).alloc (.cells #[.string key] 9)).cell? ⟨w.heap.size, 1, none⟩ = some (.string t) := (((Below.refl _ _).alloc (Nat.le_refl _) _).cell (p := ⟨w.heap.size, 1, none⟩) (by show w.heap.size < _; simp)).trans (cell_new w _ _ 1 _ rfl)
  have d2 : ((w.alloc (.cells #[.string h, .string t, .slice a n c] 59)).alloc (.cells #[.string key] 9)).cell? ⟨w.heap.size, 2, none⟩ = some (.slice a n c) := (((Below.refl _ _).alloc (Nat.le_refl _) _).cell (p := ⟨w.heap.size, 2, none⟩) (by show w.heap.size < _; simp)).trans (cell_new w _ _ 2 _ rfl)
  have d3 := cell_new (w.alloc (.cells #[.string h, .string t, .slice a n c] 59)) #[.string key] 9 0 _ rfl
  rw [World.size_alloc] at d3
  have D0 := Lib.hid d0
  have D1 := Lib.hid d1
  have D2 := Lib.hid d2
  have D3 := Lib.hid d3
  have HB0 := Lib.hid hb0
  clear d0 d1 d2 d3 hb0
  go_enter Tryz.func99, Tryz.ntmps99
  go_wp2_with fail
  refine (vars_rules _).mono ?_
  rintro e w1 ⟨b, p1, p2, p3, rfl, hR, hb1⟩
  have e0 := ((bcell hb1).1 _ 0 (cell_lt D0.out)).trans D0.out
  have e1 := ((bcell hb1).1 _ 1 (cell_lt D1.out)).trans D1.out
  have e2 := ((bcell hb1).1 _ 2 (cell_lt D2.out)).trans D2.out
  have e3 := ((bcell hb1).1 _ 0 (cell_lt D3.out)).trans D3.out
  have l0 := cell_lt e0
  have l3 := cell_lt e3
  have hbw1 := HB0.out.trans (hb1.mono HB0.out.size)
  clear hb1 D0 D1 D2 D3 HB0
  have hl := look2_1 hR
  go_wp2_with fail
  refine (vars_Key key _ hkey).mono ?_
  rintro e w2 ⟨rfl, hb2⟩
  rw [HVK.out]
  have q := fun o => (bcell hb2).1 w1.heap.size o (by simp)
  have r1 := (q 1).trans (cell_new w1 _ _ 1 _ rfl)
  have r2 := (q 2).trans (cell_new w1 _ _ 2 _ rfl)
  have hb12 := below_alloc hb2
  replace e0 := ((bcell hb12).1 _ 0 l0).trans e0
  replace e1 := ((bcell hb12).1 _ 1 l0).trans e1
  replace e2 := ((bcell hb12).1 _ 2 l0).trans e2
  replace e3 := ((bcell hb12).1 _ 0 l3).trans e3
  have hbw2 := hbw1.trans (hb12.mono hbw1.size)
  clear q hb2 hb12
  go_wp2
  go_ret2
  exact ⟨rfl, hbw2⟩
set_option maxRecDepth 100000 in
set_option maxHeartbeats 400000 in
theorem getw_2 (h t key : ByteArray) (a : Option Addr) (n c : Nat) (w : World) (v : Bs × Bool) (hv0 : v.2 = false → v.1 = [])
    (hcall : ∀ W p, Below w.heap.size w W → W.cell? ⟨p, 0, none⟩ = some (.string ⟨agentName.toArray⟩) → Calls Tryz.prog 158 #[.agg #[.string h, .string t, .slice a n c], .pointer (some ⟨p, 0, none⟩)] W (Ret W (.tuple #[.string ⟨v.1.toArray⟩, .bool v.2]))) :
    Calls Tryz.prog 99 #[.agg #[.string h, .string t, .slice a n c], .string ⟨nAgent.toArray⟩, .string key, .bool false] w (Ret w (.tuple #[.string ⟨v.1.toArray⟩, .bool v.2])) := by
  have HV0 := Lib.hid hv0
  clear hv0
  have hb0 : Below w.heap.size w ((w.alloc (.cells #[.string h, .string t, .slice a n c] 59)).alloc (.cells #[.string key] 9)) := ((Below.refl _ _).alloc (Nat.le_refl _) _).alloc (by simp) _
  have d0 : ((w.alloc (.cells #[.string h, .string t, .slice a n c] 59)).alloc (.cells #[.string key] 9)).cell? ⟨w.heap.size, 0, none⟩ = some (.string h) := (((Below.refl _ _).alloc (Nat.le_refl _) _).cell (p := ⟨w.heap.size, 0, none⟩) (by show w.heap.size < _; simp)).trans (cell_new w _ _ 0 _ rfl)
  have d1 : ((w.alloc (.cells #[.string h, .string t, .slice a n c] 59)).alloc (.cells #[.string key] 9)).cell? ⟨w.heap.size, 1, none⟩ = some (.string t) := (((Below.refl _ _).alloc (Nat.le_refl _) _).cell (p := ⟨w.heap.size, 1, none⟩) (by show w.heap.size < _; simp)).trans (cell_new w _ _ 1 _ rfl)
  have d2 : ((w.alloc (.cells #[.string h, .string t, .slice a n c] 59)).alloc (.cells #[.string key] 9)).cell? ⟨w.heap.size, 2, none⟩ = some (.slice a n c) := (((Below.refl _ _).alloc (Nat.le_refl _) _).cell (p := ⟨w.heap.size, 2, none⟩) (by show w.heap.size < _; simp)).trans (cell_new w _ _ 2 _ rfl)
  have d3 := cell_new (w.alloc (.cells #[.string h, .string t, .slice a n c] 59)) #[.string key] 9 0 _ rfl
  rw [World.size_alloc] at d3
  have D0 := Lib.hid d0
  have D1 := Lib.hid d1
  have D2 := Lib.hid d2
  have D3 := Lib.hid d3
  have HB0 := Lib.hid hb0
  clear d0 d1 d2 d3 hb0
  go_enter Tryz.func99, Tryz.ntmps99
  go_wp2_with fail
  refine (vars_rules _).mono ?_
  rintro e w1 ⟨b, p1, p2, p3, rfl, hR, hb1⟩
  have e0 := ((bcell hb1).1 _ 0 (cell_lt D0.out)).trans D0.out
  have e1 := ((bcell hb1).1 _ 1 (cell_lt D1.out)).trans D1.out
  have e2 := ((bcell hb1).1 _ 2 (cell_lt D2.out)).trans D2.out
  have e3 := ((bcell hb1).1 _ 0 (cell_lt D3.out)).trans D3.out
  have l0 := cell_lt e0
  have l3 := cell_lt e3
  have hbw1 := HB0.out.trans (hb1.mono HB0.out.size)
  clear hb1 D0 D1 D2 D3 HB0
  have hl := look2_2 hR
  go_wp2_with fail
  refine (hcall _ p2 (hbw1.alloc hbw1.size _) (hR.next ((Below.refl _ _).alloc (Nat.le_refl _) _)).c2).mono ?_
  rintro e w2 ⟨rfl, hb2⟩
  have hbw2 := hbw1.trans ((below_alloc hb2).mono hbw1.size)
  obtain ⟨x, y⟩ := v
  rcases y with _ | _
  · have hx : x = [] := HV0.out rfl
    have HX := Lib.hid hx
    clear hx
    go_wp2
    go_ret2
    rw [HX.out]
    exact ⟨rfl, hbw2⟩
  · go_wp2
    go_ret2
    exact ⟨rfl, hbw2⟩
set_option maxRecDepth 100000 in
set_option maxHeartbeats 400000 in
theorem getp_2 (h t key : ByteArray) (a : Option Addr) (n c : Nat) (w : World) (v : Bs × Bool) (hv0 : v.2 = false → v.1 = []) (hkey : key.size ≤ 140737488351232) (hvk : vkey key.data.toList = true)
    (hcall : ∀ W, Below w.heap.size w W → Calls Tryz.prog 139 #[.agg #[.string h, .string t, .slice a n c], .string key] W (Ret W (.tuple #[.string ⟨v.1.toArray⟩, .bool v.2]))) :
    Calls Tryz.prog 99 #[.agg #[.string h, .string t, .slice a n c], .string ⟨nAgent.toArray⟩, .string key, .bool true] w (Ret w (.tuple #[.string ⟨v.1.toArray⟩, .bool v.2])) := by
  have HV0 := Lib.hid hv0
  clear hv0
  have HVK := Lib.hid hvk
  clear hvk
  have hb0 : Below w.heap.size w ((w.alloc (.cells #[.string h, .string t, .slice a n c] 59)).alloc (.cells #[.string key] 9)) := ((Below.refl _ _).alloc (Nat.le_refl _) _).alloc (by simp) _
  have d0 : ((w.alloc (.cells #[.string h, .string t, .slice a n c] 59)).alloc (.cells #[.string key] 9)).cell? ⟨w.heap.size, 0, none⟩ = some (.string h) := (((Below.refl _ _).alloc (Nat.le_refl _) _).cell (p := ⟨w.heap.size, 0, none⟩) (by show w.heap.size < _; simp)).trans (cell_new w _ _ 0 _ rfl)
  have d1 : ((w.alloc (.cells #[.string h, .string t, .slice a n c] 59)).alloc (.cells #[.string key] 9)).cell? ⟨w.heap.size, 1, none⟩ = some (.string t) := (((Below.refl _ _).alloc (Nat.le_refl _) _).cell (p := ⟨w.heap.size, 1, none⟩) (by show w.heap.size < _; simp)).trans (cell_new w _ _ 1 _ rfl)
  have d2 : ((w.alloc (.cells #[.string h, .string t, .slice a n c] 59)).alloc (.cells #[.string key] 9)).cell? ⟨w.heap.size, 2, none⟩ = some (.slice a n c) := (((Below.refl _ _).alloc (Nat.le_refl _) _).cell (p := ⟨w.heap.size, 2, none⟩) (by show w.heap.size < _; simp)).trans (cell_new w _ _ 2 _ rfl)
  have d3 := cell_new (w.alloc (.cells #[.string h, .string t, .slice a n c] 59)) #[.string key] 9 0 _ rfl
  rw [World.size_alloc] at d3
  have D0 := Lib.hid d0
  have D1 := Lib.hid d1
  have D2 := Lib.hid d2
  have D3 := Lib.hid d3
  have HB0 := Lib.hid hb0
  clear d0 d1 d2 d3 hb0
  go_enter Tryz.func99, Tryz.ntmps99
  go_wp2_with fail
  refine (vars_rules _).mono ?_
  rintro e w1 ⟨b, p1, p2, p3, rfl, hR, hb1⟩
  have e0 := ((bcell hb1).1 _ 0 (cell_lt D0.out)).trans D0.out
  have e1 := ((bcell hb1).1 _ 1 (cell_lt D1.out)).trans D1.out
  have e2 := ((bcell hb1).1 _ 2 (cell_lt D2.out)).trans D2.out
  have e3 := ((bcell hb1).1 _ 0 (cell_lt D3.out)).trans D3.out
  have l0 := cell_lt e0
  have l3 := cell_lt e3
  have hbw1 := HB0.out.trans (hb1.mono HB0.out.size)
  clear hb1 D0 D1 D2 D3 HB0
  have hl := look2_2 hR
  go_wp2_with fail
  refine (vars_Key key _ hkey).mono ?_
  rintro e w2 ⟨rfl, hb2⟩
  rw [HVK.out]
  have q := fun o => (bcell hb2).1 w1.heap.size o (by simp)
  have r1 := (q 1).trans (cell_new w1 _ _ 1 _ rfl)
  have r2 := (q 2).trans (cell_new w1 _ _ 2 _ rfl)
  have hb12 := below_alloc hb2
  replace e0 := ((bcell hb12).1 _ 0 l0).trans e0
  replace e1 := ((bcell hb12).1 _ 1 l0).trans e1
  replace e2 := ((bcell hb12).1 _ 2 l0).trans e2
  replace e3 := ((bcell hb12).1 _ 0 l3).trans e3
  have hbw2 := hbw1.trans (hb12.mono hbw1.size)
  clear q hb2 hb12
  go_wp2_with fail
  refine (vars_Get1_agent h t key a n c w1.heap.size (w.heap.size + 1) w2 r2 e3 v (hcall _ (hbw2.alloc hbw2.size _))).mono ?_
  rintro e w3 ⟨rfl, hb3⟩
  have hbw3 := hbw2.trans (hb3.mono hbw2.size)
  obtain ⟨x, y⟩ := v
  rcases y with _ | _
  · have hx : x = [] := HV0.out rfl
    have HX := Lib.hid hx
    clear hx
    go_wp2
    go_ret2
    rw [HX.out]
    exact ⟨rfl, hbw3⟩
  · go_wp2
    go_ret2
    exact ⟨rfl, hbw3⟩
set_option maxRecDepth 100000 in
set_option maxHeartbeats 400000 in
theorem getb_2 (h t key : ByteArray) (a : Option Addr) (n c : Nat) (w : World) (hkey : key.size ≤ 140737488351232) (hvk : vkey key.data.toList = false) :
    Calls Tryz.prog 99 #[.agg #[.string h, .string t, .slice a n c], .string ⟨nAgent.toArray⟩, .string key, .bool true] w (Ret w (.tuple #[.string ⟨#[]⟩, .bool false])) := by
  have HVK := Lib.hid hvk
  clear hvk
  have hb0 : Below w.heap.size w ((w.alloc (.cells #[.string h, .string t, .slice a n c] 59)).alloc (.cells #[.string key] 9)) := ((Below.refl _ _).alloc (Nat.le_refl _) _).alloc (by simp) _
  have d0 : ((w.alloc (.cells #[.string h, .string t, .slice a n c] 59)).alloc (.cells #[.string key] 9)).cell? ⟨w.heap.size, 0, none⟩ = some (.string h) := (((Below.refl _ _).alloc (Nat.le_refl _) _).cell (p := ⟨w.heap.size, 0, none⟩) (by show w.heap.size < _; simp)).trans (cell_new w _ _ 0 _ rfl)
  have d1 : ((w.alloc (.cells #[.string h, .string t, .slice a n c] 59)).alloc (.cells #[.string key] 9)).cell? ⟨w.heap.size, 1, none⟩ = some (.string t) := (((Below.refl _ _).alloc (Nat.le_refl _) _).cell (p := ⟨w.heap.size, 1, none⟩) (by show w.heap.size < _; simp)).trans (cell_new w _ _ 1 _ rfl)
  have d2 : ((w.alloc (.cells #[.string h, .string t, .slice a n c] 59)).alloc (.cells #[.string key] 9)).cell? ⟨w.heap.size, 2, none⟩ = some (.slice a n c) := (((Below.refl _ _).alloc (Nat.le_refl _) _).cell (p := ⟨w.heap.size, 2, none⟩) (by show w.heap.size < _; simp)).trans (cell_new w _ _ 2 _ rfl)
  have d3 := cell_new (w.alloc (.cells #[.string h, .string t, .slice a n c] 59)) #[.string key] 9 0 _ rfl
  rw [World.size_alloc] at d3
  have D0 := Lib.hid d0
  have D1 := Lib.hid d1
  have D2 := Lib.hid d2
  have D3 := Lib.hid d3
  have HB0 := Lib.hid hb0
  clear d0 d1 d2 d3 hb0
  go_enter Tryz.func99, Tryz.ntmps99
  go_wp2_with fail
  refine (vars_rules _).mono ?_
  rintro e w1 ⟨b, p1, p2, p3, rfl, hR, hb1⟩
  have e0 := ((bcell hb1).1 _ 0 (cell_lt D0.out)).trans D0.out
  have e1 := ((bcell hb1).1 _ 1 (cell_lt D1.out)).trans D1.out
  have e2 := ((bcell hb1).1 _ 2 (cell_lt D2.out)).trans D2.out
  have e3 := ((bcell hb1).1 _ 0 (cell_lt D3.out)).trans D3.out
  have l0 := cell_lt e0
  have l3 := cell_lt e3
  have hbw1 := HB0.out.trans (hb1.mono HB0.out.size)
  clear hb1 D0 D1 D2 D3 HB0
  have hl := look2_2 hR
  go_wp2_with fail
  refine (vars_Key key _ hkey).mono ?_
  rintro e w2 ⟨rfl, hb2⟩
  rw [HVK.out]
  have q := fun o => (bcell hb2).1 w1.heap.size o (by simp)
  have r1 := (q 1).trans (cell_new w1 _ _ 1 _ rfl)
  have r2 := (q 2).trans (cell_new w1 _ _ 2 _ rfl)
  have hb12 := below_alloc hb2
  replace e0 := ((bcell hb12).1 _ 0 l0).trans e0
  replace e1 := ((bcell hb12).1 _ 1 l0).trans e1
  replace e2 := ((bcell hb12).1 _ 2 l0).trans e2
  replace e3 := ((bcell hb12).1 _ 0 l3).trans e3
  have hbw2 := hbw1.trans (hb12.mono hbw1.size)
  clear q hb2 hb12
  go_wp2
  go_ret2
  exact ⟨rfl, hbw2⟩
set_option maxRecDepth 100000 in
set_option maxHeartbeats 400000 in
theorem getw_3 (h t key : ByteArray) (a : Option Addr) (n c : Nat) (w : World) (v : Bs × Bool) (hv0 : v.2 = false → v.1 = [])
    (hcall : ∀ W, Below w.heap.size w W → Calls Tryz.prog 140 #[.agg #[.string h, .string t, .slice a n c]] W (Ret W (.tuple #[.string ⟨v.1.toArray⟩, .bool v.2]))) :
    Calls Tryz.prog 99 #[.agg #[.string h, .string t, .slice a n c], .string ⟨nCookie.toArray⟩, .string key, .bool false] w (Ret w (.tuple #[.string ⟨v.1.toArray⟩, .bool v.2])) := by
  have HV0 := Lib.hid hv0
  clear hv0
  have hb0 : Below w.heap.size w ((w.alloc (.cells #[.string h, .string t, .slice a n c] 59)).alloc (.cells #[.string key] 9)) := ((Below.refl _ _).alloc (Nat.le_refl _) _).alloc (by simp) _
  have d0 : ((w.alloc (.cells #[.string h, .string t, .slice a n c] 59)).alloc (.cells #[.string key] 9)).cell? ⟨w.heap.size, 0, none⟩ = some (.string h) := (((Below.refl _ _).alloc (Nat.le_refl _) _).cell (p := ⟨w.heap.size, 0, none⟩) (by show w.heap.size < _; simp)).trans (cell_new w _ _ 0 _ rfl)
  have d1 : ((w.alloc (.cells #[.string h, .string t, .slice a n c] 59)).alloc (.cells #[.string key] 9)).cell? ⟨w.heap.size, 1, none⟩ = some (.string t) := (((Below.refl _ _).alloc (Nat.le_refl _) _).cell (p := ⟨w.heap.size, 1, none⟩) (by show w.heap.size < _; simp)).trans (cell_new w _ _ 1 _ rfl)
  have d2 : ((w.alloc (.cells #[.string h, .string t, .slice a n c] 59)).alloc (.cells #[.string key] 9)).cell? ⟨w.heap.size, 2, none⟩ = some (.slice a n c) := (((Below.refl _ _).alloc (Nat.le_refl _) _).cell (p := ⟨w.heap.size, 2, none⟩) (by show w.heap.size < _; simp)).trans (cell_new w _ _ 2 _ rfl)
  have d3 := cell_new (w.alloc (.cells #[.string h, .string t, .slice a n c] 59)) #[.string key] 9 0 _ rfl
  rw [World.size_alloc] at d3
  have D0 := Lib.hid d0
  have D1 := Lib.hid d1
  have D2 := Lib.hid d2
  have D3 := Lib.hid d3
  have HB0 := Lib.hid hb0
  clear d0 d1 d2 d3 hb0
  go_enter Tryz.func99, Tryz.ntmps99
  go_wp2_with fail
  refine (vars_rules _).mono ?_
  rintro e w1 ⟨b, p1, p2, p3, rfl, hR, hb1⟩
  have e0 := ((bcell hb1).1 _ 0 (cell_lt D0.out)).trans D0.out
  have e1 := ((bcell hb1).1 _ 1 (cell_lt D1.out)).trans D1.out
  have e2 := ((bcell hb1).1 _ 2 (cell_lt D2.out)).trans D2.out
  have e3 := ((bcell hb1).1 _ 0 (cell_lt D3.out)).trans D3.out
  have l0 := cell_lt e0
  have l3 := cell_lt e3
  have hbw1 := HB0.out.trans (hb1.mono HB0.out.size)
  clear hb1 D0 D1 D2 D3 HB0
  have hl := look2_3 hR
  go_wp2_with fail
  refine (hcall _ (hbw1.alloc hbw1.size _)).mono ?_
  rintro e w2 ⟨rfl, hb2⟩
  have hbw2 := hbw1.trans ((below_alloc hb2).mono hbw1.size)
  obtain ⟨x, y⟩ := v
  rcases y with _ | _
  · have hx : x = [] := HV0.out rfl
    have HX := Lib.hid hx
    clear hx
    go_wp2
    go_ret2
    rw [HX.out]
    exact ⟨rfl, hbw2⟩
  · go_wp2
    go_ret2
    exact ⟨rfl, hbw2⟩
set_option maxRecDepth 100000 in
set_option maxHeartbeats 400000 in
theorem getp_3 (h t key : ByteArray) (a : Option Addr) (n c : Nat) (w : World) (v : Bs × Bool) (hv0 : v.2 = false → v.1 = []) (hkey : key.size ≤ 140737488351232) (hvk : vkey key.data.toList = true)
    (hcall : ∀ W, Below w.heap.size w W → Calls Tryz.prog 141 #[.agg #[.string h, .string t, .slice a n c], .string key] W (Ret W (.tuple #[.string ⟨v.1.toArray⟩, .bool v.2]))) :
    Calls Tryz.prog 99 #[.agg #[.string h, .string t, .slice a n c], .string ⟨nCookie.toArray⟩, .string key, .bool true] w (Ret w (.tuple #[.string ⟨v.1.toArray⟩, .bool v.2])) := by
  have HV0 := Lib.hid hv0
  clear hv0
  have HVK := Lib.hid hvk
  clear hvk
  have hb0 : Below w.heap.size w ((w.alloc (.cells #[.string h, .string t, .slice a n c] 59)).alloc (.cells #[.string key] 9)) := ((Below.refl _ _).alloc (Nat.le_refl _) _).alloc (by simp) _
  have d0 : ((w.alloc (.cells #[.string h, .string t, .slice a n c] 59)).alloc (.cells #[.string key] 9)).cell? ⟨w.heap.size, 0, none⟩ = some (.string h) := (((Below.refl _ _).alloc (Nat.le_refl _) _).cell (p := ⟨w.heap.size, 0, none⟩) (by show w.heap.size < _; simp)).trans (cell_new w _ _ 0 _ rfl)
  have d1 : ((w.alloc (.cells #[.string h, .string t, .slice a n c] 59)).alloc (.cells #[.string key] 9)).cell? ⟨w.heap.size, 1, none⟩ = some (.string t) := (((Below.refl _ _).alloc (Nat.le_refl _) _).cell (p := ⟨w.heap.size, 1, none⟩) (by show w.heap.size < _; simp)).trans (cell_new w _ _ 1 _ rfl)
  have d2 : ((w.alloc (.cells #[.string h, .string t, .slice a n c] 59)).alloc (.cells #[.string key] 9)).cell? ⟨w.heap.size, 2, none⟩ = some (.slice a n c) := (((Below.refl _ _).alloc (Nat.le_refl _) _).cell (p := ⟨w.heap.size, 2, none⟩) (by show w.heap.size < _; simp)).trans (cell_new w _ _ 2 _ rfl)
  have d3 := cell_new (w.alloc (.cells #[.string h, .string t, .slice a n c] 59)) #[.string key] 9 0 _ rfl
  rw [World.size_alloc] at d3
  have D0 := Lib.hid d0
  have D1 := Lib.hid d1
  have D2 := Lib.hid d2
  have D3 := Lib.hid d3
  have HB0 := Lib.hid hb0
  clear d0 d1 d2 d3 hb0
  go_enter Tryz.func99, Tryz.ntmps99
  go_wp2_with fail
  refine (vars_rules _).mono ?_
  rintro e w1 ⟨b, p1, p2, p3, rfl, hR, hb1⟩
  have e0 := ((bcell hb1).1 _ 0 (cell_lt D0.out)).trans D0.out
  have e1 := ((bcell hb1).1 _ 1 (cell_lt D1.out)).trans D1.out
  have e2 := ((bcell hb1).1 _ 2 (cell_lt D2.out)).trans D2.out
  have e3 := ((bcell hb1).1 _ 0 (cell_lt D3.out)).trans D3.out
  have l0 := cell_lt e0
  have l3 := cell_lt e3
  have hbw1 := HB0.out.trans (hb1.mono HB0.out.size)
  clear hb1 D0 D1 D2 D3 HB0
  have hl := look2_3 hR
  go_wp2_with fail
  refine (vars_Key key _ hkey).mono ?_
  rintro e w2 ⟨rfl, hb2⟩
  rw [HVK.out]
  have q := fun o => (bcell hb2).1 w1.heap.size o (by simp)
  have r1 := (q 1).trans (cell_new w1 _ _ 1 _ rfl)
  have r2 := (q 2).trans (cell_new w1 _ _ 2 _ rfl)
  have hb12 := below_alloc hb2
  replace e0 := ((bcell hb12).1 _ 0 l0).trans e0
  replace e1 := ((bcell hb12).1 _ 1 l0).trans e1
  replace e2 := ((bcell hb12).1 _ 2 l0).trans e2
  replace e3 := ((bcell hb12).1 _ 0 l3).trans e3
  have hbw2 := hbw1.trans (hb12.mono hbw1.size)
  clear q hb2 hb12
  go_wp2_with fail
  refine (vars_Get1_cookie h t key a n c w1.heap.size (w.heap.size + 1) w2 r2 e3 v (hcall _ (hbw2.alloc hbw2.size _))).mono ?_
  rintro e w3 ⟨rfl, hb3⟩
  have hbw3 := hbw2.trans (hb3.mono hbw2.size)
  obtain ⟨x, y⟩ := v
  rcases y with _ | _
  · have hx : x = [] := HV0.out rfl
    have HX := Lib.hid hx
    clear hx
    go_wp2
    go_ret2
    rw [HX.out]
    exact ⟨rfl, hbw3⟩
  · go_wp2
    go_ret2
    exact ⟨rfl, hbw3⟩
set_option maxRecDepth 100000 in
set_option maxHeartbeats 400000 in
theorem getb_3 (h t key : ByteArray) (a : Option Addr) (n c : Nat) (w : World) (hkey : key.size ≤ 140737488351232) (hvk : vkey key.data.toList = false) :
    Calls Tryz.prog 99 #[.agg #[.string h, .string t, .slice a n c], .string ⟨nCookie.toArray⟩, .string key, .bool true] w (Ret w (.tuple #[.string ⟨#[]⟩, .bool false])) := by
  have HVK := Lib.hid hvk
  clear hvk
  have hb0 : Below w.heap.size w ((w.alloc (.cells #[.string h, .string t, .slice a n c] 59)).alloc (.cells #[.string key] 9)) := ((Below.refl _ _).alloc (Nat.le_refl _) _).alloc (by simp) _
  have d0 : ((w.alloc (.cells #[.string h, .string t, .slice a n c] 59)).alloc (.cells #[.string key] 9)).cell? ⟨w.heap.size, 0, none⟩ = some (.string h) := (((Below.refl _ _).alloc (Nat.le_refl _) _).cell (p := ⟨w.heap.size, 0, none⟩) (by show w.heap.size < _; simp)).trans (cell_new w _ _ 0 _ rfl)
  have d1 : ((w.alloc (.cells #[.string h, .string t, .slice a n c] 59)).alloc (.cells #[.string key] 9)).cell? ⟨w.heap.size, 1, none⟩ = some (.string t) := (((Below.refl _ _).alloc (Nat.le_refl _) _).cell (p := ⟨w.heap.size, 1, none⟩) (by show w.heap.size < _; simp)).trans (cell_new w _ _ 1 _ rfl)
  have d2 : ((w.alloc (.cells #[.string h, .string t, .slice a n c] 59)).alloc (.cells #[.string key] 9)).cell? ⟨w.heap.size, 2, none⟩ = some (.slice a n c) := (((Below.refl _ _).alloc (Nat.le_refl _) _).cell (p := ⟨w.heap.size, 2, none⟩) (by show w.heap.size < _; simp)).trans (cell_new w _ _ 2 _ rfl)
  have d3 := cell_new (w.alloc (.cells #[.string h, .string t, .slice a n c] 59)) #[.string key] 9 0 _ rfl
  rw [World.size_alloc] at d3
  have D0 := Lib.hid d0
  have D1 := Lib.hid d1
  have D2 := Lib.hid d2
  have D3 := Lib.hid d3
  have HB0 := Lib.hid hb0
  clear d0 d1 d2 d3 hb0
  go_enter Tryz.func99, Tryz.ntmps99
  go_wp2_with fail
  refine (vars_rules _).mono ?_
  rintro e w1 ⟨b, p1, p2, p3, rfl, hR, hb1⟩
  have e0 := ((bcell hb1).1 _ 0 (cell_lt D0.out)).trans D0.out
  have e1 := ((bcell hb1).1 _ 1 (cell_lt D1.out)).trans D1.out
  have e2 := ((bcell hb1).1 _ 2 (cell_lt D2.out)).trans D2.out
  have e3 := ((bcell hb1).1 _ 0 (cell_lt D3.out)).trans D3.out
  have l0 := cell_lt e0
  have l3 := cell_lt e3
  have hbw1 := HB0.out.trans (hb1.mono HB0.out.size)
  clear hb1 D0 D1 D2 D3 HB0
  have hl := look2_3 hR
  go_wp2_with fail
  refine (vars_Key key _ hkey).mono ?_
  rintro e w2 ⟨rfl, hb2⟩
  rw [HVK.out]
  have q := fun o => (bcell hb2).1 w1.heap.size o (by simp)
  have r1 := (q 1).trans (cell_new w1 _ _ 1 _ rfl)
  have r2 := (q 2).trans (cell_new w1 _ _ 2 _ rfl)
  have hb12 := below_alloc hb2
  replace e0 := ((bcell hb12).1 _ 0 l0).trans e0
  replace e1 := ((bcell hb12).1 _ 1 l0).trans e1
  replace e2 := ((bcell hb12).1 _ 2 l0).trans e2
  replace e3 := ((bcell hb12).1 _ 0 l3).trans e3
  have hbw2 := hbw1.trans (hb12.mono hbw1.size)
  clear q hb2 hb12
  go_wp2
  go_ret2
  exact ⟨rfl, hbw2⟩
set_option maxRecDepth 100000 in
set_option maxHeartbeats 400000 in
theorem getw_4 (h t key : ByteArray) (a : Option Addr) (n c : Nat) (w : World) (v : Bs × Bool) (hv0 : v.2 = false → v.1 = [])
    (hcall : ∀ W, Below w.heap.size w W → Calls Tryz.prog 142 #[.agg #[.string h, .string t, .slice a n c]] W (Ret W (.tuple #[.string ⟨v.1.toArray⟩, .bool v.2]))) :
    Calls Tryz.prog 99 #[.agg #[.string h, .string t, .slice a n c], .string ⟨nQuery.toArray⟩, .string key, .bool false] w (Ret w (.tuple #[.string ⟨v.1.toArray⟩, .bool v.2])) := by
  have HV0 := Lib.hid hv0
  clear hv0
  have hb0 : Below w.heap.size w ((w.alloc (.cells #[.string h, .string t, .slice a n c] 59)).alloc (.cells #[.string key] 9)) := ((Below.refl _ _).alloc (Nat.le_refl _) _).alloc (by simp) _
  have d0 : ((w.alloc (.cells #[.string h, .string t, .slice a n c] 59)).alloc (.cells #[.string key] 9)).cell? ⟨w.heap.size, 0, none⟩ = some (.string h) := (((Below.refl _ _).alloc (Nat.le_refl _) _).cell (p := ⟨w.heap.size, 0, none⟩) (by show w.heap.size < _; simp)).trans (cell_new w _ _ 0 _ rfl)
  have d1 : ((w.alloc (.cells #[.string h, .string t, .slice a n c] 59)).alloc (.cells #[.string key] 9)).cell? ⟨w.heap.size, 1, none⟩ = some (.string t) := (((Below.refl _ _).alloc (Nat.le_refl _) _).cell (p := ⟨w.heap.size, 1, none⟩) (by show w.heap.size < _; simp)).trans (cell_new w _ _ 1 _ rfl)
  have d2 : ((w.alloc (.cells #[.string h, .string t, .slice a n c] 59)).alloc (.cells #[.string key] 9)).cell? ⟨w.heap.size, 2, none⟩ = some (.slice a n c) := (((Below.refl _ _).alloc (Nat.le_refl _) _).cell (p := ⟨w.heap.size, 2, none⟩) (by show w.heap.size < _; simp)).trans (cell_new w _ _ 2 _ rfl)
  have d3 := cell_new (w.alloc (.cells #[.string h, .string t, .slice a n c] 59)) #[.string key] 9 0 _ rfl
  rw [World.size_alloc] at d3
  have D0 := Lib.hid d0
  have D1 := Lib.hid d1
  have D2 := Lib.hid d2
  have D3 := Lib.hid d3
  have HB0 := Lib.hid hb0
  clear d0 d1 d2 d3 hb0
  go_enter Tryz.func99, Tryz.ntmps99
  go_wp2_with fail
  refine (vars_rules _).mono ?_
  rintro e w1 ⟨b, p1, p2, p3, rfl, hR, hb1⟩
  have e0 := ((bcell hb1).1 _ 0 (cell_lt D0.out)).trans D0.out
  have e1 := ((bcell hb1).1 _ 1 (cell_lt D1.out)).trans D1.out
  have e2 := ((bcell hb1).1 _ 2 (cell_lt D2.out)).trans D2.out
  have e3 := ((bcell hb1).1 _ 0 (cell_lt D3.out)).trans D3.out
  have l0 := cell_lt e0
  have l3 := cell_lt e3
  have hbw1 := HB0.out.trans (hb1.mono HB0.out.size)
  clear hb1 D0 D1 D2 D3 HB0
  have hl := look2_4 hR
  go_wp2_with fail
  refine (hcall _ (hbw1.alloc hbw1.size _)).mono ?_
  rintro e w2 ⟨rfl, hb2⟩
  have hbw2 := hbw1.trans ((below_alloc hb2).mono hbw1.size)
  obtain ⟨x, y⟩ := v
  rcases y with _ | _
  · have hx : x = [] := HV0.out rfl
    have HX := Lib.hid hx
    clear hx
    go_wp2
    go_ret2
    rw [HX.out]
    exact ⟨rfl, hbw2⟩
  · go_wp2
    go_ret2
    exact ⟨rfl, hbw2⟩
set_option maxRecDepth 100000 in
set_option maxHeartbeats 400000 in
theorem getp_4 (h t key : ByteArray) (a : Option Addr) (n c : Nat) (w : World) (v : Bs × Bool) (hv0 : v.2 = false → v.1 = []) (hkey : key.size ≤ 140737488351232) (hvk : vkey key.data.toList = true)
    (hcall : ∀ W, Below w.heap.size w W → Calls Tryz.prog 143 #[.agg #[.string h, .string t, .slice a n c], .string key] W (Ret W (.tuple #[.string ⟨v.1.toArray⟩, .bool v.2]))) :
    Calls Tryz.prog 99 #[.agg #[.string h, .string t, .slice a n c], .string ⟨nQuery.toArray⟩, .string key, .bool true] w (Ret w (.tuple #[.string ⟨v.1.toArray⟩, .bool v.2])) := by
  have HV0 := Lib.hid hv0
  clear hv0
  have HVK := Lib.hid hvk
  clear hvk
  have hb0 : Below w.heap.size w ((w.alloc (.cells #[.string h, .string t, .slice a n c] 59)).alloc (.cells #[.string key] 9)) := ((Below.refl _ _).alloc (Nat.le_refl _) _).alloc (by simp) _
  have d0 : ((w.alloc (.cells #[.string h, .string t, .slice a n c] 59)).alloc (.cells #[.string key] 9)).cell? ⟨w.heap.size, 0, none⟩ = some (.string h) := (((Below.refl _ _).alloc (Nat.le_refl _) _).cell (p := ⟨w.heap.size, 0, none⟩) (by show w.heap.size < _; simp)).trans (cell_new w _ _ 0 _ rfl)
  have d1 : ((w.alloc (.cells #[.string h, .string t, .slice a n c] 59)).alloc (.cells #[.string key] 9)).cell? ⟨w.heap.size, 1, none⟩ = some (.string t) := (((Below.refl _ _).alloc (Nat.le_refl _) _).cell (p := ⟨w.heap.size, 1, none⟩) (by show w.heap.size < _; simp)).trans (cell_new w _ _ 1 _ rfl)
  have d2 : ((w.alloc (.cells #[.string h, .string t, .slice a n c] 59)).alloc (.cells #[.string key] 9)).cell? ⟨w.heap.size, 2, none⟩ = some (.slice a n c) := (((Below.refl _ _).alloc (Nat.le_refl _) _).cell (p := ⟨w.heap.size, 2, none⟩) (by show w.heap.size < _; simp)).trans (cell_new w _ _ 2 _ rfl)
  have d3 := cell_new (w.alloc (.cells #[.string h, .string t, .slice a n c] 59)) #[.string key] 9 0 _ rfl
  rw [World.size_alloc] at d3
  have D0 := Lib.hid d0
  have D1 := Lib.hid d1
  have D2 := Lib.hid d2
  have D3 := Lib.hid d3
  have HB0 := Lib.hid hb0
  clear d0 d1 d2 d3 hb0
  go_enter Tryz.func99, Tryz.ntmps99
  go_wp2_with fail
  refine (vars_rules _).mono ?_
  rintro e w1 ⟨b, p1, p2, p3, rfl, hR, hb1⟩
  have e0 := ((bcell hb1).1 _ 0 (cell_lt D0.out)).trans D0.out
  have e1 := ((bcell hb1).1 _ 1 (cell_lt D1.out)).trans D1.out
  have e2 := ((bcell hb1).1 _ 2 (cell_lt D2.out)).trans D2.out
  have e3 := ((bcell hb1).1 _ 0 (cell_lt D3.out)).trans D3.out
  have l0 := cell_lt e0
  have l3 := cell_lt e3
  have hbw1 := HB0.out.trans (hb1.mono HB0.out.size)
  clear hb1 D0 D1 D2 D3 HB0
  have hl := look2_4 hR
  go_wp2_with fail
  refine (vars_Key key _ hkey).mono ?_
  rintro e w2 ⟨rfl, hb2⟩
  rw [HVK.out]
  have q := fun o => (bcell hb2).1 w1.heap.size o (by simp)
  have r1 := (q 1).trans (cell_new w1 _ _ 1 _ rfl)
  have r2 := (q 2).trans (cell_new w1 _ _ 2 _ rfl)
  have hb12 := below_alloc hb2
  replace e0 := ((bcell hb12).1 _ 0 l0).trans e0
  replace e1 := ((bcell hb12).1 _ 1 l0).trans e1
  replace e2 := ((bcell hb12).1 _ 2 l0).trans e2
  replace e3 := ((bcell hb12).1 _ 0 l3).trans e3
  have hbw2 := hbw1.trans (hb12.mono hbw1.size)
  clear q hb2 hb12
  go_wp2_with fail
  refine (vars_Get1_asked h t key a n c w1.heap.size (w.heap.size + 1) w2 r2 e3 v (hcall _ (hbw2.alloc hbw2.size _))).mono ?_
  rintro e w3 ⟨rfl, hb3⟩
  have hbw3 := hbw2.trans (hb3.mono hbw2.size)
  obtain ⟨x, y⟩ := v
  rcases y with _ | _
  · have hx : x = [] := HV0.out rfl
    have HX := Lib.hid hx
    clear hx
    go_wp2
    go_ret2
    rw [HX.out]
    exact ⟨rfl, hbw3⟩
  · go_wp2
    go_ret2
    exact ⟨rfl, hbw3⟩
set_option maxRecDepth 100000 in
set_option maxHeartbeats 400000 in
theorem getb_4 (h t key : ByteArray) (a : Option Addr) (n c : Nat) (w : World) (hkey : key.size ≤ 140737488351232) (hvk : vkey key.data.toList = false) :
    Calls Tryz.prog 99 #[.agg #[.string h, .string t, .slice a n c], .string ⟨nQuery.toArray⟩, .string key, .bool true] w (Ret w (.tuple #[.string ⟨#[]⟩, .bool false])) := by
  have HVK := Lib.hid hvk
  clear hvk
  have hb0 : Below w.heap.size w ((w.alloc (.cells #[.string h, .string t, .slice a n c] 59)).alloc (.cells #[.string key] 9)) := ((Below.refl _ _).alloc (Nat.le_refl _) _).alloc (by simp) _
  have d0 : ((w.alloc (.cells #[.string h, .string t, .slice a n c] 59)).alloc (.cells #[.string key] 9)).cell? ⟨w.heap.size, 0, none⟩ = some (.string h) := (((Below.refl _ _).alloc (Nat.le_refl _) _).cell (p := ⟨w.heap.size, 0, none⟩) (by show w.heap.size < _; simp)).trans (cell_new w _ _ 0 _ rfl)
  have d1 : ((w.alloc (.cells #[.string h, .string t, .slice a n c] 59)).alloc (.cells #[.string key] 9)).cell? ⟨w.heap.size, 1, none⟩ = some (.string t) := (((Below.refl _ _).alloc (Nat.le_refl _) _).cell (p := ⟨w.heap.size, 1, none⟩) (by show w.heap.size < _; simp)).trans (cell_new w _ _ 1 _ rfl)
  have d2 : ((w.alloc (.cells #[.string h, .string t, .slice a n c] 59)).alloc (.cells #[.string key] 9)).cell? ⟨w.heap.size, 2, none⟩ = some (.slice a n c) := (((Below.refl _ _).alloc (Nat.le_refl _) _).cell (p := ⟨w.heap.size, 2, none⟩) (by show w.heap.size < _; simp)).trans (cell_new w _ _ 2 _ rfl)
  have d3 := cell_new (w.alloc (.cells #[.string h, .string t, .slice a n c] 59)) #[.string key] 9 0 _ rfl
  rw [World.size_alloc] at d3
  have D0 := Lib.hid d0
  have D1 := Lib.hid d1
  have D2 := Lib.hid d2
  have D3 := Lib.hid d3
  have HB0 := Lib.hid hb0
  clear d0 d1 d2 d3 hb0
  go_enter Tryz.func99, Tryz.ntmps99
  go_wp2_with fail
  refine (vars_rules _).mono ?_
  rintro e w1 ⟨b, p1, p2, p3, rfl, hR, hb1⟩
  have e0 := ((bcell hb1).1 _ 0 (cell_lt D0.out)).trans D0.out
  have e1 := ((bcell hb1).1 _ 1 (cell_lt D1.out)).trans D1.out
  have e2 := ((bcell hb1).1 _ 2 (cell_lt D2.out)).trans D2.out
  have e3 := ((bcell hb1).1 _ 0 (cell_lt D3.out)).trans D3.out
  have l0 := cell_lt e0
  have l3 := cell_lt e3
  have hbw1 := HB0.out.trans (hb1.mono HB0.out.size)
  clear hb1 D0 D1 D2 D3 HB0
  have hl := look2_4 hR
  go_wp2_with fail
  refine (vars_Key key _ hkey).mono ?_
  rintro e w2 ⟨rfl, hb2⟩
  rw [HVK.out]
  have q := fun o => (bcell hb2).1 w1.heap.size o (by simp)
  have r1 := (q 1).trans (cell_new w1 _ _ 1 _ rfl)
  have r2 := (q 2).trans (cell_new w1 _ _ 2 _ rfl)
  have hb12 := below_alloc hb2
  replace e0 := ((bcell hb12).1 _ 0 l0).trans e0
  replace e1 := ((bcell hb12).1 _ 1 l0).trans e1
  replace e2 := ((bcell hb12).1 _ 2 l0).trans e2
  replace e3 := ((bcell hb12).1 _ 0 l3).trans e3
  have hbw2 := hbw1.trans (hb12.mono hbw1.size)
  clear q hb2 hb12
  go_wp2
  go_ret2
  exact ⟨rfl, hbw2⟩
set_option maxRecDepth 100000 in
set_option maxHeartbeats 400000 in
theorem getw_5 (h t key : ByteArray) (a : Option Addr) (n c : Nat) (w : World) (v : Bs × Bool) (hv0 : v.2 = false → v.1 = [])
    (hcall : ∀ W p, Below w.heap.size w W → W.cell? ⟨p, 0, none⟩ = some (.string ⟨langName.toArray⟩) → Calls Tryz.prog 158 #[.agg #[.string h, .string t, .slice a n c], .pointer (some ⟨p, 0, none⟩)] W (Ret W (.tuple #[.string ⟨v.1.toArray⟩, .bool v.2]))) :
    Calls Tryz.prog 99 #[.agg #[.string h, .string t, .slice a n c], .string ⟨nLang.toArray⟩, .string key, .bool false] w (Ret w (.tuple #[.string ⟨v.1.toArray⟩, .bool v.2])) := by
  have HV0 := Lib.hid hv0
  clear hv0
  have hb0 : Below w.heap.size w ((w.alloc (.cells #[.string h, .string t, .slice a n c] 59)).alloc (.cells #[.string key] 9)) := ((Below.refl _ _).alloc (Nat.le_refl _) _).alloc (by simp) _
  have d0 : ((w.alloc (.cells #[.string h, .string t, .slice a n c] 59)).alloc (.cells #[.string key] 9)).cell? ⟨w.heap.size, 0, none⟩ = some (.string h) := (((Below.refl _ _).alloc (Nat.le_refl _) _).cell (p := ⟨w.heap.size, 0, none⟩) (by show w.heap.size < _; simp)).trans (cell_new w _ _ 0 _ rfl)
  have d1 : ((w.alloc (.cells #[.string h, .string t, .slice a n c] 59)).alloc (.cells #[.string key] 9)).cell? ⟨w.heap.size, 1, none⟩ = some (.string t) := (((Below.refl _ _).alloc (Nat.le_refl _) _).cell (p := ⟨w.heap.size, 1, none⟩) (by show w.heap.size < _; simp)).trans (cell_new w _ _ 1 _ rfl)
  have d2 : ((w.alloc (.cells #[.string h, .string t, .slice a n c] 59)).alloc (.cells #[.string key] 9)).cell? ⟨w.heap.size, 2, none⟩ = some (.slice a n c) := (((Below.refl _ _).alloc (Nat.le_refl _) _).cell (p := ⟨w.heap.size, 2, none⟩) (by show w.heap.size < _; simp)).trans (cell_new w _ _ 2 _ rfl)
  have d3 := cell_new (w.alloc (.cells #[.string h, .string t, .slice a n c] 59)) #[.string key] 9 0 _ rfl
  rw [World.size_alloc] at d3
  have D0 := Lib.hid d0
  have D1 := Lib.hid d1
  have D2 := Lib.hid d2
  have D3 := Lib.hid d3
  have HB0 := Lib.hid hb0
  clear d0 d1 d2 d3 hb0
  go_enter Tryz.func99, Tryz.ntmps99
  go_wp2_with fail
  refine (vars_rules _).mono ?_
  rintro e w1 ⟨b, p1, p2, p3, rfl, hR, hb1⟩
  have e0 := ((bcell hb1).1 _ 0 (cell_lt D0.out)).trans D0.out
  have e1 := ((bcell hb1).1 _ 1 (cell_lt D1.out)).trans D1.out
  have e2 := ((bcell hb1).1 _ 2 (cell_lt D2.out)).trans D2.out
  have e3 := ((bcell hb1).1 _ 0 (cell_lt D3.out)).trans D3.out
  have l0 := cell_lt e0
  have l3 := cell_lt e3
  have hbw1 := HB0.out.trans (hb1.mono HB0.out.size)
  clear hb1 D0 D1 D2 D3 HB0
  have hl := look2_5 hR
  go_wp2_with fail
  refine (hcall _ p3 (hbw1.alloc hbw1.size _) (hR.next ((Below.refl _ _).alloc (Nat.le_refl _) _)).c3).mono ?_
  rintro e w2 ⟨rfl, hb2⟩
  have hbw2 := hbw1.trans ((below_alloc hb2).mono hbw1.size)
  obtain ⟨x, y⟩ := v
  rcases y with _ | _
  · have hx : x = [] := HV0.out rfl
    have HX := Lib.hid hx
    clear hx
    go_wp2
    go_ret2
    rw [HX.out]
    exact ⟨rfl, hbw2⟩
  · go_wp2
    go_ret2
    exact ⟨rfl, hbw2⟩
set_option maxRecDepth 100000 in
set_option maxHeartbeats 400000 in
theorem getp_5 (h t key : ByteArray) (a : Option Addr) (n c : Nat) (w : World) (v : Bs × Bool) (hv0 : v.2 = false → v.1 = []) (hkey : key.size ≤ 140737488351232) (hvk : vkey key.data.toList = true)
    (hcall : ∀ W, Below w.heap.size w W → Calls Tryz.prog 144 #[.agg #[.string h, .string t, .slice a n c], .string key] W (Ret W (.tuple #[.string ⟨v.1.toArray⟩, .bool v.2]))) :
    Calls Tryz.prog 99 #[.agg #[.string h, .string t, .slice a n c], .string ⟨nLang.toArray⟩, .string key, .bool true] w (Ret w (.tuple #[.string ⟨v.1.toArray⟩, .bool v.2])) := by
  have HV0 := Lib.hid hv0
  clear hv0
  have HVK := Lib.hid hvk
  clear hvk
  have hb0 : Below w.heap.size w ((w.alloc (.cells #[.string h, .string t, .slice a n c] 59)).alloc (.cells #[.string key] 9)) := ((Below.refl _ _).alloc (Nat.le_refl _) _).alloc (by simp) _
  have d0 : ((w.alloc (.cells #[.string h, .string t, .slice a n c] 59)).alloc (.cells #[.string key] 9)).cell? ⟨w.heap.size, 0, none⟩ = some (.string h) := (((Below.refl _ _).alloc (Nat.le_refl _) _).cell (p := ⟨w.heap.size, 0, none⟩) (by show w.heap.size < _; simp)).trans (cell_new w _ _ 0 _ rfl)
  have d1 : ((w.alloc (.cells #[.string h, .string t, .slice a n c] 59)).alloc (.cells #[.string key] 9)).cell? ⟨w.heap.size, 1, none⟩ = some (.string t) := (((Below.refl _ _).alloc (Nat.le_refl _) _).cell (p := ⟨w.heap.size, 1, none⟩) (by show w.heap.size < _; simp)).trans (cell_new w _ _ 1 _ rfl)
  have d2 : ((w.alloc (.cells #[.string h, .string t, .slice a n c] 59)).alloc (.cells #[.string key] 9)).cell? ⟨w.heap.size, 2, none⟩ = some (.slice a n c) := (((Below.refl _ _).alloc (Nat.le_refl _) _).cell (p := ⟨w.heap.size, 2, none⟩) (by show w.heap.size < _; simp)).trans (cell_new w _ _ 2 _ rfl)
  have d3 := cell_new (w.alloc (.cells #[.string h, .string t, .slice a n c] 59)) #[.string key] 9 0 _ rfl
  rw [World.size_alloc] at d3
  have D0 := Lib.hid d0
  have D1 := Lib.hid d1
  have D2 := Lib.hid d2
  have D3 := Lib.hid d3
  have HB0 := Lib.hid hb0
  clear d0 d1 d2 d3 hb0
  go_enter Tryz.func99, Tryz.ntmps99
  go_wp2_with fail
  refine (vars_rules _).mono ?_
  rintro e w1 ⟨b, p1, p2, p3, rfl, hR, hb1⟩
  have e0 := ((bcell hb1).1 _ 0 (cell_lt D0.out)).trans D0.out
  have e1 := ((bcell hb1).1 _ 1 (cell_lt D1.out)).trans D1.out
  have e2 := ((bcell hb1).1 _ 2 (cell_lt D2.out)).trans D2.out
  have e3 := ((bcell hb1).1 _ 0 (cell_lt D3.out)).trans D3.out
  have l0 := cell_lt e0
  have l3 := cell_lt e3
  have hbw1 := HB0.out.trans (hb1.mono HB0.out.size)
  clear hb1 D0 D1 D2 D3 HB0
  have hl := look2_5 hR
  go_wp2_with fail
  refine (vars_Key key _ hkey).mono ?_
  rintro e w2 ⟨rfl, hb2⟩
  rw [HVK.out]
  have q := fun o => (bcell hb2).1 w1.heap.size o (by simp)
  have r1 := (q 1).trans (cell_new w1 _ _ 1 _ rfl)
  have r2 := (q 2).trans (cell_new w1 _ _ 2 _ rfl)
  have hb12 := below_alloc hb2
  replace e0 := ((bcell hb12).1 _ 0 l0).trans e0
  replace e1 := ((bcell hb12).1 _ 1 l0).trans e1
  replace e2 := ((bcell hb12).1 _ 2 l0).trans e2
  replace e3 := ((bcell hb12).1 _ 0 l3).trans e3
  have hbw2 := hbw1.trans (hb12.mono hbw1.size)
  clear q hb2 hb12
  go_wp2_with fail
  refine (vars_Get1_language h t key a n c w1.heap.size (w.heap.size + 1) w2 r2 e3 v (hcall _ (hbw2.alloc hbw2.size _))).mono ?_
  rintro e w3 ⟨rfl, hb3⟩
  have hbw3 := hbw2.trans (hb3.mono hbw2.size)
  obtain ⟨x, y⟩ := v
  rcases y with _ | _
  · have hx : x = [] := HV0.out rfl
    have HX := Lib.hid hx
    clear hx
    go_wp2
    go_ret2
    rw [HX.out]
    exact ⟨rfl, hbw3⟩
  · go_wp2
    go_ret2
    exact ⟨rfl, hbw3⟩
set_option maxRecDepth 100000 in
set_option maxHeartbeats 400000 in
theorem getb_5 (h t key : ByteArray) (a : Option Addr) (n c : Nat) (w : World) (hkey : key.size ≤ 140737488351232) (hvk : vkey key.data.toList = false) :
    Calls Tryz.prog 99 #[.agg #[.string h, .string t, .slice a n c], .string ⟨nLang.toArray⟩, .string key, .bool true] w (Ret w (.tuple #[.string ⟨#[]⟩, .bool false])) := by
  have HVK := Lib.hid hvk
  clear hvk
  have hb0 : Below w.heap.size w ((w.alloc (.cells #[.string h, .string t, .slice a n c] 59)).alloc (.cells #[.string key] 9)) := ((Below.refl _ _).alloc (Nat.le_refl _) _).alloc (by simp) _
  have d0 : ((w.alloc (.cells #[.string h, .string t, .slice a n c] 59)).alloc (.cells #[.string key] 9)).cell? ⟨w.heap.size, 0, none⟩ = some (.string h) := (((Below.refl _ _).alloc (Nat.le_refl _) _).cell (p := ⟨w.heap.size, 0, none⟩) (by show w.heap.size < _; simp)).trans (cell_new w _ _ 0 _ rfl)
  have d1 : ((w.alloc (.cells #[.string h, .string t, .slice a n c] 59)).alloc (.cells #[.string key] 9)).cell? ⟨w.heap.size, 1, none⟩ = some (.string t) := (((Below.refl _ _).alloc (Nat.le_refl _) _).cell (p := ⟨w.heap.size, 1, none⟩) (by show w.heap.size < _; simp)).trans (cell_new w _ _ 1 _ rfl)
  have d2 : ((w.alloc (.cells #[.string h, .string t, .slice a n c] 59)).alloc (.cells #[.string key] 9)).cell? ⟨w.heap.size, 2, none⟩ = some (.slice a n c) := (((Below.refl _ _).alloc (Nat.le_refl _) _).cell (p := ⟨w.heap.size, 2, none⟩) (by show w.heap.size < _; simp)).trans (cell_new w _ _ 2 _ rfl)
  have d3 := cell_new (w.alloc (.cells #[.string h, .string t, .slice a n c] 59)) #[.string key] 9 0 _ rfl
  rw [World.size_alloc] at d3
  have D0 := Lib.hid d0
  have D1 := Lib.hid d1
  have D2 := Lib.hid d2
  have D3 := Lib.hid d3
  have HB0 := Lib.hid hb0
  clear d0 d1 d2 d3 hb0
  go_enter Tryz.func99, Tryz.ntmps99
  go_wp2_with fail
  refine (vars_rules _).mono ?_
  rintro e w1 ⟨b, p1, p2, p3, rfl, hR, hb1⟩
  have e0 := ((bcell hb1).1 _ 0 (cell_lt D0.out)).trans D0.out
  have e1 := ((bcell hb1).1 _ 1 (cell_lt D1.out)).trans D1.out
  have e2 := ((bcell hb1).1 _ 2 (cell_lt D2.out)).trans D2.out
  have e3 := ((bcell hb1).1 _ 0 (cell_lt D3.out)).trans D3.out
  have l0 := cell_lt e0
  have l3 := cell_lt e3
  have hbw1 := HB0.out.trans (hb1.mono HB0.out.size)
  clear hb1 D0 D1 D2 D3 HB0
  have hl := look2_5 hR
  go_wp2_with fail
  refine (vars_Key key _ hkey).mono ?_
  rintro e w2 ⟨rfl, hb2⟩
  rw [HVK.out]
  have q := fun o => (bcell hb2).1 w1.heap.size o (by simp)
  have r1 := (q 1).trans (cell_new w1 _ _ 1 _ rfl)
  have r2 := (q 2).trans (cell_new w1 _ _ 2 _ rfl)
  have hb12 := below_alloc hb2
  replace e0 := ((bcell hb12).1 _ 0 l0).trans e0
  replace e1 := ((bcell hb12).1 _ 1 l0).trans e1
  replace e2 := ((bcell hb12).1 _ 2 l0).trans e2
  replace e3 := ((bcell hb12).1 _ 0 l3).trans e3
  have hbw2 := hbw1.trans (hb12.mono hbw1.size)
  clear q hb2 hb12
  go_wp2
  go_ret2
  exact ⟨rfl, hbw2⟩
end Go.Proofs.YtehdeclpighdeaaGreatDoor
namespace Go.Proofs.YtehdeclpighdeaaGreatDoor
open Go.RowKit
set_option linter.unusedVariables false
theorem fget_no (fs : List Fld) (name : Bs) (h : (fget fs name).2 = false) : (fget fs name).1 = [] := by
  have h2 : values fs name = [] := by
    have : ¬ 0 < (values fs name).length := of_decide_eq_false h
    exact List.eq_nil_of_length_eq_zero (by omega)
  unfold fget; rw [h2]; rfl
theorem vcookies_no (fs : List Fld) (h : (vcookies fs).2 = false) : (vcookies fs).1 = [] := by
  have h2 : values fs cookieName = [] := by
    have : ¬ 0 < (values fs cookieName).length := of_decide_eq_false h
    exact List.eq_nil_of_length_eq_zero (by omega)
  unfold vcookies; rw [h2]; rfl
theorem optP_no (x : Option Bs) (h : (optP x).2 = false) : (optP x).1 = [] := by cases x with | none => rfl | some v => cases h
theorem langV_no (x : Bool) (h : x = false) : langV x = [] := by subst h; rfl
theorem vver_no (s : Bs) (h : (vver s).2 = false) : (vver s).1 = [] := by
  have h1 : ¬ 0 < lead vd (s.drop (verAt s)) := of_decide_eq_false h
  have h2 : (s.drop (verAt s)).takeWhile vd = (s.drop (verAt s)).take (lead vd (s.drop (verAt s))) := (take_lead vd _).symm
  unfold vver; show (s.drop (verAt s)).takeWhile vd = []
  rw [h2, show lead vd (s.drop (verAt s)) = 0 by omega]; rfl
theorem vagent_no (s key : Bs) (h : (vagent s key).2 = false) : (vagent s key).1 = [] := by
  unfold vagent at h ⊢
  cases h1 : (key == kBrowser)
  · rw [h1] at h
    cases h2 : (key == kVersion)
    · rw [h2] at h
      cases h3 : (key == kOs)
      · rfl
      · rw [h3] at h; cases h
    · rw [h2] at h; exact vver_no s h
  · rw [h1] at h; cases h
theorem vua_no (fs : List Fld) (key : Bs) (h : (vua fs key).2 = false) : (vua fs key).1 = [] := by
  unfold vua at h ⊢
  cases h1 : (fget fs agentName).2
  · rfl
  · rw [h1] at h; exact vagent_no _ _ h
theorem vkey_ne {key : Bs} (h : vkey key = true) : key ≠ [] := by
  intro e; subst e; revert h; decide
theorem asked_bare {t key : Bs} (h : vkey key = true) : (bif t.contains 63 then vasked t key else none) = vasked t key := by
  cases hc : t.contains 63
  · unfold vasked
    rw [past_all 63 t hc]
    have hne : ([] == key) = false := by rw [beq_eq_false_iff_ne]; exact Ne.symm (vkey_ne h)
    show none = List.findSome? (quOf key) (pieces 38 [])
    have : pieces 38 ([] : Bs) = [[]] := rfl
    rw [this]
    have : quOf key [] = none := by
      unfold quOf
      have e1 : upto 61 ([] : Bs) = [] := rfl
      rw [e1, hne]; rfl
    rw [List.findSome?_cons, this]; rfl
  · rfl
theorem empty_no {h : Bs} (hh : (!h.isEmpty) = false) : h = [] := by cases h with | nil => rfl | cons a b => cases hh
theorem name_ne {name n : Bs} (h : vknown name = false) (hn : n ∈ names) : (name == n) = false := by
  rw [beq_eq_false_iff_ne]; exact Ne.symm (beq_eq_false_iff_ne.1 (none_ne h hn))
theorem vget_none {h t : Bs} {fs : List Fld} {name key : Bs} {has : Bool} (hn : vknown name = false) : vget h t fs name key has = ([], false) := by
  unfold vget vpart vwhole
  rw [name_ne hn (n := nHost) (by decide), name_ne hn (n := nReferer) (by decide), name_ne hn (n := nAgent) (by decide), name_ne hn (n := nCookie) (by decide), name_ne hn (n := nQuery) (by decide), name_ne hn (n := nLang) (by decide)]
  cases has <;> cases vkey key <;> rfl
theorem optP_query (t : Bs) : optP (vquery t) = (past 63 t, hasB 63 t) := by
  unfold vquery hasB
  cases hc : t.contains 63
  · rw [past_all 63 t hc]; rfl
  · rfl
theorem vars_Get (h t name key : ByteArray) (a : Option Addr) (n c : Nat) (fs : List Fld) (has : Bool) (w : World) (hg : Good w) (hF : FieldsAt w (.slice a n c) fs) (hlim : Lim fs) (ht : t.size ≤ 100000) (hkey : key.size ≤ 100000) :
    Calls Tryz.prog 99 #[.agg #[.string h, .string t, .slice a n c], .string name, .string key, .bool has] w
      (Ret w (.tuple #[.string ⟨(vget h.data.toList t.data.toList fs name.data.toList key.data.toList has).1.toArray⟩, .bool (vget h.data.toList t.data.toList fs name.data.toList key.data.toList has).2])) := by
  have hk2 : key.size ≤ 140737488351232 := by omega
  rcases name_cases name.data.toList with hn | hn | hn | hn | hn | hn | hn
  · obtain rfl := name_lit hn
    rcases has with _ | _
    · exact getw_0 h t key a n c w (h.data.toList, !h.data.toList.isEmpty) (fun hh => empty_no hh) (fun W hb => by have := vars_host h t a n c W; exact this)
    · rcases hvk : vkey key.data.toList with _ | _
      · rw [show vget h.data.toList t.data.toList fs (⟨nHost.toArray⟩ : ByteArray).data.toList key.data.toList true = ([], false) by unfold vget; rw [hvk]; rfl]
        exact getb_0 h t key a n c w hk2 hvk
      · rw [show vget h.data.toList t.data.toList fs (⟨nHost.toArray⟩ : ByteArray).data.toList key.data.toList true = ([], false) by unfold vget; rw [hvk]; rfl]
        exact getp_0 h t key a n c w ([], false) (fun _ => rfl) hk2 hvk (fun W hb => vars_never h t key a n c W)
  · obtain rfl := name_lit hn
    rcases has with _ | _
    · exact getw_1 h t key a n c w (fget fs refererName) (fget_no fs _) (fun W p hb hc => vars_field1 h t ⟨refererName.toArray⟩ a n c p fs W (hF.below hb) hlim (by decide) hc)
    · rcases hvk : vkey key.data.toList with _ | _
      · rw [show vget h.data.toList t.data.toList fs (⟨nReferer.toArray⟩ : ByteArray).data.toList key.data.toList true = ([], false) by unfold vget; rw [hvk]; rfl]
        exact getb_1 h t key a n c w hk2 hvk
      · rw [show vget h.data.toList t.data.toList fs (⟨nReferer.toArray⟩ : ByteArray).data.toList key.data.toList true = ([], false) by unfold vget; rw [hvk]; rfl]
        exact getp_1 h t key a n c w ([], false) (fun _ => rfl) hk2 hvk (fun W hb => vars_never h t key a n c W)
  · obtain rfl := name_lit hn
    rcases has with _ | _
    · exact getw_2 h t key a n c w (fget fs agentName) (fget_no fs _) (fun W p hb hc => vars_field1 h t ⟨agentName.toArray⟩ a n c p fs W (hF.below hb) hlim (by decide) hc)
    · rcases hvk : vkey key.data.toList with _ | _
      · rw [show vget h.data.toList t.data.toList fs (⟨nAgent.toArray⟩ : ByteArray).data.toList key.data.toList true = ([], false) by unfold vget; rw [hvk]; rfl]
        exact getb_2 h t key a n c w hk2 hvk
      · rw [show vget h.data.toList t.data.toList fs (⟨nAgent.toArray⟩ : ByteArray).data.toList key.data.toList true = (vua fs key.data.toList) by unfold vget; rw [hvk]; rfl]
        exact getp_2 h t key a n c w (vua fs key.data.toList) (vua_no fs _) hk2 hvk (fun W hb => vars_agent h t key a n c fs W (hg.next hb) (hF.below hb) hlim)
  · obtain rfl := name_lit hn
    rcases has with _ | _
    · exact getw_3 h t key a n c w (vcookies fs) (vcookies_no fs) (fun W hb => vars_cookies h t a n c fs W (hF.below hb) hlim)
    · rcases hvk : vkey key.data.toList with _ | _
      · rw [show vget h.data.toList t.data.toList fs (⟨nCookie.toArray⟩ : ByteArray).data.toList key.data.toList true = ([], false) by unfold vget; rw [hvk]; rfl]
        exact getb_3 h t key a n c w hk2 hvk
      · rw [show vget h.data.toList t.data.toList fs (⟨nCookie.toArray⟩ : ByteArray).data.toList key.data.toList true = (optP (vcookie fs key.data.toList)) by unfold vget; rw [hvk]; rfl]
        exact getp_3 h t key a n c w (optP (vcookie fs key.data.toList)) (optP_no _) hk2 hvk (fun W hb => vars_cookie h t key a n c fs W (hg.next hb) (hF.below hb) hlim)
  · obtain rfl := name_lit hn
    rcases has with _ | _
    · exact getw_4 h t key a n c w (optP (vquery t.data.toList)) (optP_no _) (fun W hb => by have := vars_query h t a n c W (hg.next hb) ht; rw [show optP (vquery t.data.toList) = (past 63 t.data.toList, hasB 63 t.data.toList) from optP_query _]; exact this)
    · rcases hvk : vkey key.data.toList with _ | _
      · rw [show vget h.data.toList t.data.toList fs (⟨nQuery.toArray⟩ : ByteArray).data.toList key.data.toList true = ([], false) by unfold vget; rw [hvk]; rfl]
        exact getb_4 h t key a n c w hk2 hvk
      · rw [show vget h.data.toList t.data.toList fs (⟨nQuery.toArray⟩ : ByteArray).data.toList key.data.toList true = (optP (vasked t.data.toList key.data.toList)) by unfold vget; rw [hvk]; show optP (bif t.data.toList.contains 63 then vasked t.data.toList key.data.toList else none) = _; rw [asked_bare hvk]]
        exact getp_4 h t key a n c w (optP (vasked t.data.toList key.data.toList)) (optP_no _) hk2 hvk (fun W hb => vars_asked h t key a n c fs W (hg.next hb) ht)
  · obtain rfl := name_lit hn
    rcases has with _ | _
    · exact getw_5 h t key a n c w (fget fs langName) (fget_no fs _) (fun W p hb hc => vars_field1 h t ⟨langName.toArray⟩ a n c p fs W (hF.below hb) hlim (by decide) hc)
    · rcases hvk : vkey key.data.toList with _ | _
      · rw [show vget h.data.toList t.data.toList fs (⟨nLang.toArray⟩ : ByteArray).data.toList key.data.toList true = ([], false) by unfold vget; rw [hvk]; rfl]
        exact getb_5 h t key a n c w hk2 hvk
      · rw [show vget h.data.toList t.data.toList fs (⟨nLang.toArray⟩ : ByteArray).data.toList key.data.toList true = (langV (vlang fs key.data.toList), vlang fs key.data.toList) by unfold vget; rw [hvk]; rfl]
        exact getp_5 h t key a n c w (langV (vlang fs key.data.toList), vlang fs key.data.toList) (langV_no _) hk2 hvk (fun W hb => vars_language h t key a n c fs W (hg.next hb) (hF.below hb) hlim hkey)
  · rw [show vget h.data.toList t.data.toList fs name.data.toList key.data.toList has = ([], false) from vget_none hn]
    rcases has with _ | _
    · exact getn_false h t name key a n c w hn
    · exact getn_true h t name key a n c w hn
end Go.Proofs.YtehdeclpighdeaaGreatDoor
