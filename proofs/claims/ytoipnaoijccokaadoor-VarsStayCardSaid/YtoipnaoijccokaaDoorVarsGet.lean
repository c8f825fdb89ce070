/- The walk of the program's Get: any variable of any request. -/
import Derived.Test.YtoipnaoijccokaaDoorLook
import Derived.Test.YtoipnaoijccokaaDoorVars3
import Derived.Test.YtoipnaoijccokaaDoorCookie
import Derived.Test.YtoipnaoijccokaaDoorAsked
import Derived.Test.YtoipnaoijccokaaDoorLang
namespace Go.Proofs.YtoipnaoijccokaaDoor
open Go.RowKit
set_option linter.unusedVariables false


set_option maxRecDepth 100000 in
theorem vars_Get1_never (h t key : ByteArray) (a : Option Addr) (n c br bk : Nat) (w : World) (hc : w.cell? ⟨br, 2, none⟩ = some (.func (.func 25) #[] #[])) (hk : w.cell? ⟨bk, 0, none⟩ = some (.string key)) (v : Bs × Bool)
    (hcall : Calls Tryd.prog 25 #[.agg #[.string h, .string t, .slice a n c], .string key] (w.alloc (.cells #[.string h, .string t, .slice a n c] 30)) (Ret (w.alloc (.cells #[.string h, .string t, .slice a n c] 30)) (.tuple #[.string ⟨v.1.toArray⟩, .bool v.2]))) :
    Calls Tryd.prog 17 #[.agg #[.string h, .string t, .slice a n c], .pointer (some ⟨br, 0, none⟩), .pointer (some ⟨bk, 0, none⟩)] w (Ret w (.tuple #[.string ⟨v.1.toArray⟩, .bool v.2])) := by
  have hlt := cell_lt hc
  have hlk := cell_lt hk
  go_enter Tryd.func17, Tryd.ntmps17
  go_wp2_with fail
  refine hcall.mono ?_
  rintro e w1 ⟨rfl, hb1⟩
  go_wp2
  go_ret2
  exact ⟨rfl, below_alloc hb1⟩

set_option maxRecDepth 100000 in
theorem vars_Get1_agent (h t key : ByteArray) (a : Option Addr) (n c br bk : Nat) (w : World) (hc : w.cell? ⟨br, 2, none⟩ = some (.func (.func 27) #[] #[])) (hk : w.cell? ⟨bk, 0, none⟩ = some (.string key)) (v : Bs × Bool)
    (hcall : Calls Tryd.prog 27 #[.agg #[.string h, .string t, .slice a n c], .string key] (w.alloc (.cells #[.string h, .string t, .slice a n c] 30)) (Ret (w.alloc (.cells #[.string h, .string t, .slice a n c] 30)) (.tuple #[.string ⟨v.1.toArray⟩, .bool v.2]))) :
    Calls Tryd.prog 17 #[.agg #[.string h, .string t, .slice a n c], .pointer (some ⟨br, 0, none⟩), .pointer (some ⟨bk, 0, none⟩)] w (Ret w (.tuple #[.string ⟨v.1.toArray⟩, .bool v.2])) := by
  have hlt := cell_lt hc
  have hlk := cell_lt hk
  go_enter Tryd.func17, Tryd.ntmps17
  go_wp2_with fail
  refine hcall.mono ?_
  rintro e w1 ⟨rfl, hb1⟩
  go_wp2
  go_ret2
  exact ⟨rfl, below_alloc hb1⟩

set_option maxRecDepth 100000 in
theorem vars_Get1_cookie (h t key : ByteArray) (a : Option Addr) (n c br bk : Nat) (w : World) (hc : w.cell? ⟨br, 2, none⟩ = some (.func (.func 29) #[] #[])) (hk : w.cell? ⟨bk, 0, none⟩ = some (.string key)) (v : Bs × Bool)
    (hcall : Calls Tryd.prog 29 #[.agg #[.string h, .string t, .slice a n c], .string key] (w.alloc (.cells #[.string h, .string t, .slice a n c] 30)) (Ret (w.alloc (.cells #[.string h, .string t, .slice a n c] 30)) (.tuple #[.string ⟨v.1.toArray⟩, .bool v.2]))) :
    Calls Tryd.prog 17 #[.agg #[.string h, .string t, .slice a n c], .pointer (some ⟨br, 0, none⟩), .pointer (some ⟨bk, 0, none⟩)] w (Ret w (.tuple #[.string ⟨v.1.toArray⟩, .bool v.2])) := by
  have hlt := cell_lt hc
  have hlk := cell_lt hk
  go_enter Tryd.func17, Tryd.ntmps17
  go_wp2_with fail
  refine hcall.mono ?_
  rintro e w1 ⟨rfl, hb1⟩
  go_wp2
  go_ret2
  exact ⟨rfl, below_alloc hb1⟩

set_option maxRecDepth 100000 in
theorem vars_Get1_asked (h t key : ByteArray) (a : Option Addr) (n c br bk : Nat) (w : World) (hc : w.cell? ⟨br, 2, none⟩ = some (.func (.func 31) #[] #[])) (hk : w.cell? ⟨bk, 0, none⟩ = some (.string key)) (v : Bs × Bool)
    (hcall : Calls Tryd.prog 31 #[.agg #[.string h, .string t, .slice a n c], .string key] (w.alloc (.cells #[.string h, .string t, .slice a n c] 30)) (Ret (w.alloc (.cells #[.string h, .string t, .slice a n c] 30)) (.tuple #[.string ⟨v.1.toArray⟩, .bool v.2]))) :
    Calls Tryd.prog 17 #[.agg #[.string h, .string t, .slice a n c], .pointer (some ⟨br, 0, none⟩), .pointer (some ⟨bk, 0, none⟩)] w (Ret w (.tuple #[.string ⟨v.1.toArray⟩, .bool v.2])) := by
  have hlt := cell_lt hc
  have hlk := cell_lt hk
  go_enter Tryd.func17, Tryd.ntmps17
  go_wp2_with fail
  refine hcall.mono ?_
  rintro e w1 ⟨rfl, hb1⟩
  go_wp2
  go_ret2
  exact ⟨rfl, below_alloc hb1⟩

set_option maxRecDepth 100000 in
theorem vars_Get1_language (h t key : ByteArray) (a : Option Addr) (n c br bk : Nat) (w : World) (hc : w.cell? ⟨br, 2, none⟩ = some (.func (.func 32) #[] #[])) (hk : w.cell? ⟨bk, 0, none⟩ = some (.string key)) (v : Bs × Bool)
    (hcall : Calls Tryd.prog 32 #[.agg #[.string h, .string t, .slice a n c], .string key] (w.alloc (.cells #[.string h, .string t, .slice a n c] 30)) (Ret (w.alloc (.cells #[.string h, .string t, .slice a n c] 30)) (.tuple #[.string ⟨v.1.toArray⟩, .bool v.2]))) :
    Calls Tryd.prog 17 #[.agg #[.string h, .string t, .slice a n c], .pointer (some ⟨br, 0, none⟩), .pointer (some ⟨bk, 0, none⟩)] w (Ret w (.tuple #[.string ⟨v.1.toArray⟩, .bool v.2])) := by
  have hlt := cell_lt hc
  have hlk := cell_lt hk
  go_enter Tryd.func17, Tryd.ntmps17
  go_wp2_with fail
  refine hcall.mono ?_
  rintro e w1 ⟨rfl, hb1⟩
  go_wp2
  go_ret2
  exact ⟨rfl, below_alloc hb1⟩

set_option maxRecDepth 100000 in
set_option maxHeartbeats 400000 in
theorem getn_false (h t name key : ByteArray) (a : Option Addr) (n c : Nat) (w : World) (hn : vknown name.data.toList = false) :
    Calls Tryd.prog 8 #[.agg #[.string h, .string t, .slice a n c], .string name, .string key, .bool false] w (Ret w (.tuple #[.string ⟨#[]⟩, .bool false])) := by
  have HN := Lib.hid hn
  clear hn
  have hb0 : Below w.heap.size w ((w.alloc (.cells #[.string h, .string t, .slice a n c] 30)).alloc (.cells #[.string key] 9)) := ((Below.refl _ _).alloc (Nat.le_refl _) _).alloc (by simp) _
  have HB0 := Lib.hid hb0
  clear hb0
  go_enter Tryd.func8, Tryd.ntmps8
  go_wp2_with fail
  refine (vars_rules _).mono ?_
  rintro e w1 ⟨b, p1, p2, p3, rfl, hR, hb1⟩
  have hbw1 := HB0.out.trans (hb1.mono HB0.out.size)
  have hl := look2_6 hR HN.out
  go_wp2
  go_ret2
  exact ⟨rfl, hbw1.alloc hbw1.size _⟩

set_option maxRecDepth 100000 in
set_option maxHeartbeats 400000 in
theorem getn_true (h t name key : ByteArray) (a : Option Addr) (n c : Nat) (w : World) (hn : vknown name.data.toList = false) :
    Calls Tryd.prog 8 #[.agg #[.string h, .string t, .slice a n c], .string name, .string key, .bool true] w (Ret w (.tuple #[.string ⟨#[]⟩, .bool false])) := by
  have HN := Lib.hid hn
  clear hn
  have hb0 : Below w.heap.size w ((w.alloc (.cells #[.string h, .string t, .slice a n c] 30)).alloc (.cells #[.string key] 9)) := ((Below.refl _ _).alloc (Nat.le_refl _) _).alloc (by simp) _
  have HB0 := Lib.hid hb0
  clear hb0
  go_enter Tryd.func8, Tryd.ntmps8
  go_wp2_with fail
  refine (vars_rules _).mono ?_
  rintro e w1 ⟨b, p1, p2, p3, rfl, hR, hb1⟩
  have hbw1 := HB0.out.trans (hb1.mono HB0.out.size)
  have hl := look2_6 hR HN.out
  go_wp2
  go_ret2
  exact ⟨rfl, hbw1.alloc hbw1.size _⟩

set_option maxRecDepth 100000 in
set_option maxHeartbeats 400000 in
theorem getw_0 (h t key : ByteArray) (a : Option Addr) (n c : Nat) (w : World) (v : Bs × Bool) (hv0 : v.2 = false → v.1 = []) 
    (hcall : ∀ W, Below w.heap.size w W → Calls Tryd.prog 24 #[.agg #[.string h, .string t, .slice a n c]] W (Ret W (.tuple #[.string ⟨v.1.toArray⟩, .bool v.2]))) :
    Calls Tryd.prog 8 #[.agg #[.string h, .string t, .slice a n c], .string ⟨nHost.toArray⟩, .string key, .bool false] w (Ret w (.tuple #[.string ⟨v.1.toArray⟩, .bool v.2])) := by
  have HV0 := Lib.hid hv0
  clear hv0
  have hb0 : Below w.heap.size w ((w.alloc (.cells #[.string h, .string t, .slice a n c] 30)).alloc (.cells #[.string key] 9)) := ((Below.refl _ _).alloc (Nat.le_refl _) _).alloc (by simp) _
  have d0 : ((w.alloc (.cells #[.string h, .string t, .slice a n c] 30)).alloc (.cells #[.string key] 9)).cell? ⟨w.heap.size, 0, none⟩ = some (.string h) := (((Below.refl _ _).alloc (Nat.le_refl _) _).cell (p := ⟨w.heap.size, 0, none⟩) (by show w.heap.size < _; simp)).trans (cell_new w _ _ 0 _ rfl)
  have d1 : ((w.alloc (.cells #[.string h, .string t, .slice a n c] 30)).alloc (.cells #[.string key] 9)).cell? ⟨w.heap.size, 1, none⟩ = some (.string t) := (((Below.refl _ _).alloc (Nat.le_refl _) _).cell (p := ⟨w.heap.size, 1, none⟩) (by show w.heap.size < _; simp)).trans (cell_new w _ _ 1 _ rfl)
  have d2 : ((w.alloc (.cells #[.string h, .string t, .slice a n c] 30)).alloc (.cells #[.string key] 9)).cell? ⟨w.heap.size, 2, none⟩ = some (.slice a n c) := (((Below.refl _ _).alloc (Nat.le_refl _) _).cell (p := ⟨w.heap.size, 2, none⟩) (by show w.heap.size < _; simp)).trans (cell_new w _ _ 2 _ rfl)
  have d3 := cell_new (w.alloc (.cells #[.string h, .string t, .slice a n c] 30)) #[.string key] 9 0 _ rfl
  rw [World.size_alloc] at d3
  have D0 := Lib.hid d0
  have D1 := Lib.hid d1
  have D2 := Lib.hid d2
  have D3 := Lib.hid d3
  have HB0 := Lib.hid hb0
  clear d0 d1 d2 d3 hb0
  go_enter Tryd.func8, Tryd.ntmps8
  go_wp2_with fail
  refine (vars_rules _).mono ?_
  rintro e w1 ⟨b, p1, p2, p3, rfl, hR, hb1⟩
  have e0 := ((bcell hb1).1 _ 0 (cell_lt D0.out)).trans D0.out
  have e1 := ((bcell hb1).1 _ 1 (cell_lt D1.out)).trans D1.out
  have e2 := ((bcell hb1).1 _ 2 (cell_lt D2.out)).trans D2.out
  have e3 := ((bcell hb1).1 _ 0 (cell_lt D3.out)).trans D3.out
  have l0 := cell_lt e0
  have l3 := cell_lt e3
  have hbw1 := HB0.out.trans (hb1.mono HB0.out.size)
  clear hb1 D0 D1 D2 D3 HB0
  have hl := look2_0 hR
  go_wp2_with fail
  refine (hcall _ (hbw1.alloc hbw1.size _)).mono ?_
  rintro e w2 ⟨rfl, hb2⟩
  have hbw2 := hbw1.trans ((below_alloc hb2).mono hbw1.size)
  obtain ⟨x, y⟩ := v
  rcases y with _ | _
  · have hx : x = [] := HV0.out rfl
    have HX := Lib.hid hx
    clear hx
    go_wp2
    go_ret2
    rw [HX.out]
    exact ⟨rfl, hbw2⟩
  · go_wp2
    go_ret2
    exact ⟨rfl, hbw2⟩

set_option maxRecDepth 100000 in
set_option maxHeartbeats 400000 in
theorem getp_0 (h t key : ByteArray) (a : Option Addr) (n c : Nat) (w : World) (v : Bs × Bool) (hv0 : v.2 = false → v.1 = []) (hkey : key.size ≤ 140737488351232) (hvk : vkey key.data.toList = true) 
    (hcall : ∀ W, Below w.heap.size w W → Calls Tryd.prog 25 #[.agg #[.string h, .string t, .slice a n c], .string key] W (Ret W (.tuple #[.string ⟨v.1.toArray⟩, .bool v.2]))) :
    Calls Tryd.prog 8 #[.agg #[.string h, .string t, .slice a n c], .string ⟨nHost.toArray⟩, .string key, .bool true] w (Ret w (.tuple #[.string ⟨v.1.toArray⟩, .bool v.2])) := by
  have HV0 := Lib.hid hv0
  clear hv0
  have HVK := Lib.hid hvk
  clear hvk
  have hb0 : Below w.heap.size w ((w.alloc (.cells #[.string h, .string t, .slice a n c] 30)).alloc (.cells #[.string key] 9)) := ((Below.refl _ _).alloc (Nat.le_refl _) _).alloc (by simp) _
  have d0 : ((w.alloc (.cells #[.string h, .string t, .slice a n c] 30)).alloc (.cells #[.string key] 9)).cell? ⟨w.heap.size, 0, none⟩ = some (.string h) := (((Below.refl _ _).alloc (Nat.le_refl _) _).cell (p := ⟨w.heap.size, 0, none⟩) (by show w.heap.size < _; simp)).trans (cell_new w _ _ 0 _ rfl)
  have d1 : ((w.alloc (.cells #[.string h, .string t, .slice a n c] 30)).alloc (.cells #[.string key] 9)).cell? ⟨w.heap.size, 1, none⟩ = some (.string t) := (((Below.refl _ _).alloc (Nat.le_refl _) _).cell (p := ⟨w.heap.size, 1, none⟩) (by show w.heap.size < _; simp)).trans (cell_new w _ _ 1 _ rfl)
  have d2 : ((w.alloc (.cells #[.string h, .string t, .slice a n c] 30)).alloc (.cells #[.string key] 9)).cell? ⟨w.heap.size, 2, none⟩ = some (.slice a n c) := (((Below.refl _ _).alloc (Nat.le_refl _) _).cell (p := ⟨w.heap.size, 2, none⟩) (by show w.heap.size < _; simp)).trans (cell_new w _ _ 2 _ rfl)
  have d3 := cell_new (w.alloc (.cells #[.string h, .string t, .slice a n c] 30)) #[.string key] 9 0 _ rfl
  rw [World.size_alloc] at d3
  have D0 := Lib.hid d0
  have D1 := Lib.hid d1
  have D2 := Lib.hid d2
  have D3 := Lib.hid d3
  have HB0 := Lib.hid hb0
  clear d0 d1 d2 d3 hb0
  go_enter Tryd.func8, Tryd.ntmps8
  go_wp2_with fail
  refine (vars_rules _).mono ?_
  rintro e w1 ⟨b, p1, p2, p3, rfl, hR, hb1⟩
  have e0 := ((bcell hb1).1 _ 0 (cell_lt D0.out)).trans D0.out
  have e1 := ((bcell hb1).1 _ 1 (cell_lt D1.out)).trans D1.out
  have e2 := ((bcell hb1).1 _ 2 (cell_lt D2.out)).trans D2.out
  have e3 := ((bcell hb1).1 _ 0 (cell_lt D3.out)).trans D3.out
  have l0 := cell_lt e0
  have l3 := cell_lt e3
  have hbw1 := HB0.out.trans (hb1.mono HB0.out.size)
  clear hb1 D0 D1 D2 D3 HB0
  have hl := look2_0 hR
  go_wp2_with fail
  refine (vars_Key key _ hkey).mono ?_
  rintro e w2 ⟨rfl, hb2⟩
  rw [HVK.out]
  have q := fun o => (bcell hb2).1 w1.heap.size o (by simp)
  have r1 := (q 1).trans (cell_new w1 _ _ 1 _ rfl)
  have r2 := (q 2).trans (cell_new w1 _ _ 2 _ rfl)
  have hb12 := below_alloc hb2
  replace e0 := ((bcell hb12).1 _ 0 l0).trans e0
  replace e1 := ((bcell hb12).1 _ 1 l0).trans e1
  replace e2 := ((bcell hb12).1 _ 2 l0).trans e2
  replace e3 := ((bcell hb12).1 _ 0 l3).trans e3
  have hbw2 := hbw1.trans (hb12.mono hbw1.size)
  clear q hb2 hb12
  go_wp2_with fail
  refine (vars_Get1_never h t key a n c w1.heap.size (w.heap.size + 1) w2 r2 e3 v (hcall _ (hbw2.alloc hbw2.size _))).mono ?_
  rintro e w3 ⟨rfl, hb3⟩
  have hbw3 := hbw2.trans (hb3.mono hbw2.size)
  obtain ⟨x, y⟩ := v
  rcases y with _ | _
  · have hx : x = [] := HV0.out rfl
    have HX := Lib.hid hx
    clear hx
    go_wp2
    go_ret2
    rw [HX.out]
    exact ⟨rfl, hbw3⟩
  · go_wp2
    go_ret2
    exact ⟨rfl, hbw3⟩

set_option maxRecDepth 100000 in
set_option maxHeartbeats 400000 in
theorem getb_0 (h t key : ByteArray) (a : Option Addr) (n c : Nat) (w : World) (hkey : key.size ≤ 140737488351232) (hvk : vkey key.data.toList = false) :
    Calls Tryd.prog 8 #[.agg #[.string h, .string t, .slice a n c], .string ⟨nHost.toArray⟩, .string key, .bool true] w (Ret w (.tuple #[.string ⟨#[]⟩, .bool false])) := by
  have HVK := Lib.hid hvk
  clear hvk
  have hb0 : Below w.heap.size w ((w.alloc (.cells #[.string h, .string t, .slice a n c] 30)).alloc (.cells #[.string key] 9)) := ((Below.refl _ _).alloc (Nat.le_refl _) _).alloc (by simp) _
  have d0 : ((w.alloc (.cells #[.string h, .string t, .slice a n c] 30)).alloc (.cells #[.string key] 9)).cell? ⟨w.heap.size, 0, none⟩ = some (.string h) := (((Below.refl _ _).alloc (Nat.le_refl _) _).cell (p := ⟨w.heap.size, 0, none⟩) (by show w.heap.size < _; simp)).trans (cell_new w _ _ 0 _ rfl)
  have d1 : ((w.alloc (.cells #[.string h, .string t, .slice a n c] 30)).alloc (.cells #[.string key] 9)).cell? ⟨w.heap.size, 1, none⟩ = some (.string t) := (((Below.refl _ _).alloc (Nat.le_refl _) _).cell (p := ⟨w.heap.size, 1, none⟩) (by show w.heap.size < _; simp)).trans (cell_new w _ _ 1 _ rfl)
  have d2 : ((w.alloc (.cells #[.string h, .string t, .slice a n c] 30)).alloc (.cells #[.string key] 9)).cell? ⟨w.heap.size, 2, none⟩ = some (.slice a n c) := (((Below.refl _ _).alloc (Nat.le_refl _) _).cell (p := ⟨w.heap.size, 2, none⟩) (by show w.heap.size < _; simp)).trans (cell_new w _ _ 2 _ rfl)
  have d3 := cell_new (w.alloc (.cells #[.string h, .string t, .slice a n c] 30)) #[.string key] 9 0 _ rfl
  rw [World.size_alloc] at d3
  have D0 := Lib.hid d0
  have D1 := Lib.hid d1
  have D2 := Lib.hid d2
  have D3 := Lib.hid d3
  have HB0 := Lib.hid hb0
  clear d0 d1 d2 d3 hb0
  go_enter Tryd.func8, Tryd.ntmps8
  go_wp2_with fail
  refine (vars_rules _).mono ?_
  rintro e w1 ⟨b, p1, p2, p3, rfl, hR, hb1⟩
  have e0 := ((bcell hb1).1 _ 0 (cell_lt D0.out)).trans D0.out
  have e1 := ((bcell hb1).1 _ 1 (cell_lt D1.out)).trans D1.out
  have e2 := ((bcell hb1).1 _ 2 (cell_lt D2.out)).trans D2.out
  have e3 := ((bcell hb1).1 _ 0 (cell_lt D3.out)).trans D3.out
  have l0 := cell_lt e0
  have l3 := cell_lt e3
  have hbw1 := HB0.out.trans (hb1.mono HB0.out.size)
  clear hb1 D0 D1 D2 D3 HB0
  have hl := look2_0 hR
  go_wp2_with fail
  refine (vars_Key key _ hkey).mono ?_
  rintro e w2 ⟨rfl, hb2⟩
  rw [HVK.out]
  have q := fun o => (bcell hb2).1 w1.heap.size o (by simp)
  have r1 := (q 1).trans (cell_new w1 _ _ 1 _ rfl)
  have r2 := (q 2).trans (cell_new w1 _ _ 2 _ rfl)
  have hb12 := below_alloc hb2
  replace e0 := ((bcell hb12).1 _ 0 l0).trans e0
  replace e1 := ((bcell hb12).1 _ 1 l0).trans e1
  replace e2 := ((bcell hb12).1 _ 2 l0).trans e2
  replace e3 := ((bcell hb12).1 _ 0 l3).trans e3
  have hbw2 := hbw1.trans (hb12.mono hbw1.size)
  clear q hb2 hb12
  go_wp2
  go_ret2
  exact ⟨rfl, hbw2⟩

set_option maxRecDepth 100000 in
set_option maxHeartbeats 400000 in
theorem getw_1 (h t key : ByteArray) (a : Option Addr) (n c : Nat) (w : World) (v : Bs × Bool) (hv0 : v.2 = false → v.1 = []) 
    (hcall : ∀ W p, Below w.heap.size w W → W.cell? ⟨p, 0, none⟩ = some (.string ⟨refererName.toArray⟩) → Calls Tryd.prog 39 #[.agg #[.string h, .string t, .slice a n c], .pointer (some ⟨p, 0, none⟩)] W (Ret W (.tuple #[.string ⟨v.1.toArray⟩, .bool v.2]))) :
    Calls Tryd.prog 8 #[.agg #[.string h, .string t, .slice a n c], .string ⟨nReferer.toArray⟩, .string key, .bool false] w (Ret w (.tuple #[.string ⟨v.1.toArray⟩, .bool v.2])) := by
  have HV0 := Lib.hid hv0
  clear hv0
  have hb0 : Below w.heap.size w ((w.alloc (.cells #[.string h, .string t, .slice a n c] 30)).alloc (.cells #[.string key] 9)) := ((Below.refl _ _).alloc (Nat.le_refl _) _).alloc (by simp) _
  have d0 : ((w.alloc (.cells #[.string h, .string t, .slice a n c] 30)).alloc (.cells #[.string key] 9)).cell? ⟨w.heap.size, 0, none⟩ = some (.string h) := (((Below.refl _ _).alloc (Nat.le_refl _) _).cell (p := ⟨w.heap.size, 0, none⟩) (by show w.heap.size < _; simp)).trans (cell_new w _ _ 0 _ rfl)
  have d1 : ((w.alloc (.cells #[.string h, .string t, .slice a n c] 30)).alloc (.cells #[.string key] 9)).cell? ⟨w.heap.size, 1, none⟩ = some (.string t) := (((Below.refl _ _).alloc (Nat.le_refl _) _).cell (p := ⟨w.heap.size, 1, none⟩) (by show w.heap.size < _; simp)).trans (cell_new w _ _ 1 _ rfl)
  have d2 : ((w.alloc (.cells #[.string h, .string t, .slice a n c] 30)).alloc (.cells #[.string key] 9)).cell? ⟨w.heap.size, 2, none⟩ = some (.slice a n c) := (((Below.refl _ _).alloc (Nat.le_refl _) _).cell (p := ⟨w.heap.size, 2, none⟩) (by show w.heap.size < _; simp)).trans (cell_new w _ _ 2 _ rfl)
  have d3 := cell_new (w.alloc (.cells #[.string h, .string t, .slice a n c] 30)) #[.string key] 9 0 _ rfl
  rw [World.size_alloc] at d3
  have D0 := Lib.hid d0
  have D1 := Lib.hid d1
  have D2 := Lib.hid d2
  have D3 := Lib.hid d3
  have HB0 := Lib.hid hb0
  clear d0 d1 d2 d3 hb0
  go_enter Tryd.func8, Tryd.ntmps8
  go_wp2_with fail
  refine (vars_rules _).mono ?_
  rintro e w1 ⟨b, p1, p2, p3, rfl, hR, hb1⟩
  have e0 := ((bcell hb1).1 _ 0 (cell_lt D0.out)).trans D0.out
  have e1 := ((bcell hb1).1 _ 1 (cell_lt D1.out)).trans D1.out
  have e2 := ((bcell hb1).1 _ 2 (cell_lt D2.out)).trans D2.out
  have e3 := ((bcell hb1).1 _ 0 (cell_lt D3.out)).trans D3.out
  have l0 := cell_lt e0
  have l3 := cell_lt e3
  have hbw1 := HB0.out.trans (hb1.mono HB0.out.size)
  clear hb1 D0 D1 D2 D3 HB0
  have hl := look2_1 hR
  go_wp2_with fail
  refine (hcall _ p1 (hbw1.alloc hbw1.size _) (hR.next ((Below.refl _ _).alloc (Nat.le_refl _) _)).c1).mono ?_
  rintro e w2 ⟨rfl, hb2⟩
  have hbw2 := hbw1.trans ((below_alloc hb2).mono hbw1.size)
  obtain ⟨x, y⟩ := v
  rcases y with _ | _
  · have hx : x = [] := HV0.out rfl
    have HX := Lib.hid hx
    clear hx
    go_wp2
    go_ret2
    rw [HX.out]
    exact ⟨rfl, hbw2⟩
  · go_wp2
    go_ret2
    exact ⟨rfl, hbw2⟩

set_option maxRecDepth 100000 in
set_option maxHeartbeats 400000 in
theorem getp_1 (h t key : ByteArray) (a : Option Addr) (n c : Nat) (w : World) (v : Bs × Bool) (hv0 : v.2 = false → v.1 = []) (hkey : key.size ≤ 140737488351232) (hvk : vkey key.data.toList = true) 
    (hcall : ∀ W, Below w.heap.size w W → Calls Tryd.prog 25 #[.agg #[.string h, .string t, .slice a n c], .string key] W (Ret W (.tuple #[.string ⟨v.1.toArray⟩, .bool v.2]))) :
    Calls Tryd.prog 8 #[.agg #[.string h, .string t, .slice a n c], .string ⟨nReferer.toArray⟩, .string key, .bool true] w (Ret w (.tuple #[.string ⟨v.1.toArray⟩, .bool v.2])) := by
  have HV0 := Lib.hid hv0
  clear hv0
  have HVK := Lib.hid hvk
  clear hvk
  have hb0 : Below w.heap.size w ((w.alloc (.cells #[.string h, .string t, .slice a n c] 30)).alloc (.cells #[.string key] 9)) := ((Below.refl _ _).alloc (Nat.le_refl _) _).alloc (by simp) _
  have d0 : ((w.alloc (.cells #[.string h, .string t, .slice a n c] 30)).alloc (.cells #[.string key] 9)).cell? ⟨w.heap.size, 0, none⟩ = some (.string h) := (((Below.refl _ _).alloc (Nat.le_refl _) _).cell (p := ⟨w.heap.size, 0, none⟩) (by show w.heap.size < _; simp)).trans (cell_new w _ _ 0 _ rfl)
  have d1 : ((w.alloc (.cells #[.string h, .string t, .slice a n c] 30)).alloc (.cells #[.string key] 9)).cell? ⟨w.heap.size, 1, none⟩ = some (.string t) := (((Below.refl _ _).alloc (Nat.le_refl _) _).cell (p := ⟨w.heap.size, 1, none⟩) (by show w.heap.size < _; simp)).trans (cell_new w _ _ 1 _ rfl)
  have d2 : ((w.alloc (.cells #[.string h, .string t, .slice a n c] 30)).alloc (.cells #[.string key] 9)).cell? ⟨w.heap.size, 2, none⟩ = some (.slice a n c) := (((Below.refl _ _).alloc (Nat.le_refl _) _).cell (p := ⟨w.heap.size, 2, none⟩) (by show w.heap.size < _; simp)).trans (cell_new w _ _ 2 _ rfl)
  have d3 := cell_new (w.alloc (.cells #[.string h, .string t, .slice a n c] 30)) #[.string key] 9 0 _ rfl
  rw [World.size_alloc] at d3
  have D0 := Lib.hid d0
  have D1 := Lib.hid d1
  have D2 := Lib.hid d2
  have D3 := Lib.hid d3
  have HB0 := Lib.hid hb0
  clear d0 d1 d2 d3 hb0
  go_enter Tryd.func8, Tryd.ntmps8
  go_wp2_with fail
  refine (vars_rules _).mono ?_
  rintro e w1 ⟨b, p1, p2, p3, rfl, hR, hb1⟩
  have e0 := ((bcell hb1).1 _ 0 (cell_lt D0.out)).trans D0.out
  have e1 := ((bcell hb1).1 _ 1 (cell_lt D1.out)).trans D1.out
  have e2 := ((bcell hb1).1 _ 2 (cell_lt D2.out)).trans D2.out
  have e3 := ((bcell hb1).1 _ 0 (cell_lt D3.out)).trans D3.out
  have l0 := cell_lt e0
  have l3 := cell_lt e3
  have hbw1 := HB0.out.trans (hb1.mono HB0.out.size)
  clear hb1 D0 D1 D2 D3 HB0
  have hl := look2_1 hR
  go_wp2_with fail
  refine (vars_Key key _ hkey).mono ?_
  rintro e w2 ⟨rfl, hb2⟩
  rw [HVK.out]
  have q := fun o => (bcell hb2).1 w1.heap.size o (by simp)
  have r1 := (q 1).trans (cell_new w1 _ _ 1 _ rfl)
  have r2 := (q 2).trans (cell_new w1 _ _ 2 _ rfl)
  have hb12 := below_alloc hb2
  replace e0 := ((bcell hb12).1 _ 0 l0).trans e0
  replace e1 := ((bcell hb12).1 _ 1 l0).trans e1
  replace e2 := ((bcell hb12).1 _ 2 l0).trans e2
  replace e3 := ((bcell hb12).1 _ 0 l3).trans e3
  have hbw2 := hbw1.trans (hb12.mono hbw1.size)
  clear q hb2 hb12
  go_wp2_with fail
  refine (vars_Get1_never h t key a n c w1.heap.size (w.heap.size + 1) w2 r2 e3 v (hcall _ (hbw2.alloc hbw2.size _))).mono ?_
  rintro e w3 ⟨rfl, hb3⟩
  have hbw3 := hbw2.trans (hb3.mono hbw2.size)
  obtain ⟨x, y⟩ := v
  rcases y with _ | _
  · have hx : x = [] := HV0.out rfl
    have HX := Lib.hid hx
    clear hx
    go_wp2
    go_ret2
    rw [HX.out]
    exact ⟨rfl, hbw3⟩
  · go_wp2
    go_ret2
    exact ⟨rfl, hbw3⟩

set_option maxRecDepth 100000 in
set_option maxHeartbeats 400000 in
theorem getb_1 (h t key : ByteArray) (a : Option Addr) (n c : Nat) (w : World) (hkey : key.size ≤ 140737488351232) (hvk : vkey key.data.toList = false) :
    Calls Tryd.prog 8 #[.agg #[.string h, .string t, .slice a n c], .string ⟨nReferer.toArray⟩, .string key, .bool true] w (Ret w (.tuple #[.string ⟨#[]⟩, .bool false])) := by
  have HVK := Lib.hid hvk
  clear hvk
  have hb0 : Below w.heap.size w ((w.alloc (.cells #[.string h, .string t, .slice a n c] 30)).alloc (.cells #[.string key] 9)) := ((Below.refl _ _).alloc (Nat.le_refl _) _).alloc (by simp) _
  have d0 : ((w.alloc (.cells #[.string h, .string t, .slice a n c] 30)).alloc (.cells #[.string key] 9)).cell? ⟨w.heap.size, 0, none⟩ = some (.string h) := (((Below.refl _ _).alloc (Nat.le_refl _) _).cell (p := ⟨w.heap.size, 0, none⟩) (by show w.heap.size < _; simp)).trans (cell_new w _ _ 0 _ rfl)
  have d1 : ((w.alloc (.cells #[.string h, .string t, .slice a n c] 30)).alloc (.cells #[.string key] 9)).cell? ⟨w.heap.size, 1, none⟩ = some (.string t) := (((Below.refl _ _).alloc (Nat.le_refl _) _).cell (p := ⟨w.heap.size, 1, none⟩) (by show w.heap.size < _; simp)).trans (cell_new w _ _ 1 _ rfl)
  have d2 : ((w.alloc (.cells #[.string h, .string t, .slice a n c] 30)).alloc (.cells #[.string key] 9)).cell? ⟨w.heap.size, 2, none⟩ = some (.slice a n c) := (((Below.refl _ _).alloc (Nat.le_refl _) _).cell (p := ⟨w.heap.size, 2, none⟩) (by show w.heap.size < _; simp)).trans (cell_new w _ _ 2 _ rfl)
  have d3 := cell_new (w.alloc (.cells #[.string h, .string t, .slice a n c] 30)) #[.string key] 9 0 _ rfl
  rw [World.size_alloc] at d3
  have D0 := Lib.hid d0
  have D1 := Lib.hid d1
  have D2 := Lib.hid d2
  have D3 := Lib.hid d3
  have HB0 := Lib.hid hb0
  clear d0 d1 d2 d3 hb0
  go_enter Tryd.func8, Tryd.ntmps8
  go_wp2_with fail
  refine (vars_rules _).mono ?_
  rintro e w1 ⟨b, p1, p2, p3, rfl, hR, hb1⟩
  have e0 := ((bcell hb1).1 _ 0 (cell_lt D0.out)).trans D0.out
  have e1 := ((bcell hb1).1 _ 1 (cell_lt D1.out)).trans D1.out
  have e2 := ((bcell hb1).1 _ 2 (cell_lt D2.out)).trans D2.out
  have e3 := ((bcell hb1).1 _ 0 (cell_lt D3.out)).trans D3.out
  have l0 := cell_lt e0
  have l3 := cell_lt e3
  have hbw1 := HB0.out.trans (hb1.mono HB0.out.size)
  clear hb1 D0 D1 D2 D3 HB0
  have hl := look2_1 hR
  go_wp2_with fail
  refine (vars_Key key _ hkey).mono ?_
  rintro e w2 ⟨rfl, hb2⟩
  rw [HVK.out]
  have q := fun o => (bcell hb2).1 w1.heap.size o (by simp)
  have r1 := (q 1).trans (cell_new w1 _ _ 1 _ rfl)
  have r2 := (q 2).trans (cell_new w1 _ _ 2 _ rfl)
  have hb12 := below_alloc hb2
  replace e0 := ((bcell hb12).1 _ 0 l0).trans e0
  replace e1 := ((bcell hb12).1 _ 1 l0).trans e1
  replace e2 := ((bcell hb12).1 _ 2 l0).trans e2
  replace e3 := ((bcell hb12).1 _ 0 l3).trans e3
  have hbw2 := hbw1.trans (hb12.mono hbw1.size)
  clear q hb2 hb12
  go_wp2
  go_ret2
  exact ⟨rfl, hbw2⟩

set_option maxRecDepth 100000 in
set_option maxHeartbeats 400000 in
theorem getw_2 (h t key : ByteArray) (a : Option Addr) (n c : Nat) (w : World) (v : Bs × Bool) (hv0 : v.2 = false → v.1 = []) 
    (hcall : ∀ W p, Below w.heap.size w W → W.cell? ⟨p, 0, none⟩ = some (.string ⟨agentName.toArray⟩) → Calls Tryd.prog 39 #[.agg #[.string h, .string t, .slice a n c], .pointer (some ⟨p, 0, none⟩)] W (Ret W (.tuple #[.string ⟨v.1.toArray⟩, .bool v.2]))) :
    Calls Tryd.prog 8 #[.agg #[.string h, .string t, .slice a n c], .string ⟨nAgent.toArray⟩, .string key, .bool false] w (Ret w (.tuple #[.string ⟨v.1.toArray⟩, .bool v.2])) := by
  have HV0 := Lib.hid hv0
  clear hv0
  have hb0 : Below w.heap.size w ((w.alloc (.cells #[.string h, .string t, .slice a n c] 30)).alloc (.cells #[.string key] 9)) := ((Below.refl _ _).alloc (Nat.le_refl _) _).alloc (by simp) _
  have d0 : ((w.alloc (.cells #[.string h, .string t, .slice a n c] 30)).alloc (.cells #[.string key] 9)).cell? ⟨w.heap.size, 0, none⟩ = some (.string h) := (((Below.refl _ _).alloc (Nat.le_refl _) _).cell (p := ⟨w.heap.size, 0, none⟩) (by show w.heap.size < _; simp)).trans (cell_new w _ _ 0 _ rfl)
  have d1 : ((w.alloc (.cells #[.string h, .string t, .slice a n c] 30)).alloc (.cells #[.string key] 9)).cell? ⟨w.heap.size, 1, none⟩ = some (.string t) := (((Below.refl _ _).alloc (Nat.le_refl _) _).cell (p := ⟨w.heap.size, 1, none⟩) (by show w.heap.size < _; simp)).trans (cell_new w _ _ 1 _ rfl)
  have d2 : ((w.alloc (.cells #[.string h, .string t, .slice a n c] 30)).alloc (.cells #[.string key] 9)).cell? ⟨w.heap.size, 2, none⟩ = some (.slice a n c) := (((Below.refl _ _).alloc (Nat.le_refl _) _).cell (p := ⟨w.heap.size, 2, none⟩) (by show w.heap.size < _; simp)).trans (cell_new w _ _ 2 _ rfl)
  have d3 := cell_new (w.alloc (.cells #[.string h, .string t, .slice a n c] 30)) #[.string key] 9 0 _ rfl
  rw [World.size_alloc] at d3
  have D0 := Lib.hid d0
  have D1 := Lib.hid d1
  have D2 := Lib.hid d2
  have D3 := Lib.hid d3
  have HB0 := Lib.hid hb0
  clear d0 d1 d2 d3 hb0
  go_enter Tryd.func8, Tryd.ntmps8
  go_wp2_with fail
  refine (vars_rules _).mono ?_
  rintro e w1 ⟨b, p1, p2, p3, rfl, hR, hb1⟩
  have e0 := ((bcell hb1).1 _ 0 (cell_lt D0.out)).trans D0.out
  have e1 := ((bcell hb1).1 _ 1 (cell_lt D1.out)).trans D1.out
  have e2 := ((bcell hb1).1 _ 2 (cell_lt D2.out)).trans D2.out
  have e3 := ((bcell hb1).1 _ 0 (cell_lt D3.out)).trans D3.out
  have l0 := cell_lt e0
  have l3 := cell_lt e3
  have hbw1 := HB0.out.trans (hb1.mono HB0.out.size)
  clear hb1 D0 D1 D2 D3 HB0
  have hl := look2_2 hR
  go_wp2_with fail
  refine (hcall _ p2 (hbw1.alloc hbw1.size _) (hR.next ((Below.refl _ _).alloc (Nat.le_refl _) _)).c2).mono ?_
  rintro e w2 ⟨rfl, hb2⟩
  have hbw2 := hbw1.trans ((below_alloc hb2).mono hbw1.size)
  obtain ⟨x, y⟩ := v
  rcases y with _ | _
  · have hx : x = [] := HV0.out rfl
    have HX := Lib.hid hx
    clear hx
    go_wp2
    go_ret2
    rw [HX.out]
    exact ⟨rfl, hbw2⟩
  · go_wp2
    go_ret2
    exact ⟨rfl, hbw2⟩

set_option maxRecDepth 100000 in
set_option maxHeartbeats 400000 in
theorem getp_2 (h t key : ByteArray) (a : Option Addr) (n c : Nat) (w : World) (v : Bs × Bool) (hv0 : v.2 = false → v.1 = []) (hkey : key.size ≤ 140737488351232) (hvk : vkey key.data.toList = true) 
    (hcall : ∀ W, Below w.heap.size w W → Calls Tryd.prog 27 #[.agg #[.string h, .string t, .slice a n c], .string key] W (Ret W (.tuple #[.string ⟨v.1.toArray⟩, .bool v.2]))) :
    Calls Tryd.prog 8 #[.agg #[.string h, .string t, .slice a n c], .string ⟨nAgent.toArray⟩, .string key, .bool true] w (Ret w (.tuple #[.string ⟨v.1.toArray⟩, .bool v.2])) := by
  have HV0 := Lib.hid hv0
  clear hv0
  have HVK := Lib.hid hvk
  clear hvk
  have hb0 : Below w.heap.size w ((w.alloc (.cells #[.string h, .string t, .slice a n c] 30)).alloc (.cells #[.string key] 9)) := ((Below.refl _ _).alloc (Nat.le_refl _) _).alloc (by simp) _
  have d0 : ((w.alloc (.cells #[.string h, .string t, .slice a n c] 30)).alloc (.cells #[.string key] 9)).cell? ⟨w.heap.size, 0, none⟩ = some (.string h) := (((Below.refl _ _).alloc (Nat.le_refl _) _).cell (p := ⟨w.heap.size, 0, none⟩) (by show w.heap.size < _; simp)).trans (cell_new w _ _ 0 _ rfl)
  have d1 : ((w.alloc (.cells #[.string h, .string t, .slice a n c] 30)).alloc (.cells #[.string key] 9)).cell? ⟨w.heap.size, 1, none⟩ = some (.string t) := (((Below.refl _ _).alloc (Nat.le_refl _) _).cell (p := ⟨w.heap.size, 1, none⟩) (by show w.heap.size < _; simp)).trans (cell_new w _ _ 1 _ rfl)
  have d2 : ((w.alloc (.cells #[.string h, .string t, .slice a n c] 30)).alloc (.cells #[.string key] 9)).cell? ⟨w.heap.size, 2, none⟩ = some (.slice a n c) := (((Below.refl _ _).alloc (Nat.le_refl _) _).cell (p := ⟨w.heap.size, 2, none⟩) (by show w.heap.size < _; simp)).trans (cell_new w _ _ 2 _ rfl)
  have d3 := cell_new (w.alloc (.cells #[.string h, .string t, .slice a n c] 30)) #[.string key] 9 0 _ rfl
  rw [World.size_alloc] at d3
  have D0 := Lib.hid d0
  have D1 := Lib.hid d1
  have D2 := Lib.hid d2
  have D3 := Lib.hid d3
  have HB0 := Lib.hid hb0
  clear d0 d1 d2 d3 hb0
  go_enter Tryd.func8, Tryd.ntmps8
  go_wp2_with fail
  refine (vars_rules _).mono ?_
  rintro e w1 ⟨b, p1, p2, p3, rfl, hR, hb1⟩
  have e0 := ((bcell hb1).1 _ 0 (cell_lt D0.out)).trans D0.out
  have e1 := ((bcell hb1).1 _ 1 (cell_lt D1.out)).trans D1.out
  have e2 := ((bcell hb1).1 _ 2 (cell_lt D2.out)).trans D2.out
  have e3 := ((bcell hb1).1 _ 0 (cell_lt D3.out)).trans D3.out
  have l0 := cell_lt e0
  have l3 := cell_lt e3
  have hbw1 := HB0.out.trans (hb1.mono HB0.out.size)
  clear hb1 D0 D1 D2 D3 HB0
  have hl := look2_2 hR
  go_wp2_with fail
  refine (vars_Key key _ hkey).mono ?_
  rintro e w2 ⟨rfl, hb2⟩
  rw [HVK.out]
  have q := fun o => (bcell hb2).1 w1.heap.size o (by simp)
  have r1 := (q 1).trans (cell_new w1 _ _ 1 _ rfl)
  have r2 := (q 2).trans (cell_new w1 _ _ 2 _ rfl)
  have hb12 := below_alloc hb2
  replace e0 := ((bcell hb12).1 _ 0 l0).trans e0
  replace e1 := ((bcell hb12).1 _ 1 l0).trans e1
  replace e2 := ((bcell hb12).1 _ 2 l0).trans e2
  replace e3 := ((bcell hb12).1 _ 0 l3).trans e3
  have hbw2 := hbw1.trans (hb12.mono hbw1.size)
  clear q hb2 hb12
  go_wp2_with fail
  refine (vars_Get1_agent h t key a n c w1.heap.size (w.heap.size + 1) w2 r2 e3 v (hcall _ (hbw2.alloc hbw2.size _))).mono ?_
  rintro e w3 ⟨rfl, hb3⟩
  have hbw3 := hbw2.trans (hb3.mono hbw2.size)
  obtain ⟨x, y⟩ := v
  rcases y with _ | _
  · have hx : x = [] := HV0.out rfl
    have HX := Lib.hid hx
    clear hx
    go_wp2
    go_ret2
    rw [HX.out]
    exact ⟨rfl, hbw3⟩
  · go_wp2
    go_ret2
    exact ⟨rfl, hbw3⟩

set_option maxRecDepth 100000 in
set_option maxHeartbeats 400000 in
theorem getb_2 (h t key : ByteArray) (a : Option Addr) (n c : Nat) (w : World) (hkey : key.size ≤ 140737488351232) (hvk : vkey key.data.toList = false) :
    Calls Tryd.prog 8 #[.agg #[.string h, .string t, .slice a n c], .string ⟨nAgent.toArray⟩, .string key, .bool true] w (Ret w (.tuple #[.string ⟨#[]⟩, .bool false])) := by
  have HVK := Lib.hid hvk
  clear hvk
  have hb0 : Below w.heap.size w ((w.alloc (.cells #[.string h, .string t, .slice a n c] 30)).alloc (.cells #[.string key] 9)) := ((Below.refl _ _).alloc (Nat.le_refl _) _).alloc (by simp) _
  have d0 : ((w.alloc (.cells #[.string h, .string t, .slice a n c] 30)).alloc (.cells #[.string key] 9)).cell? ⟨w.heap.size, 0, none⟩ = some (.string h) := (((Below.refl _ _).alloc (Nat.le_refl _) _).cell (p := ⟨w.heap.size, 0, none⟩) (by show w.heap.size < _; simp)).trans (cell_new w _ _ 0 _ rfl)
  have d1 : ((w.alloc (.cells #[.string h, .string t, .slice a n c] 30)).alloc (.cells #[.string key] 9)).cell? ⟨w.heap.size, 1, none⟩ = some (.string t) := (((Below.refl _ _).alloc (Nat.le_refl _) _).cell (p := ⟨w.heap.size, 1, none⟩) (by show w.heap.size < _; simp)).trans (cell_new w _ _ 1 _ rfl)
  have d2 : ((w.alloc (.cells #[.string h, .string t, .slice a n c] 30)).alloc (.cells #[.string key] 9)).cell? ⟨w.heap.size, 2, none⟩ = some (.slice a n c) := (((Below.refl _ _).alloc (Nat.le_refl _) _).cell (p := ⟨w.heap.size, 2, none⟩) (by show w.heap.size < _; simp)).trans (cell_new w _ _ 2 _ rfl)
  have d3 := cell_new (w.alloc (.cells #[.string h, .string t, .slice a n c] 30)) #[.string key] 9 0 _ rfl
  rw [World.size_alloc] at d3
  have D0 := Lib.hid d0
  have D1 := Lib.hid d1
  have D2 := Lib.hid d2
  have D3 := Lib.hid d3
  have HB0 := Lib.hid hb0
  clear d0 d1 d2 d3 hb0
  go_enter Tryd.func8, Tryd.ntmps8
  go_wp2_with fail
  refine (vars_rules _).mono ?_
  rintro e w1 ⟨b, p1, p2, p3, rfl, hR, hb1⟩
  have e0 := ((bcell hb1).1 _ 0 (cell_lt D0.out)).trans D0.out
  have e1 := ((bcell hb1).1 _ 1 (cell_lt D1.out)).trans D1.out
  have e2 := ((bcell hb1).1 _ 2 (cell_lt D2.out)).trans D2.out
  have e3 := ((bcell hb1).1 _ 0 (cell_lt D3.out)).trans D3.out
  have l0 := cell_lt e0
  have l3 := cell_lt e3
  have hbw1 := HB0.out.trans (hb1.mono HB0.out.size)
  clear hb1 D0 D1 D2 D3 HB0
  have hl := look2_2 hR
  go_wp2_with fail
  refine (vars_Key key _ hkey).mono ?_
  rintro e w2 ⟨rfl, hb2⟩
  rw [HVK.out]
  have q := fun o => (bcell hb2).1 w1.heap.size o (by simp)
  have r1 := (q 1).trans (cell_new w1 _ _ 1 _ rfl)
  have r2 := (q 2).trans (cell_new w1 _ _ 2 _ rfl)
  have hb12 := below_alloc hb2
  replace e0 := ((bcell hb12).1 _ 0 l0).trans e0
  replace e1 := ((bcell hb12).1 _ 1 l0).trans e1
  replace e2 := ((bcell hb12).1 _ 2 l0).trans e2
  replace e3 := ((bcell hb12).1 _ 0 l3).trans e3
  have hbw2 := hbw1.trans (hb12.mono hbw1.size)
  clear q hb2 hb12
  go_wp2
  go_ret2
  exact ⟨rfl, hbw2⟩

set_option maxRecDepth 100000 in
set_option maxHeartbeats 400000 in
theorem getw_3 (h t key : ByteArray) (a : Option Addr) (n c : Nat) (w : World) (v : Bs × Bool) (hv0 : v.2 = false → v.1 = []) 
    (hcall : ∀ W, Below w.heap.size w W → Calls Tryd.prog 28 #[.agg #[.string h, .string t, .slice a n c]] W (Ret W (.tuple #[.string ⟨v.1.toArray⟩, .bool v.2]))) :
    Calls Tryd.prog 8 #[.agg #[.string h, .string t, .slice a n c], .string ⟨nCookie.toArray⟩, .string key, .bool false] w (Ret w (.tuple #[.string ⟨v.1.toArray⟩, .bool v.2])) := by
  have HV0 := Lib.hid hv0
  clear hv0
  have hb0 : Below w.heap.size w ((w.alloc (.cells #[.string h, .string t, .slice a n c] 30)).alloc (.cells #[.string key] 9)) := ((Below.refl _ _).alloc (Nat.le_refl _) _).alloc (by simp) _
  have d0 : ((w.alloc (.cells #[.string h, .string t, .slice a n c] 30)).alloc (.cells #[.string key] 9)).cell? ⟨w.heap.size, 0, none⟩ = some (.string h) := (((Below.refl _ _).alloc (Nat.le_refl _) _).cell (p := ⟨w.heap.size, 0, none⟩) (by show w.heap.size < _; simp)).trans (cell_new w _ _ 0 _ rfl)
  have d1 : ((w.alloc (.cells #[.string h, .string t, .slice a n c] 30)).alloc (.cells #[.string key] 9)).cell? ⟨w.heap.size, 1, none⟩ = some (.string t) := (((Below.refl _ _).alloc (Nat.le_refl _) _).cell (p := ⟨w.heap.size, 1, none⟩) (by show w.heap.size < _; simp)).trans (cell_new w _ _ 1 _ rfl)
  have d2 : ((w.alloc (.cells #[.string h, .string t, .slice a n c] 30)).alloc (.cells #[.string key] 9)).cell? ⟨w.heap.size, 2, none⟩ = some (.slice a n c) := (((Below.refl _ _).alloc (Nat.le_refl _) _).cell (p := ⟨w.heap.size, 2, none⟩) (by show w.heap.size < _; simp)).trans (cell_new w _ _ 2 _ rfl)
  have d3 := cell_new (w.alloc (.cells #[.string h, .string t, .slice a n c] 30)) #[.string key] 9 0 _ rfl
  rw [World.size_alloc] at d3
  have D0 := Lib.hid d0
  have D1 := Lib.hid d1
  have D2 := Lib.hid d2
  have D3 := Lib.hid d3
  have HB0 := Lib.hid hb0
  clear d0 d1 d2 d3 hb0
  go_enter Tryd.func8, Tryd.ntmps8
  go_wp2_with fail
  refine (vars_rules _).mono ?_
  rintro e w1 ⟨b, p1, p2, p3, rfl, hR, hb1⟩
  have e0 := ((bcell hb1).1 _ 0 (cell_lt D0.out)).trans D0.out
  have e1 := ((bcell hb1).1 _ 1 (cell_lt D1.out)).trans D1.out
  have e2 := ((bcell hb1).1 _ 2 (cell_lt D2.out)).trans D2.out
  have e3 := ((bcell hb1).1 _ 0 (cell_lt D3.out)).trans D3.out
  have l0 := cell_lt e0
  have l3 := cell_lt e3
  have hbw1 := HB0.out.trans (hb1.mono HB0.out.size)
  clear hb1 D0 D1 D2 D3 HB0
  have hl := look2_3 hR
  go_wp2_with fail
  refine (hcall _ (hbw1.alloc hbw1.size _)).mono ?_
  rintro e w2 ⟨rfl, hb2⟩
  have hbw2 := hbw1.trans ((below_alloc hb2).mono hbw1.size)
  obtain ⟨x, y⟩ := v
  rcases y with _ | _
  · have hx : x = [] := HV0.out rfl
    have HX := Lib.hid hx
    clear hx
    go_wp2
    go_ret2
    rw [HX.out]
    exact ⟨rfl, hbw2⟩
  · go_wp2
    go_ret2
    exact ⟨rfl, hbw2⟩

set_option maxRecDepth 100000 in
set_option maxHeartbeats 400000 in
theorem getp_3 (h t key : ByteArray) (a : Option Addr) (n c : Nat) (w : World) (v : Bs × Bool) (hv0 : v.2 = false → v.1 = []) (hkey : key.size ≤ 140737488351232) (hvk : vkey key.data.toList = true) 
    (hcall : ∀ W, Below w.heap.size w W → Calls Tryd.prog 29 #[.agg #[.string h, .string t, .slice a n c], .string key] W (Ret W (.tuple #[.string ⟨v.1.toArray⟩, .bool v.2]))) :
    Calls Tryd.prog 8 #[.agg #[.string h, .string t, .slice a n c], .string ⟨nCookie.toArray⟩, .string key, .bool true] w (Ret w (.tuple #[.string ⟨v.1.toArray⟩, .bool v.2])) := by
  have HV0 := Lib.hid hv0
  clear hv0
  have HVK := Lib.hid hvk
  clear hvk
  have hb0 : Below w.heap.size w ((w.alloc (.cells #[.string h, .string t, .slice a n c] 30)).alloc (.cells #[.string key] 9)) := ((Below.refl _ _).alloc (Nat.le_refl _) _).alloc (by simp) _
  have d0 : ((w.alloc (.cells #[.string h, .string t, .slice a n c] 30)).alloc (.cells #[.string key] 9)).cell? ⟨w.heap.size, 0, none⟩ = some (.string h) := (((Below.refl _ _).alloc (Nat.le_refl _) _).cell (p := ⟨w.heap.size, 0, none⟩) (by show w.heap.size < _; simp)).trans (cell_new w _ _ 0 _ rfl)
  have d1 : ((w.alloc (.cells #[.string h, .string t, .slice a n c] 30)).alloc (.cells #[.string key] 9)).cell? ⟨w.heap.size, 1, none⟩ = some (.string t) := (((Below.refl _ _).alloc (Nat.le_refl _) _).cell (p := ⟨w.heap.size, 1, none⟩) (by show w.heap.size < _; simp)).trans (cell_new w _ _ 1 _ rfl)
  have d2 : ((w.alloc (.cells #[.string h, .string t, .slice a n c] 30)).alloc (.cells #[.string key] 9)).cell? ⟨w.heap.size, 2, none⟩ = some (.slice a n c) := (((Below.refl _ _).alloc (Nat.le_refl _) _).cell (p := ⟨w.heap.size, 2, none⟩) (by show w.heap.size < _; simp)).trans (cell_new w _ _ 2 _ rfl)
  have d3 := cell_new (w.alloc (.cells #[.string h, .string t, .slice a n c] 30)) #[.string key] 9 0 _ rfl
  rw [World.size_alloc] at d3
  have D0 := Lib.hid d0
  have D1 := Lib.hid d1
  have D2 := Lib.hid d2
  have D3 := Lib.hid d3
  have HB0 := Lib.hid hb0
  clear d0 d1 d2 d3 hb0
  go_enter Tryd.func8, Tryd.ntmps8
  go_wp2_with fail
  refine (vars_rules _).mono ?_
  rintro e w1 ⟨b, p1, p2, p3, rfl, hR, hb1⟩
  have e0 := ((bcell hb1).1 _ 0 (cell_lt D0.out)).trans D0.out
  have e1 := ((bcell hb1).1 _ 1 (cell_lt D1.out)).trans D1.out
  have e2 := ((bcell hb1).1 _ 2 (cell_lt D2.out)).trans D2.out
  have e3 := ((bcell hb1).1 _ 0 (cell_lt D3.out)).trans D3.out
  have l0 := cell_lt e0
  have l3 := cell_lt e3
  have hbw1 := HB0.out.trans (hb1.mono HB0.out.size)
  clear hb1 D0 D1 D2 D3 HB0
  have hl := look2_3 hR
  go_wp2_with fail
  refine (vars_Key key _ hkey).mono ?_
  rintro e w2 ⟨rfl, hb2⟩
  rw [HVK.out]
  have q := fun o => (bcell hb2).1 w1.heap.size o (by simp)
  have r1 := (q 1).trans (cell_new w1 _ _ 1 _ rfl)
  have r2 := (q 2).trans (cell_new w1 _ _ 2 _ rfl)
  have hb12 := below_alloc hb2
  replace e0 := ((bcell hb12).1 _ 0 l0).trans e0
  replace e1 := ((bcell hb12).1 _ 1 l0).trans e1
  replace e2 := ((bcell hb12).1 _ 2 l0).trans e2
  replace e3 := ((bcell hb12).1 _ 0 l3).trans e3
  have hbw2 := hbw1.trans (hb12.mono hbw1.size)
  clear q hb2 hb12
  go_wp2_with fail
  refine (vars_Get1_cookie h t key a n c w1.heap.size (w.heap.size + 1) w2 r2 e3 v (hcall _ (hbw2.alloc hbw2.size _))).mono ?_
  rintro e w3 ⟨rfl, hb3⟩
  have hbw3 := hbw2.trans (hb3.mono hbw2.size)
  obtain ⟨x, y⟩ := v
  rcases y with _ | _
  · have hx : x = [] := HV0.out rfl
    have HX := Lib.hid hx
    clear hx
    go_wp2
    go_ret2
    rw [HX.out]
    exact ⟨rfl, hbw3⟩
  · go_wp2
    go_ret2
    exact ⟨rfl, hbw3⟩

set_option maxRecDepth 100000 in
set_option maxHeartbeats 400000 in
theorem getb_3 (h t key : ByteArray) (a : Option Addr) (n c : Nat) (w : World) (hkey : key.size ≤ 140737488351232) (hvk : vkey key.data.toList = false) :
    Calls Tryd.prog 8 #[.agg #[.string h, .string t, .slice a n c], .string ⟨nCookie.toArray⟩, .string key, .bool true] w (Ret w (.tuple #[.string ⟨#[]⟩, .bool false])) := by
  have HVK := Lib.hid hvk
  clear hvk
  have hb0 : Below w.heap.size w ((w.alloc (.cells #[.string h, .string t, .slice a n c] 30)).alloc (.cells #[.string key] 9)) := ((Below.refl _ _).alloc (Nat.le_refl _) _).alloc (by simp) _
  have d0 : ((w.alloc (.cells #[.string h, .string t, .slice a n c] 30)).alloc (.cells #[.string key] 9)).cell? ⟨w.heap.size, 0, none⟩ = some (.string h) := (((Below.refl _ _).alloc (Nat.le_refl _) _).cell (p := ⟨w.heap.size, 0, none⟩) (by show w.heap.size < _; simp)).trans (cell_new w _ _ 0 _ rfl)
  have d1 : ((w.alloc (.cells #[.string h, .string t, .slice a n c] 30)).alloc (.cells #[.string key] 9)).cell? ⟨w.heap.size, 1, none⟩ = some (.string t) := (((Below.refl _ _).alloc (Nat.le_refl _) _).cell (p := ⟨w.heap.size, 1, none⟩) (by show w.heap.size < _; simp)).trans (cell_new w _ _ 1 _ rfl)
  have d2 : ((w.alloc (.cells #[.string h, .string t, .slice a n c] 30)).alloc (.cells #[.string key] 9)).cell? ⟨w.heap.size, 2, none⟩ = some (.slice a n c) := (((Below.refl _ _).alloc (Nat.le_refl _) _).cell (p := ⟨w.heap.size, 2, none⟩) (by show w.heap.size < _; simp)).trans (cell_new w _ _ 2 _ rfl)
  have d3 := cell_new (w.alloc (.cells #[.string h, .string t, .slice a n c] 30)) #[.string key] 9 0 _ rfl
  rw [World.size_alloc] at d3
  have D0 := Lib.hid d0
  have D1 := Lib.hid d1
  have D2 := Lib.hid d2
  have D3 := Lib.hid d3
  have HB0 := Lib.hid hb0
  clear d0 d1 d2 d3 hb0
  go_enter Tryd.func8, Tryd.ntmps8
  go_wp2_with fail
  refine (vars_rules _).mono ?_
  rintro e w1 ⟨b, p1, p2, p3, rfl, hR, hb1⟩
  have e0 := ((bcell hb1).1 _ 0 (cell_lt D0.out)).trans D0.out
  have e1 := ((bcell hb1).1 _ 1 (cell_lt D1.out)).trans D1.out
  have e2 := ((bcell hb1).1 _ 2 (cell_lt D2.out)).trans D2.out
  have e3 := ((bcell hb1).1 _ 0 (cell_lt D3.out)).trans D3.out
  have l0 := cell_lt e0
  have l3 := cell_lt e3
  have hbw1 := HB0.out.trans (hb1.mono HB0.out.size)
  clear hb1 D0 D1 D2 D3 HB0
  have hl := look2_3 hR
  go_wp2_with fail
  refine (vars_Key key _ hkey).mono ?_
  rintro e w2 ⟨rfl, hb2⟩
  rw [HVK.out]
  have q := fun o => (bcell hb2).1 w1.heap.size o (by simp)
  have r1 := (q 1).trans (cell_new w1 _ _ 1 _ rfl)
  have r2 := (q 2).trans (cell_new w1 _ _ 2 _ rfl)
  have hb12 := below_alloc hb2
  replace e0 := ((bcell hb12).1 _ 0 l0).trans e0
  replace e1 := ((bcell hb12).1 _ 1 l0).trans e1
  replace e2 := ((bcell hb12).1 _ 2 l0).trans e2
  replace e3 := ((bcell hb12).1 _ 0 l3).trans e3
  have hbw2 := hbw1.trans (hb12.mono hbw1.size)
  clear q hb2 hb12
  go_wp2
  go_ret2
  exact ⟨rfl, hbw2⟩

set_option maxRecDepth 100000 in
set_option maxHeartbeats 400000 in
theorem getw_4 (h t key : ByteArray) (a : Option Addr) (n c : Nat) (w : World) (v : Bs × Bool) (hv0 : v.2 = false → v.1 = []) 
    (hcall : ∀ W, Below w.heap.size w W → Calls Tryd.prog 30 #[.agg #[.string h, .string t, .slice a n c]] W (Ret W (.tuple #[.string ⟨v.1.toArray⟩, .bool v.2]))) :
    Calls Tryd.prog 8 #[.agg #[.string h, .string t, .slice a n c], .string ⟨nQuery.toArray⟩, .string key, .bool false] w (Ret w (.tuple #[.string ⟨v.1.toArray⟩, .bool v.2])) := by
  have HV0 := Lib.hid hv0
  clear hv0
  have hb0 : Below w.heap.size w ((w.alloc (.cells #[.string h, .string t, .slice a n c] 30)).alloc (.cells #[.string key] 9)) := ((Below.refl _ _).alloc (Nat.le_refl _) _).alloc (by simp) _
  have d0 : ((w.alloc (.cells #[.string h, .string t, .slice a n c] 30)).alloc (.cells #[.string key] 9)).cell? ⟨w.heap.size, 0, none⟩ = some (.string h) := (((Below.refl _ _).alloc (Nat.le_refl _) _).cell (p := ⟨w.heap.size, 0, none⟩) (by show w.heap.size < _; simp)).trans (cell_new w _ _ 0 _ rfl)
  have d1 : ((w.alloc (.cells #[.string h, .string t, .slice a n c] 30)).alloc (.cells #[.string key] 9)).cell? ⟨w.heap.size, 1, none⟩ = some (.string t) := (((Below.refl _ _).alloc (Nat.le_refl _) _).cell (p := ⟨w.heap.size, 1, none⟩) (by show w.heap.size < _; simp)).trans (cell_new w _ _ 1 _ rfl)
  have d2 : ((w.alloc (.cells #[.string h, .string t, .slice a n c] 30)).alloc (.cells #[.string key] 9)).cell? ⟨w.heap.size, 2, none⟩ = some (.slice a n c) := (((Below.refl _ _).alloc (Nat.le_refl _) _).cell (p := ⟨w.heap.size, 2, none⟩) (by show w.heap.size < _; simp)).trans (cell_new w _ _ 2 _ rfl)
  have d3 := cell_new (w.alloc (.cells #[.string h, .string t, .slice a n c] 30)) #[.string key] 9 0 _ rfl
  rw [World.size_alloc] at d3
  have D0 := Lib.hid d0
  have D1 := Lib.hid d1
  have D2 := Lib.hid d2
  have D3 := Lib.hid d3
  have HB0 := Lib.hid hb0
  clear d0 d1 d2 d3 hb0
  go_enter Tryd.func8, Tryd.ntmps8
  go_wp2_with fail
  refine (vars_rules _).mono ?_
  rintro e w1 ⟨b, p1, p2, p3, rfl, hR, hb1⟩
  have e0 := ((bcell hb1).1 _ 0 (cell_lt D0.out)).trans D0.out
  have e1 := ((bcell hb1).1 _ 1 (cell_lt D1.out)).trans D1.out
  have e2 := ((bcell hb1).1 _ 2 (cell_lt D2.out)).trans D2.out
  have e3 := ((bcell hb1).1 _ 0 (cell_lt D3.out)).trans D3.out
  have l0 := cell_lt e0
  have l3 := cell_lt e3
  have hbw1 := HB0.out.trans (hb1.mono HB0.out.size)
  clear hb1 D0 D1 D2 D3 HB0
  have hl := look2_4 hR
  go_wp2_with fail
  refine (hcall _ (hbw1.alloc hbw1.size _)).mono ?_
  rintro e w2 ⟨rfl, hb2⟩
  have hbw2 := hbw1.trans ((below_alloc hb2).mono hbw1.size)
  obtain ⟨x, y⟩ := v
  rcases y with _ | _
  · have hx : x = [] := HV0.out rfl
    have HX := Lib.hid hx
    clear hx
    go_wp2
    go_ret2
    rw [HX.out]
    exact ⟨rfl, hbw2⟩
  · go_wp2
    go_ret2
    exact ⟨rfl, hbw2⟩

set_option maxRecDepth 100000 in
set_option maxHeartbeats 400000 in
theorem getp_4 (h t key : ByteArray) (a : Option Addr) (n c : Nat) (w : World) (v : Bs × Bool) (hv0 : v.2 = false → v.1 = []) (hkey : key.size ≤ 140737488351232) (hvk : vkey key.data.toList = true) 
    (hcall : ∀ W, Below w.heap.size w W → Calls Tryd.prog 31 #[.agg #[.string h, .string t, .slice a n c], .string key] W (Ret W (.tuple #[.string ⟨v.1.toArray⟩, .bool v.2]))) :
    Calls Tryd.prog 8 #[.agg #[.string h, .string t, .slice a n c], .string ⟨nQuery.toArray⟩, .string key, .bool true] w (Ret w (.tuple #[.string ⟨v.1.toArray⟩, .bool v.2])) := by
  have HV0 := Lib.hid hv0
  clear hv0
  have HVK := Lib.hid hvk
  clear hvk
  have hb0 : Below w.heap.size w ((w.alloc (.cells #[.string h, .string t, .slice a n c] 30)).alloc (.cells #[.string key] 9)) := ((Below.refl _ _).alloc (Nat.le_refl _) _).alloc (by simp) _
  have d0 : ((w.alloc (.cells #[.string h, .string t, .slice a n c] 30)).alloc (.cells #[.string key] 9)).cell? ⟨w.heap.size, 0, none⟩ = some (.string h) := (((Below.refl _ _).alloc (Nat.le_refl _) _).cell (p := ⟨w.heap.size, 0, none⟩) (by show w.heap.size < _; simp)).trans (cell_new w _ _ 0 _ rfl)
  have d1 : ((w.alloc (.cells #[.string h, .string t, .slice a n c] 30)).alloc (.cells #[.string key] 9)).cell? ⟨w.heap.size, 1, none⟩ = some (.string t) := (((Below.refl _ _).alloc (Nat.le_refl _) _).cell (p := ⟨w.heap.size, 1, none⟩) (by show w.heap.size < _; simp)).trans (cell_new w _ _ 1 _ rfl)
  have d2 : ((w.alloc (.cells #[.string h, .string t, .slice a n c] 30)).alloc (.cells #[.string key] 9)).cell? ⟨w.heap.size, 2, none⟩ = some (.slice a n c) := (((Below.refl _ _).alloc (Nat.le_refl _) _).cell (p := ⟨w.heap.size, 2, none⟩) (by show w.heap.size < _; simp)).trans (cell_new w _ _ 2 _ rfl)
  have d3 := cell_new (w.alloc (.cells #[.string h, .string t, .slice a n c] 30)) #[.string key] 9 0 _ rfl
  rw [World.size_alloc] at d3
  have D0 := Lib.hid d0
  have D1 := Lib.hid d1
  have D2 := Lib.hid d2
  have D3 := Lib.hid d3
  have HB0 := Lib.hid hb0
  clear d0 d1 d2 d3 hb0
  go_enter Tryd.func8, Tryd.ntmps8
  go_wp2_with fail
  refine (vars_rules _).mono ?_
  rintro e w1 ⟨b, p1, p2, p3, rfl, hR, hb1⟩
  have e0 := ((bcell hb1).1 _ 0 (cell_lt D0.out)).trans D0.out
  have e1 := ((bcell hb1).1 _ 1 (cell_lt D1.out)).trans D1.out
  have e2 := ((bcell hb1).1 _ 2 (cell_lt D2.out)).trans D2.out
  have e3 := ((bcell hb1).1 _ 0 (cell_lt D3.out)).trans D3.out
  have l0 := cell_lt e0
  have l3 := cell_lt e3
  have hbw1 := HB0.out.trans (hb1.mono HB0.out.size)
  clear hb1 D0 D1 D2 D3 HB0
  have hl := look2_4 hR
  go_wp2_with fail
  refine (vars_Key key _ hkey).mono ?_
  rintro e w2 ⟨rfl, hb2⟩
  rw [HVK.out]
  have q := fun o => (bcell hb2).1 w1.heap.size o (by simp)
  have r1 := (q 1).trans (cell_new w1 _ _ 1 _ rfl)
  have r2 := (q 2).trans (cell_new w1 _ _ 2 _ rfl)
  have hb12 := below_alloc hb2
  replace e0 := ((bcell hb12).1 _ 0 l0).trans e0
  replace e1 := ((bcell hb12).1 _ 1 l0).trans e1
  replace e2 := ((bcell hb12).1 _ 2 l0).trans e2
  replace e3 := ((bcell hb12).1 _ 0 l3).trans e3
  have hbw2 := hbw1.trans (hb12.mono hbw1.size)
  clear q hb2 hb12
  go_wp2_with fail
  refine (vars_Get1_asked h t key a n c w1.heap.size (w.heap.size + 1) w2 r2 e3 v (hcall _ (hbw2.alloc hbw2.size _))).mono ?_
  rintro e w3 ⟨rfl, hb3⟩
  have hbw3 := hbw2.trans (hb3.mono hbw2.size)
  obtain ⟨x, y⟩ := v
  rcases y with _ | _
  · have hx : x = [] := HV0.out rfl
    have HX := Lib.hid hx
    clear hx
    go_wp2
    go_ret2
    rw [HX.out]
    exact ⟨rfl, hbw3⟩
  · go_wp2
    go_ret2
    exact ⟨rfl, hbw3⟩

set_option maxRecDepth 100000 in
set_option maxHeartbeats 400000 in
theorem getb_4 (h t key : ByteArray) (a : Option Addr) (n c : Nat) (w : World) (hkey : key.size ≤ 140737488351232) (hvk : vkey key.data.toList = false) :
    Calls Tryd.prog 8 #[.agg #[.string h, .string t, .slice a n c], .string ⟨nQuery.toArray⟩, .string key, .bool true] w (Ret w (.tuple #[.string ⟨#[]⟩, .bool false])) := by
  have HVK := Lib.hid hvk
  clear hvk
  have hb0 : Below w.heap.size w ((w.alloc (.cells #[.string h, .string t, .slice a n c] 30)).alloc (.cells #[.string key] 9)) := ((Below.refl _ _).alloc (Nat.le_refl _) _).alloc (by simp) _
  have d0 : ((w.alloc (.cells #[.string h, .string t, .slice a n c] 30)).alloc (.cells #[.string key] 9)).cell? ⟨w.heap.size, 0, none⟩ = some (.string h) := (((Below.refl _ _).alloc (Nat.le_refl _) _).cell (p := ⟨w.heap.size, 0, none⟩) (by show w.heap.size < _; simp)).trans (cell_new w _ _ 0 _ rfl)
  have d1 : ((w.alloc (.cells #[.string h, .string t, .slice a n c] 30)).alloc (.cells #[.string key] 9)).cell? ⟨w.heap.size, 1, none⟩ = some (.string t) := (((Below.refl _ _).alloc (Nat.le_refl _) _).cell (p := ⟨w.heap.size, 1, none⟩) (by show w.heap.size < _; simp)).trans (cell_new w _ _ 1 _ rfl)
  have d2 : ((w.alloc (.cells #[.string h, .string t, .slice a n c] 30)).alloc (.cells #[.string key] 9)).cell? ⟨w.heap.size, 2, none⟩ = some (.slice a n c) := (((Below.refl _ _).alloc (Nat.le_refl _) _).cell (p := ⟨w.heap.size, 2, none⟩) (by show w.heap.size < _; simp)).trans (cell_new w _ _ 2 _ rfl)
  have d3 := cell_new (w.alloc (.cells #[.string h, .string t, .slice a n c] 30)) #[.string key] 9 0 _ rfl
  rw [World.size_alloc] at d3
  have D0 := Lib.hid d0
  have D1 := Lib.hid d1
  have D2 := Lib.hid d2
  have D3 := Lib.hid d3
  have HB0 := Lib.hid hb0
  clear d0 d1 d2 d3 hb0
  go_enter Tryd.func8, Tryd.ntmps8
  go_wp2_with fail
  refine (vars_rules _).mono ?_
  rintro e w1 ⟨b, p1, p2, p3, rfl, hR, hb1⟩
  have e0 := ((bcell hb1).1 _ 0 (cell_lt D0.out)).trans D0.out
  have e1 := ((bcell hb1).1 _ 1 (cell_lt D1.out)).trans D1.out
  have e2 := ((bcell hb1).1 _ 2 (cell_lt D2.out)).trans D2.out
  have e3 := ((bcell hb1).1 _ 0 (cell_lt D3.out)).trans D3.out
  have l0 := cell_lt e0
  have l3 := cell_lt e3
  have hbw1 := HB0.out.trans (hb1.mono HB0.out.size)
  clear hb1 D0 D1 D2 D3 HB0
  have hl := look2_4 hR
  go_wp2_with fail
  refine (vars_Key key _ hkey).mono ?_
  rintro e w2 ⟨rfl, hb2⟩
  rw [HVK.out]
  have q := fun o => (bcell hb2).1 w1.heap.size o (by simp)
  have r1 := (q 1).trans (cell_new w1 _ _ 1 _ rfl)
  have r2 := (q 2).trans (cell_new w1 _ _ 2 _ rfl)
  have hb12 := below_alloc hb2
  replace e0 := ((bcell hb12).1 _ 0 l0).trans e0
  replace e1 := ((bcell hb12).1 _ 1 l0).trans e1
  replace e2 := ((bcell hb12).1 _ 2 l0).trans e2
  replace e3 := ((bcell hb12).1 _ 0 l3).trans e3
  have hbw2 := hbw1.trans (hb12.mono hbw1.size)
  clear q hb2 hb12
  go_wp2
  go_ret2
  exact ⟨rfl, hbw2⟩

set_option maxRecDepth 100000 in
set_option maxHeartbeats 400000 in
theorem getw_5 (h t key : ByteArray) (a : Option Addr) (n c : Nat) (w : World) (v : Bs × Bool) (hv0 : v.2 = false → v.1 = []) 
    (hcall : ∀ W p, Below w.heap.size w W → W.cell? ⟨p, 0, none⟩ = some (.string ⟨langName.toArray⟩) → Calls Tryd.prog 39 #[.agg #[.string h, .string t, .slice a n c], .pointer (some ⟨p, 0, none⟩)] W (Ret W (.tuple #[.string ⟨v.1.toArray⟩, .bool v.2]))) :
    Calls Tryd.prog 8 #[.agg #[.string h, .string t, .slice a n c], .string ⟨nLang.toArray⟩, .string key, .bool false] w (Ret w (.tuple #[.string ⟨v.1.toArray⟩, .bool v.2])) := by
  have HV0 := Lib.hid hv0
  clear hv0
  have hb0 : Below w.heap.size w ((w.alloc (.cells #[.string h, .string t, .slice a n c] 30)).alloc (.cells #[.string key] 9)) := ((Below.refl _ _).alloc (Nat.le_refl _) _).alloc (by simp) _
  have d0 : ((w.alloc (.cells #[.string h, .string t, .slice a n c] 30)).alloc (.cells #[.string key] 9)).cell? ⟨w.heap.size, 0, none⟩ = some (.string h) := (((Below.refl _ _).alloc (Nat.le_refl _) _).cell (p := ⟨w.heap.size, 0, none⟩) (by show w.heap.size < _; simp)).trans (cell_new w _ _ 0 _ rfl)
  have d1 : ((w.alloc (.cells #[.string h, .string t, .slice a n c] 30)).alloc (.cells #[.string key] 9)).cell? ⟨w.heap.size, 1, none⟩ = some (.string t) := (((Below.refl _ _).alloc (Nat.le_refl _) _).cell (p := ⟨w.heap.size, 1, none⟩) (by show w.heap.size < _; simp)).trans (cell_new w _ _ 1 _ rfl)
  have d2 : ((w.alloc (.cells #[.string h, .string t, .slice a n c] 30)).alloc (.cells #[.string key] 9)).cell? ⟨w.heap.size, 2, none⟩ = some (.slice a n c) := (((Below.refl _ _).alloc (Nat.le_refl _) _).cell (p := ⟨w.heap.size, 2, none⟩) (by show w.heap.size < _; simp)).trans (cell_new w _ _ 2 _ rfl)
  have d3 := cell_new (w.alloc (.cells #[.string h, .string t, .slice a n c] 30)) #[.string key] 9 0 _ rfl
  rw [World.size_alloc] at d3
  have D0 := Lib.hid d0
  have D1 := Lib.hid d1
  have D2 := Lib.hid d2
  have D3 := Lib.hid d3
  have HB0 := Lib.hid hb0
  clear d0 d1 d2 d3 hb0
  go_enter Tryd.func8, Tryd.ntmps8
  go_wp2_with fail
  refine (vars_rules _).mono ?_
  rintro e w1 ⟨b, p1, p2, p3, rfl, hR, hb1⟩
  have e0 := ((bcell hb1).1 _ 0 (cell_lt D0.out)).trans D0.out
  have e1 := ((bcell hb1).1 _ 1 (cell_lt D1.out)).trans D1.out
  have e2 := ((bcell hb1).1 _ 2 (cell_lt D2.out)).trans D2.out
  have e3 := ((bcell hb1).1 _ 0 (cell_lt D3.out)).trans D3.out
  have l0 := cell_lt e0
  have l3 := cell_lt e3
  have hbw1 := HB0.out.trans (hb1.mono HB0.out.size)
  clear hb1 D0 D1 D2 D3 HB0
  have hl := look2_5 hR
  go_wp2_with fail
  refine (hcall _ p3 (hbw1.alloc hbw1.size _) (hR.next ((Below.refl _ _).alloc (Nat.le_refl _) _)).c3).mono ?_
  rintro e w2 ⟨rfl, hb2⟩
  have hbw2 := hbw1.trans ((below_alloc hb2).mono hbw1.size)
  obtain ⟨x, y⟩ := v
  rcases y with _ | _
  · have hx : x = [] := HV0.out rfl
    have HX := Lib.hid hx
    clear hx
    go_wp2
    go_ret2
    rw [HX.out]
    exact ⟨rfl, hbw2⟩
  · go_wp2
    go_ret2
    exact ⟨rfl, hbw2⟩

set_option maxRecDepth 100000 in
set_option maxHeartbeats 400000 in
theorem getp_5 (h t key : ByteArray) (a : Option Addr) (n c : Nat) (w : World) (v : Bs × Bool) (hv0 : v.2 = false → v.1 = []) (hkey : key.size ≤ 140737488351232) (hvk : vkey key.data.toList = true) 
    (hcall : ∀ W, Below w.heap.size w W → Calls Tryd.prog 32 #[.agg #[.string h, .string t, .slice a n c], .string key] W (Ret W (.tuple #[.string ⟨v.1.toArray⟩, .bool v.2]))) :
    Calls Tryd.prog 8 #[.agg #[.string h, .string t, .slice a n c], .string ⟨nLang.toArray⟩, .string key, .bool true] w (Ret w (.tuple #[.string ⟨v.1.toArray⟩, .bool v.2])) := by
  have HV0 := Lib.hid hv0
  clear hv0
  have HVK := Lib.hid hvk
  clear hvk
  have hb0 : Below w.heap.size w ((w.alloc (.cells #[.string h, .string t, .slice a n c] 30)).alloc (.cells #[.string key] 9)) := ((Below.refl _ _).alloc (Nat.le_refl _) _).alloc (by simp) _
  have d0 : ((w.alloc (.cells #[.string h, .string t, .slice a n c] 30)).alloc (.cells #[.string key] 9)).cell? ⟨w.heap.size, 0, none⟩ = some (.string h) := (((Below.refl _ _).alloc (Nat.le_refl _) _).cell (p := ⟨w.heap.size, 0, none⟩) (by show w.heap.size < _; simp)).trans (cell_new w _ _ 0 _ rfl)
  have d1 : ((w.alloc (.cells #[.string h, .string t, .slice a n c] 30)).alloc (.cells #[.string key] 9)).cell? ⟨w.heap.size, 1, none⟩ = some (.string t) := (((Below.refl _ _).alloc (Nat.le_refl _) _).cell (p := ⟨w.heap.size, 1, none⟩) (by show w.heap.size < _; simp)).trans (cell_new w _ _ 1 _ rfl)
  have d2 : ((w.alloc (.cells #[.string h, .string t, .slice a n c] 30)).alloc (.cells #[.string key] 9)).cell? ⟨w.heap.size, 2, none⟩ = some (.slice a n c) := (((Below.refl _ _).alloc (Nat.le_refl _) _).cell (p := ⟨w.heap.size, 2, none⟩) (by show w.heap.size < _; simp)).trans (cell_new w _ _ 2 _ rfl)
  have d3 := cell_new (w.alloc (.cells #[.string h, .string t, .slice a n c] 30)) #[.string key] 9 0 _ rfl
  rw [World.size_alloc] at d3
  have D0 := Lib.hid d0
  have D1 := Lib.hid d1
  have D2 := Lib.hid d2
  have D3 := Lib.hid d3
  have HB0 := Lib.hid hb0
  clear d0 d1 d2 d3 hb0
  go_enter Tryd.func8, Tryd.ntmps8
  go_wp2_with fail
  refine (vars_rules _).mono ?_
  rintro e w1 ⟨b, p1, p2, p3, rfl, hR, hb1⟩
  have e0 := ((bcell hb1).1 _ 0 (cell_lt D0.out)).trans D0.out
  have e1 := ((bcell hb1).1 _ 1 (cell_lt D1.out)).trans D1.out
  have e2 := ((bcell hb1).1 _ 2 (cell_lt D2.out)).trans D2.out
  have e3 := ((bcell hb1).1 _ 0 (cell_lt D3.out)).trans D3.out
  have l0 := cell_lt e0
  have l3 := cell_lt e3
  have hbw1 := HB0.out.trans (hb1.mono HB0.out.size)
  clear hb1 D0 D1 D2 D3 HB0
  have hl := look2_5 hR
  go_wp2_with fail
  refine (vars_Key key _ hkey).mono ?_
  rintro e w2 ⟨rfl, hb2⟩
  rw [HVK.out]
  have q := fun o => (bcell hb2).1 w1.heap.size o (by simp)
  have r1 := (q 1).trans (cell_new w1 _ _ 1 _ rfl)
  have r2 := (q 2).trans (cell_new w1 _ _ 2 _ rfl)
  have hb12 := below_alloc hb2
  replace e0 := ((bcell hb12).1 _ 0 l0).trans e0
  replace e1 := ((bcell hb12).1 _ 1 l0).trans e1
  replace e2 := ((bcell hb12).1 _ 2 l0).trans e2
  replace e3 := ((bcell hb12).1 _ 0 l3).trans e3
  have hbw2 := hbw1.trans (hb12.mono hbw1.size)
  clear q hb2 hb12
  go_wp2_with fail
  refine (vars_Get1_language h t key a n c w1.heap.size (w.heap.size + 1) w2 r2 e3 v (hcall _ (hbw2.alloc hbw2.size _))).mono ?_
  rintro e w3 ⟨rfl, hb3⟩
  have hbw3 := hbw2.trans (hb3.mono hbw2.size)
  obtain ⟨x, y⟩ := v
  rcases y with _ | _
  · have hx : x = [] := HV0.out rfl
    have HX := Lib.hid hx
    clear hx
    go_wp2
    go_ret2
    rw [HX.out]
    exact ⟨rfl, hbw3⟩
  · go_wp2
    go_ret2
    exact ⟨rfl, hbw3⟩

set_option maxRecDepth 100000 in
set_option maxHeartbeats 400000 in
theorem getb_5 (h t key : ByteArray) (a : Option Addr) (n c : Nat) (w : World) (hkey : key.size ≤ 140737488351232) (hvk : vkey key.data.toList = false) :
    Calls Tryd.prog 8 #[.agg #[.string h, .string t, .slice a n c], .string ⟨nLang.toArray⟩, .string key, .bool true] w (Ret w (.tuple #[.string ⟨#[]⟩, .bool false])) := by
  have HVK := Lib.hid hvk
  clear hvk
  have hb0 : Below w.heap.size w ((w.alloc (.cells #[.string h, .string t, .slice a n c] 30)).alloc (.cells #[.string key] 9)) := ((Below.refl _ _).alloc (Nat.le_refl _) _).alloc (by simp) _
  have d0 : ((w.alloc (.cells #[.string h, .string t, .slice a n c] 30)).alloc (.cells #[.string key] 9)).cell? ⟨w.heap.size, 0, none⟩ = some (.string h) := (((Below.refl _ _).alloc (Nat.le_refl _) _).cell (p := ⟨w.heap.size, 0, none⟩) (by show w.heap.size < _; simp)).trans (cell_new w _ _ 0 _ rfl)
  have d1 : ((w.alloc (.cells #[.string h, .string t, .slice a n c] 30)).alloc (.cells #[.string key] 9)).cell? ⟨w.heap.size, 1, none⟩ = some (.string t) := (((Below.refl _ _).alloc (Nat.le_refl _) _).cell (p := ⟨w.heap.size, 1, none⟩) (by show w.heap.size < _; simp)).trans (cell_new w _ _ 1 _ rfl)
  have d2 : ((w.alloc (.cells #[.string h, .string t, .slice a n c] 30)).alloc (.cells #[.string key] 9)).cell? ⟨w.heap.size, 2, none⟩ = some (.slice a n c) := (((Below.refl _ _).alloc (Nat.le_refl _) _).cell (p := ⟨w.heap.size, 2, none⟩) (by show w.heap.size < _; simp)).trans (cell_new w _ _ 2 _ rfl)
  have d3 := cell_new (w.alloc (.cells #[.string h, .string t, .slice a n c] 30)) #[.string key] 9 0 _ rfl
  rw [World.size_alloc] at d3
  have D0 := Lib.hid d0
  have D1 := Lib.hid d1
  have D2 := Lib.hid d2
  have D3 := Lib.hid d3
  have HB0 := Lib.hid hb0
  clear d0 d1 d2 d3 hb0
  go_enter Tryd.func8, Tryd.ntmps8
  go_wp2_with fail
  refine (vars_rules _).mono ?_
  rintro e w1 ⟨b, p1, p2, p3, rfl, hR, hb1⟩
  have e0 := ((bcell hb1).1 _ 0 (cell_lt D0.out)).trans D0.out
  have e1 := ((bcell hb1).1 _ 1 (cell_lt D1.out)).trans D1.out
  have e2 := ((bcell hb1).1 _ 2 (cell_lt D2.out)).trans D2.out
  have e3 := ((bcell hb1).1 _ 0 (cell_lt D3.out)).trans D3.out
  have l0 := cell_lt e0
  have l3 := cell_lt e3
  have hbw1 := HB0.out.trans (hb1.mono HB0.out.size)
  clear hb1 D0 D1 D2 D3 HB0
  have hl := look2_5 hR
  go_wp2_with fail
  refine (vars_Key key _ hkey).mono ?_
  rintro e w2 ⟨rfl, hb2⟩
  rw [HVK.out]
  have q := fun o => (bcell hb2).1 w1.heap.size o (by simp)
  have r1 := (q 1).trans (cell_new w1 _ _ 1 _ rfl)
  have r2 := (q 2).trans (cell_new w1 _ _ 2 _ rfl)
  have hb12 := below_alloc hb2
  replace e0 := ((bcell hb12).1 _ 0 l0).trans e0
  replace e1 := ((bcell hb12).1 _ 1 l0).trans e1
  replace e2 := ((bcell hb12).1 _ 2 l0).trans e2
  replace e3 := ((bcell hb12).1 _ 0 l3).trans e3
  have hbw2 := hbw1.trans (hb12.mono hbw1.size)
  clear q hb2 hb12
  go_wp2
  go_ret2
  exact ⟨rfl, hbw2⟩

end Go.Proofs.YtoipnaoijccokaaDoor
