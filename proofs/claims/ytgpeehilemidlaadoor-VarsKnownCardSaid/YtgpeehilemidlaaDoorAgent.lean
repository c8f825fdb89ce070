/- The law's agent: what is told of an agent. -/
import Derived.Test.YtgpeehilemidlaaDoorSome
namespace Go.Proofs.YtgpeehilemidlaaDoor
open Go.RowKit
set_option linter.unusedVariables false

def uaF (text : Bs) : List Fld := [([117, 115, 101, 114, 45, 97, 103, 101, 110, 116], text)]
theorem ua_lim {text : Bs} (h : text.length ≤ 90000) : Lim (uaF text) := ⟨by show (1 : Nat) ≤ 1000; omega, fun f hf => by
  obtain rfl := List.mem_singleton.1 hf
  show 10 + text.length ≤ 100000
  omega⟩

set_option maxRecDepth 100000 in
theorem law_agent (text key : ByteArray) (w : World) (hg : Good w) (ht : text.size ≤ 90000) (hkey : key.size ≤ 100000) :
    Calls Tryd.prog 37 #[.string text, .string key] w (Ret w (.string ⟨(mark (vget [] [] (uaF text.data.toList) nAgent key.data.toList true)).toArray⟩)) := by
  obtain ⟨v, hv⟩ : ∃ v, vget [] [] (uaF text.data.toList) nAgent key.data.toList true = v := ⟨_, rfl⟩
  have HV := Lib.hid hv
  have HN := Lib.hid (vget_no (h := []) (t := []) (fs := uaF text.data.toList) (name := nAgent) (key := key.data.toList) (has := true))
  have n1 : (w.alloc (.cells #[.string ⟨#[117, 115, 101, 114, 45, 97, 103, 101, 110, 116]⟩, .string text] 39)).heap[w.heap.size]? = _ := heap_alloc_new w _
  have HF := Lib.hid (fields_row (uaF text.data.toList) n1 rfl)
  have hlim := ua_lim (text := text.data.toList) (by rw [bs_size]; exact ht)
  have hb1 : Below w.heap.size w (w.alloc (.cells #[.string ⟨#[117, 115, 101, 114, 45, 97, 103, 101, 110, 116]⟩, .string text] 39)) := (Below.refl _ _).alloc (Nat.le_refl _) _
  clear n1
  go_enter Tryd.func37, Tryd.ntmps37
  go_wp2_with fail
  refine (vars_Of ⟨#[]⟩ ⟨#[]⟩ ⟨#[]⟩ ⟨#[]⟩ 0 _ _ _ (uaF text.data.toList) _ HF.out (by show (1 : Nat) ≤ 1000; omega)).mono ?_
  rintro e w2 ⟨a', c', rfl, hown, hb2⟩
  have hb12 := hb1.trans (hb2.mono hb1.size)
  clear hb1 hb2 HF
  go_wp2_with fail
  refine (vars_Get ⟨#[]⟩ ⟨#[]⟩ ⟨#[72, 84, 84, 80, 95, 85, 83, 69, 82, 95, 65, 71, 69, 78, 84]⟩ key a' (uaF text.data.toList).length c' (uaF text.data.toList) true w2 (hg.next hb12) hown.at hlim (by decide) hkey).mono ?_
  rintro e w3 ⟨rfl, hb3⟩
  have hb13 := hb12.trans (hb3.mono hb12.size)
  have hat : vget (⟨#[]⟩ : ByteArray).data.toList (⟨#[]⟩ : ByteArray).data.toList (uaF text.data.toList) (⟨#[72, 84, 84, 80, 95, 85, 83, 69, 82, 95, 65, 71, 69, 78, 84]⟩ : ByteArray).data.toList key.data.toList true = v := hv
  rw [hat]
  clear hat hv
  obtain ⟨x, y⟩ := v
  rcases y with _ | _
  · have hx : x = [] := by have := HN.out; rw [HV.out] at this; exact this rfl
    subst hx
    go_wp2
    go_ret
    rw [HV.out]
    exact ⟨rfl, hb13⟩
  · go_wp2
    go_ret
    rw [HV.out]
    exact ⟨rfl, hb13⟩
end Go.Proofs.YtgpeehilemidlaaDoor
