/- What every row of this seat leans on. -/
import Derived.Test.YtmkpejioinkceaaGreatDoorRows
import Derived.Test.YtmkpejioinkceaaGreatDoorTie
import Derived.Test.YtmkpejioinkceaaGreatDoorCards
import Derived.Test.YtmkpejioinkceaaGreatDoorOpen0
import Derived.Test.YtmkpejioinkceaaGreatDoorUriPut
import Derived.Lay
import Derived.LaidMore
import Derived.Lib.LaidTab
import Derived.Stop.LaidErr
import Derived.Deep.DeepHandedRow
import Derived.Shelf.Vars
import Derived.SevenTiedAt
namespace Go.Proofs.YtmkpejioinkceaaGreatDoor
open Go.RowKit Go.ChangeShapes Go.WideShapes Go.ChangeAt
set_option linter.unusedVariables false

theorem own : ownKnob Tryz.prog.godebug = none := by kernel_rfl
theorem laidOut : laidOutB Tryz.prog = true := by kernel_rfl

set_option maxRecDepth 100000 in
theorem good_of_shaped {W : World} (h : W.ShapedOpen Tryz.prog) : Good W :=
  cell_of_shapedOpen_int (P := Tryz.prog) (g := 0) (t := 3) (zero := #[.int .i64 0]) h (of_decide_eq_true (by kernel_rfl)) (by kernel_rfl) rfl (by kernel_rfl) (by kernel_rfl) u3

/-- 'There is an input that fits', the world's shape by pairs. -/
theorem witness_zip {H : Type} {enc : TypeId × Value → H} {C : Checked} {os : Os} {f : FuncId} {fn : Func} {s : OpenSpec} {conds : List PathCond} {apart : Bool} {laid : List (String × DataW Unit)} (w0 : World) (args : Array Value) (hos : w0.os = os)
    (hsh : (w0.forCall (fun _ _ => 0) ⟨#[], args, []⟩).Shaped C.prog)
    (hok : Input.okWideB C.prog (w0.forCall (fun _ _ => 0) ⟨#[], args, []⟩) f ⟨#[], args, []⟩ = true)
    (hrow : s.preRow enc C.prog fn conds apart laid (w0.forCall (fun _ _ => 0) ⟨#[], args, []⟩).memory args) :
    ∃ (w : World) (tape : Tape) (i : Input), w.os = os ∧ (w.forCall tape i).Shaped C.prog ∧ i.vars = [] ∧ Input.okWide C.prog (w.forCall tape i) .any w.heap.size f i ∧
      s.preRow enc C.prog fn conds apart laid (w.forCall tape i).memory i.args ∧ ({} : Assume).holds C.prog (lone (Frame.enter C.prog f i.args .normal) [] (w.forCall tape i)) :=
  ⟨w0, fun _ _ => 0, ⟨#[], args, []⟩, hos, hsh, (Input.okWide_of_okWideB (base := 0) hok).1, (Input.okWide_of_okWideB hok).2, hrow, by
    simp only [Assume.holds]
    exact ⟨by simp, by simp, by simp, by simp, by simp⟩⟩

abbrev laidAll2 : List (String × DataW Unit) := Rows.keyOfRow.laid
theorem laid_met (os : Os) (args : Array Value) : laidMetH Tryz.prog laidAll2 ((World.laidAll Tryz.prog os laidAll2).forCall (fun _ _ => 0) ⟨#[], args, []⟩).memory := by
  rw [MakeChecks.laidMetH_plain _ _ _ (by kernel_rfl)]
  exact laidMet_laidAll _ (by kernel_rfl) (by kernel_rfl)
theorem laid_shaped (os : Os) (args : Array Value) : ((World.laidAll Tryz.prog os laidAll2).forCall (fun _ _ => 0) ⟨#[], args, []⟩).Shaped Tryz.prog :=
  World.shaped_of_ZipB (by kernel_rfl) (by kernel_rfl)

/-! What the library's variables hold, from the row's premise. -/
theorem g_pow_ty : (Tryz.prog.globals[5]?).map (·.type) = some 148 := by kernel_rfl
theorem g_syn_ty : (Tryz.prog.globals[1]?).map (·.type) = some 65 := by kernel_rfl
theorem g_rng_ty : (Tryz.prog.globals[2]?).map (·.type) = some 65 := by kernel_rfl
theorem es_star : "*" ++ "errors.errorString" = "*errors.errorString" := by decide
theorem es_row (u : TypeId) (h : Tryz.prog.typeName? 3 u = some "*errors.errorString") : u = 144 :=
  typeName_ptr_named (nm := "errors.errorString") (by rw [es_star]; kernel_rfl) (by kernel_rfl) (by decide) u (by rw [es_star]; exact h)
theorem sf_es : sfields (Tryz.prog.underlying 146) = some [(0, 9)] := by kernel_rfl
theorem sf_one {d : Option TypeDesc} {o : Nat} {ty : TypeId} (h : sfields d = some [(o, ty)]) : ∃ f, d = some (.struct #[f]) ∧ f.type = ty ∧ f.offset = o := by
  obtain ⟨⟨fs⟩, hu, hm⟩ := sfields_some h
  match fs, hm, hu with
  | [f], hm, hu =>
    simp only [List.map_cons, List.map_nil, List.cons.injEq, Prod.mk.injEq, and_true] at hm
    exact ⟨f, hu, hm.2, hm.1⟩
theorem es_struct : ∃ f, Tryz.prog.underlying 146 = some (.struct #[f]) ∧ f.type = 9 ∧ f.offset = 0 := sf_one sf_es
def isFace : Option TypeDesc → Bool
  | some (.interface _) => true
  | _ => false
theorem isFace_some {d : Option TypeDesc} (h : isFace d = true) : ∃ ms, d = some (.interface ms) := by
  cases d with
  | none => cases h
  | some d => cases d <;> first | (cases h; done) | exact ⟨_, rfl⟩
theorem err_iface : ∃ ms, Tryz.prog.underlying 65 = some (.interface ms) := isFace_some (by kernel_rfl)
theorem gx_of_laid {W : World} (hs : W.ShapedOpen Tryz.prog) (h : laidMet Tryz.prog laidAll2 W) : GX W := by
  obtain ⟨f, hu, hf, ho⟩ := es_struct
  obtain ⟨ms, hi⟩ := err_iface
  have h2 := h.tail.tail
  have h4 := h2.tail.tail
  obtain ⟨a0, s0, hv0, -, -, -⟩ := laid_sentinel h4 g_rng g_rng_ty hi es_row (te := 146) (by kernel_rfl) hu hf ho u9 (by kernel_rfl) n_str
  obtain ⟨a1, s1, hv1, -, -, -⟩ := laid_sentinel h4.tail g_syn g_syn_ty hi es_row (te := 146) (by kernel_rfl) hu hf ho u9 (by kernel_rfl) n_str
  exact ⟨good_of_shaped hs, Lib.tabIs_of_head g_pow g_pow_ty (n := 20) (e := 94) (by kernel_rfl) (by kernel_rfl) (by kernel_rfl) (by kernel_rfl) h2, ⟨_, _, hv1⟩, ⟨_, _, hv0⟩⟩
theorem gx_of_laidH {W : World} (hs : W.ShapedOpen Tryz.prog) (h : laidMetH Tryz.prog laidAll2 W) : GX W := gx_of_laid hs (by rw [MakeChecks.laidMetH_plain _ _ _ (by kernel_rfl)] at h; exact h)
end Go.Proofs.YtmkpejioinkceaaGreatDoor
