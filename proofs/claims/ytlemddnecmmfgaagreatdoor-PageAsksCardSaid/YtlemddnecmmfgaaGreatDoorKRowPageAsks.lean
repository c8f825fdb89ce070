/- The row of PageAsks, and its card. -/
import Derived.Test.YtlemddnecmmfgaaGreatDoorKbm
set_option linter.unusedVariables false
set_option maxHeartbeats 1000000000
namespace Go.Proofs.YtlemddnecmmfgaaGreatDoor.pageAsks
open Go.RowKit Go.ChangeShapes Go.WideShapes Go.ChangeAt
theorem aah{a b:Bool}(h:a=true)(c:b=true):(a&&b)=true:=by rw[h,c];rfl
theorem closed:joinedFacts Tryz.pinned.checked.prog 3 Tryz.f3 (OpenSpec.ofChange Rows.pageAsksSpec).bare Rows.pageAsksRow=true:=by
 unfold joinedFacts
 repeat' (with_reducible refine aah ?_ ?_)
 all_goals as_aux_lemma=>kernel_rfl
theorem over:Rows.pageAsksRow.holds Tryz.pinned (OpenSpec.ofChange Rows.pageAsksSpec):=
 OpenClaim.holds_of_cond 3 Tryz.f3 rfl rfl rfl rfl rfl rfl rfl ⟨rfl,rfl,rfl,rfl,rfl⟩ rfl rfl rfl rfl rfl (by kernel_rfl) Tryz.func3 closed
  (dv (by kernel_rfl)) (by unfold Func.isWrapper;first|(rw[ah (by decide+kernel)];kernel_rfl)|(rw[ae (by decide+kernel)];exact⟨rfl,rfl⟩))
  (fun os b H enc _ a=>by rw[OpenClaim.pre_eq_preRow];exact lifted os b H enc a)
theorem proved:Rows.PageAsksCardSaid:=
 Claim7.holds_tied_plain_at .later [] [.data,.data,.data,.data,.sentinel,.sentinel,.listed,.data,.pinned,.pinned] true (true, "062f705b4d39eb88ab69b9883bc91fc3116ff3c2718cef5c0e07475d607ffc96") true
  over (fun _ h=>by cases h) (by kernel_rfl) (fun _ h=>by cases h) pageAsks_row_tie rfl ⟨rfl,rfl⟩ (by kernel_rfl) rfl
  (fun f fn c d=>by
   obtain rfl:f=3:=iS ((show Tryz.prog.funcNamed "inlay/inlaylaw29.PageAsks" =some 3 by kernel_rfl).symm.t c)|>.symm;obtain rfl:fn=Tryz.f3:=(iS (Tryz.func3.symm.t d)).symm;exact⟨by kernel_rfl,fun j t a=>by
    rw[Tryz.params3] at a;have e:t∈[9,28,31]:=by simpa using Array.mem_of_getElem? a
    have b:([9,28,31].all fun u=> !Tryz.prog.wantsStandIn u)=true:=by kernel_rfl
    have:=eV.1 b t e;exact(show Tryz.prog.wantsStandIn t=false by simpa using this)⟩)
  (by kernel_rfl)
#print axioms proved
