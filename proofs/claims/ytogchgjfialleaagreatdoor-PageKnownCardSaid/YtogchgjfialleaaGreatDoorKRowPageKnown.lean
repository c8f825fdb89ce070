/- The row of PageKnown, and its card. -/
import Derived.Test.YtogchgjfialleaaGreatDoorKbw
set_option linter.unusedVariables false
set_option maxRecDepth 100000
namespace Go.Proofs.YtogchgjfialleaaGreatDoor.pageKnown
open Go.RowKit Go.ChangeShapes Go.WideShapes Go.ChangeAt
theorem lifted(os:Os)(x:os.Started)(H:Type)(enc:TypeId×Value→H)(F:Stop.Interp):
 ReturnsInHanded {} Tryz.checked os 3 .any ((OpenSpec.ofChange Rows.pageKnownSpec).preRow enc Tryz.prog Tryz.f3 Rows.pageKnownRow.domain false Rows.pageKnownRow.laid)
  (((OpenSpec.ofChange Rows.pageKnownSpec).at F).post enc Tryz.prog Tryz.f3 false true false false):=by
 refine returnsInHanded_of_row (C:=Tryz.checked) (s:=OpenSpec.ofChange Rows.pageKnownSpec) own x (by kernel_rfl) Tryz.func3
  (EE (enc:=enc) (C:=Tryz.checked) (World.laidAll Tryz.prog os lj) #[]
   (World.laidAll_os _ _ _) (EF os _) (by kernel_rfl)
   (OpenSpec.preRow_of_B rfl 8 (by kernel_rfl) (by kernel_rfl) (O0 os _))) ?_
 intro W base args a gs before i c _ _ d k r _;have u:(DataW.weightsEach Tryz.prog (Tryz.f3.params.toList++(OpenSpec.ofChange Rows.pageKnownSpec).bare.plain.varTypes Tryz.prog) (a++gs)).all (·≤reachBytes)=true:=d;clear d;have w:∀(j:Nat) t v,Tryz.f3.params[j]? =some t→args[j]? =some v→Value.okWide Tryz.prog W .any base t v:=i;have m:=c;obtain⟨p,q,hA0,l,rfl,y,z⟩:=c;have b:DataW.TrodAll enc Tryz.prog W 0 (fun _=>true) true Tryz.f3.params.toList args.toList a p:=hA0;rw[Tryz.params3] at b w u;obtain⟨rfl,rfl,rfl⟩:=trodAll_none b;obtain⟨rfl,rfl⟩:=trodVars_none l;have o:=EH r k;clear hA0 i;refine(D0 W o).mono fun e W' ⟨n,JV⟩=> ?_;subst n;exact⟨_,rfl,_,_,_,[],_,[],m,trodAll_mk1 (shut_bool u4 _),rfl,rfl,JV.frame _,fun h=>by cases h⟩
theorem over:Rows.pageKnownRow.holds Tryz.pinned (OpenSpec.ofChange Rows.pageKnownSpec):=
 OpenClaim.holds_of_cond 3 Tryz.f3 rfl rfl rfl rfl rfl rfl rfl ⟨rfl,rfl,rfl,rfl,rfl⟩ rfl rfl rfl rfl rfl (by kernel_rfl) Tryz.func3 (by kernel_rfl)
  (dv (by kernel_rfl)) (by unfold Func.isWrapper;first|(rw[ah (by decide+kernel)];kernel_rfl)|(rw[ae (by decide+kernel)];exact⟨rfl,rfl⟩))
  (fun os b H enc _ a=>by rw[OpenClaim.pre_eq_preRow];exact lifted os b H enc a)
theorem proved:Rows.PageKnownCardSaid:=
 Claim7.holds_tied_plain_at .later [] [.data,.data,.data,.data,.sentinel,.sentinel,.listed,.data,.pinned,.pinned] true (true, "d95e0cf1943e8ef335677187b663366315e478da5794c94175298bdd881cf8ba") true
  over (fun _ h=>by cases h) (by kernel_rfl) (fun _ h=>by cases h) pageKnown_row_tie rfl ⟨rfl,rfl⟩ (by kernel_rfl) rfl
  (fun f fn b c=>by obtain rfl:f=3:=iS ((show Tryz.prog.funcNamed "inlay/inlaylaw29.PageKnown" =some 3 by kernel_rfl).symm.trans b)|>.symm;obtain rfl:fn=Tryz.f3:=(iS (Tryz.func3.symm.trans c)).symm;exact⟨by kernel_rfl,fun j t a=>by rw[Tryz.params3] at a;simp at a⟩)
  (by kernel_rfl)
#printaxioms proved
