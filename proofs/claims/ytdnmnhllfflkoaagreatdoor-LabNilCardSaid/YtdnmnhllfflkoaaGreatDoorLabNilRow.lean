/-
  LabNil returns true for every command, and the command reads as before: the tied card. (Conditions: the row's own.)
-/
import Derived.Test.YtdnmnhllfflkoaaGreatDoorLna
import Derived.Test.YtdnmnhllfflkoaaGreatDoorLnb
import Derived.Test.YtdnmnhllfflkoaaGreatDoorLnc
import Derived.Test.YtdnmnhllfflkoaaGreatDoorLne
import Derived.Test.YtdnmnhllfflkoaaGreatDoorCtx
import Derived.Test.YtdnmnhllfflkoaaGreatDoorLabNilFacts
import Derived.Test.YtdnmnhllfflkoaaGreatDoorCards
import Derived.Test.YtdnmnhllfflkoaaGreatDoorTie
import Derived.SevenTiedAt
namespace Go.Am
open Go Go.Proofs
set_option maxRecDepth 100000
theorem lnenter : aenter CC 10 ([59].map (anyArg CC.P)) .normal = some ⟨10, mkT [(0, (.agg [.any, .any, .any, .any, .any, .any, .any, .any, .any, .any, .any, .any, .any, .any, .any, .any, .any, .any, .any, .any, .any, .any, .any, .any]))], 67, [.code (codeAt CC 10 [])], [], .run, .normal, none⟩ := by kernel_rfl
theorem lndone : doneM CC 10 lnm10 = true := by kernel_rfl
theorem lnall : Sim CC lnm0 lnm10 := ((((((((((piece_ok cxok lnp0).trans (piece_ok cxok lnp1)).trans (piece_ok cxok lnp2)).trans (piece_ok cxok lnp3)).trans (piece_ok cxok lnp4)).trans (piece_ok cxok lnp5)).trans (piece_ok cxok lnp6)).trans (piece_ok cxok lnp7)).trans (piece_ok cxok lnp8)).trans (piece_ok cxok lnp9))
end Go.Am

namespace Go.Am
open Go Go.Proofs Go.Proofs.YtdnmnhllfflkoaaGreatDoor Go.ChangeShapes Go.RowKit

noncomputable def nilArgs : Array Value := #[zv 59]

set_option maxRecDepth 1000000 in
theorem lifted_lnil (os : Os) (started : os.Started) (H : Type) (enc : TypeId × Value → H) (F : Stop.Interp) :
    ReturnsInHanded {} Proofs.Tryz.checked os 10 .any ((OpenSpec.ofChange Rows.labNilSpec).preRow enc Proofs.Tryz.prog Proofs.Tryz.f10 Rows.labNilRow.domain false Rows.labNilRow.laid) (((OpenSpec.ofChange Rows.labNilSpec).at F).post enc Proofs.Tryz.prog Proofs.Tryz.f10 false true false false) := by
  have hx : (DataW.whole enc Proofs.Tryz.prog ((laidWorld os).forCall (fun _ _ => 0) ⟨#[], nilArgs, []⟩).memory Proofs.Tryz.f10.params.toList Rows.labNilSpec.vars false nilArgs.toList 8).isSome = true := by kernel_rfl
  obtain ⟨x, hx⟩ := Option.isSome_iff_exists.1 hx
  refine returnsInHanded_of_row (C := Proofs.Tryz.checked) (s := OpenSpec.ofChange Rows.labNilSpec) own1 started (by kernel_rfl) Proofs.Tryz.func10
    (witness_row_atRef (enc := enc) (C := Proofs.Tryz.checked) false (laidWorld os) nilArgs rfl (by kernel_rfl) (by kernel_rfl) (by kernel_rfl)
      (OpenSpec.preRow_of_cond 8 hx rfl (fun k hk => by cases hk) (by kernel_rfl) (laid_met os _))) ?_
  intro W base args ds gs before hval hW _ _ _ hL _ _
  have hW' : DataW.Whole enc Proofs.Tryz.prog Proofs.Tryz.f10.params.toList Rows.labNilSpec.vars false W args.toList ds gs before := hW
  obtain ⟨p, q, hA, hV, _⟩ := hW
  obtain ⟨l1, l2⟩ := trodAll_length hA
  obtain ⟨rfl, _⟩ := trodVars_none hV
  have hp : Proofs.Tryz.f10.params.toList = [59] := by kernel_rfl
  have l2' : ds.length = 1 := by rw [l2]; exact congrArg List.length hp
  have hv : VRs (E0 W) ([59].map (anyArg Proofs.Tryz.prog)) args.toList := by
    rw [← hp]
    exact VRs_anyArgs l1 fun j t v ht hv => hval j t v (by simpa using ht) (by simpa using hv)
  refine (law_calls_cut cxok lnenter lnall lndone hv (gok hL)).mono fun e W' h => ?_
  obtain ⟨he, hk⟩ := h
  refine ⟨.bool true, he, ?_⟩
  have hfn : Rows.labNilSpec.fn H (ds ++ []) = { results := [.lit (.bool true)], args := ds } := by
    match ds, l2' with
    | [d1], _ => rfl
  exact law_post hW' rfl hfn (tb := 4) (by kernel_rfl) (by kernel_rfl) (by kernel_rfl) (by
    rw [hp]
    intro t ht
    simp only [List.mem_cons, List.not_mem_nil, or_false] at ht
    subst ht
    exact ⟨by kernel_rfl, of_decide_eq_true (by kernel_rfl)⟩) hk


theorem inst_lnil : Proofs.Tryz.f10.isInstance Proofs.Tryz.prog Rows.labNilRow.origin Rows.labNilRow.targs := of_decide_eq_true (by kernel_rfl)
theorem wrap_lnil : Proofs.Tryz.f10.isWrapper Proofs.Tryz.prog Rows.labNilRow.wrapper Rows.labNilRow.mainSum := by
  unfold Func.isWrapper; first | (rw [if_pos (by decide +kernel)]; kernel_rfl) | (rw [if_neg (by decide +kernel)]; exact ⟨rfl, rfl⟩)
theorem said_lnil : Rows.LabNilSaid :=
  OpenClaim.holds_of_cond 10 Proofs.Tryz.f10 rfl rfl rfl rfl rfl rfl rfl ⟨rfl, rfl, rfl, rfl, rfl⟩ rfl rfl rfl rfl rfl (by kernel_rfl) Proofs.Tryz.func10 facts_lnil inst_lnil wrap_lnil
    (fun os started H enc _ F => by rw [OpenClaim.pre_eq_preRow]; exact lifted_lnil os started H enc F)
end Go.Am

namespace Go.Proofs.YtdnmnhllfflkoaaGreatDoor
open Go Go.Am Go.Proofs
theorem goes_lnil : false = Rows.labNilRow.goesBy Proofs.Tryz.prog := by kernel_rfl
theorem wf_lnil : Rows.labNilRow.wfByText (OpenSpec.ofChange Rows.labNilSpec) = true := by kernel_rfl
theorem looks_one : true = Proofs.Tryz.prog.looks [] := by kernel_rfl
theorem stand59 : Proofs.Tryz.prog.wantsStandIn 59 = false := by kernel_rfl
theorem main_is : Proofs.Tryz.prog.mainIs = some (true, "38cd816b6626f1a3cfb43c62e5da4aed3d7022f943625d991be2003fd9726f92".toList) := by kernel_rfl
theorem labNil_holds : Rows.LabNilCardSaid :=
  Claim7.holds_tied_plain_at .later [] _ _ _ _ said_lnil (fun _ h => by cases h) wf_lnil (fun _ h => by cases h) labNil_row_tie rfl ⟨rfl, rfl⟩ main_is rfl
    (fun f fn hf hfn => by
      obtain rfl : f = 10 := Option.some.inj ((show Proofs.Tryz.prog.funcNamed "ablaut/ablautlaw44.LabNil" = some 10 by kernel_rfl).symm.trans hf) |>.symm
      obtain rfl : fn = Proofs.Tryz.f10 := (Option.some.inj (Proofs.Tryz.func10.symm.trans hfn)).symm
      refine ⟨looks_one, fun j t ht => ?_⟩
      have hp : Proofs.Tryz.f10.params.toList = [59] := by kernel_rfl
      have hm : t ∈ Proofs.Tryz.f10.params.toList := by simpa using Array.mem_of_getElem? ht
      rw [hp] at hm
      simp only [List.mem_cons, List.not_mem_nil, or_false] at hm
      subst hm
      exact stand59)
    goes_lnil
end Go.Proofs.YtdnmnhllfflkoaaGreatDoor
