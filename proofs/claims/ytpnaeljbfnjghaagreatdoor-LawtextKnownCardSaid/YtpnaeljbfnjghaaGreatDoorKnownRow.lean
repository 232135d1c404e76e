/-
  LawtextKnown returns true: the tied card. (Conditions: the row's own.)
-/
import Derived.Test.YtpnaeljbfnjghaaGreatDoorKna
import Derived.Test.YtpnaeljbfnjghaaGreatDoorKnb
import Derived.Test.YtpnaeljbfnjghaaGreatDoorKnc
import Derived.Test.YtpnaeljbfnjghaaGreatDoorCtx
import Derived.Test.YtpnaeljbfnjghaaGreatDoorKnownFacts
import Derived.Test.YtpnaeljbfnjghaaGreatDoorCards
import Derived.Test.YtpnaeljbfnjghaaGreatDoorTie
import Derived.SevenTiedAt
namespace Go.Am
open Go Go.Proofs
set_option maxRecDepth 100000
theorem knenter : aenter CC 9 (([] : List TypeId).map (anyArg CC.P)) .normal = some ⟨9, mkT [], 119, [.code (codeAt CC 9 [])], [], .run, .normal, none⟩ := by kernel_rfl
theorem kndone : doneM CC 9 knm13 = true := by kernel_rfl
theorem knall : Sim CC knm0 knm13 := (((((((((((((piece_ok cxok knp0).trans (piece_ok cxok knp1)).trans (piece_ok cxok knp2)).trans (piece_ok cxok knp3)).trans (piece_ok cxok knp4)).trans (piece_ok cxok knp5)).trans (piece_ok cxok knp6)).trans (piece_ok cxok knp7)).trans (piece_ok cxok knp8)).trans (piece_ok cxok knp9)).trans (piece_ok cxok knp10)).trans (piece_ok cxok knp11)).trans (piece_ok cxok knp12))
end Go.Am

namespace Go.Am
open Go Go.Proofs Go.Proofs.YtpnaeljbfnjghaaGreatDoor Go.ChangeShapes Go.RowKit


set_option maxRecDepth 1000000 in
theorem lifted_known (os : Os) (started : os.Started) (H : Type) (enc : TypeId × Value → H) (F : Stop.Interp) :
    ReturnsInHanded {} Proofs.Tryz.checked os 9 .any ((OpenSpec.ofChange Rows.lawtextKnownSpec).preRow enc Proofs.Tryz.prog Proofs.Tryz.f9 Rows.lawtextKnownRow.domain false Rows.lawtextKnownRow.laid) (((OpenSpec.ofChange Rows.lawtextKnownSpec).at F).post enc Proofs.Tryz.prog Proofs.Tryz.f9 false true false false) := by
  have hx : (DataW.whole enc Proofs.Tryz.prog ((laidWorld os).forCall (fun _ _ => 0) ⟨#[], #[], []⟩).memory Proofs.Tryz.f9.params.toList Rows.lawtextKnownSpec.vars false #[].toList 8).isSome = true := by kernel_rfl
  obtain ⟨x, hx⟩ := Option.isSome_iff_exists.1 hx
  refine returnsInHanded_of_row (C := Proofs.Tryz.checked) (s := OpenSpec.ofChange Rows.lawtextKnownSpec) own1 started (by kernel_rfl) Proofs.Tryz.func9
    (witness_row_atRef (enc := enc) (C := Proofs.Tryz.checked) false (laidWorld os) #[] rfl (by kernel_rfl) (by kernel_rfl) (by kernel_rfl)
      (OpenSpec.preRow_of_cond 8 hx rfl (fun k hk => by cases hk) (by kernel_rfl) (laid_met os _))) ?_
  intro W base args ds gs before hval hW _ _ _ hL hS _
  have hW' : DataW.Whole enc Proofs.Tryz.prog Proofs.Tryz.f9.params.toList Rows.lawtextKnownSpec.vars false W args.toList ds gs before := hW
  obtain ⟨p, q, hA, hV, _⟩ := hW
  obtain ⟨l1, l2⟩ := trodAll_length hA
  obtain ⟨rfl, _⟩ := trodVars_none hV
  have hp : Proofs.Tryz.f9.params.toList = ([] : List TypeId) := by kernel_rfl
  have l2' : ds.length = 0 := by rw [l2]; exact congrArg List.length hp
  have hv : VRs (E0 W) (([] : List TypeId).map (anyArg Proofs.Tryz.prog)) args.toList := by
    rw [← hp]
    exact VRs_anyArgs l1 fun j t v ht hv => hval j t v (by simp at ht) (by simpa using hv)
  refine (law_calls_cut cxok knenter knall kndone hv (gok hL (maxLen_cell hS))).mono fun e W' h => ?_
  obtain ⟨he, hk⟩ := h
  refine ⟨.bool true, he, ?_⟩
  have hfn : Rows.lawtextKnownSpec.fn H (ds ++ []) = { results := [.lit (.bool true)], args := ds } := by
    match ds, l2' with
    | [], _ => rfl
  exact law_post hW' rfl hfn (tb := 4) (by kernel_rfl) (by kernel_rfl) (by kernel_rfl) (by
    rw [hp]
    intro t ht
    cases ht) hk


theorem inst_known : Proofs.Tryz.f9.isInstance Proofs.Tryz.prog Rows.lawtextKnownRow.origin Rows.lawtextKnownRow.targs := of_decide_eq_true (by kernel_rfl)
theorem wrap_known : Proofs.Tryz.f9.isWrapper Proofs.Tryz.prog Rows.lawtextKnownRow.wrapper Rows.lawtextKnownRow.mainSum := by
  unfold Func.isWrapper; first | (rw [if_pos (by decide +kernel)]; kernel_rfl) | (rw [if_neg (by decide +kernel)]; exact ⟨rfl, rfl⟩)
theorem said_known : Rows.LawtextKnownSaid :=
  OpenClaim.holds_of_cond 9 Proofs.Tryz.f9 rfl rfl rfl rfl rfl rfl rfl ⟨rfl, rfl, rfl, rfl, rfl⟩ rfl rfl rfl rfl rfl (by kernel_rfl) Proofs.Tryz.func9 facts_known inst_known wrap_known
    (fun os started H enc _ F => by rw [OpenClaim.pre_eq_preRow]; exact lifted_known os started H enc F)
end Go.Am

namespace Go.Proofs.YtpnaeljbfnjghaaGreatDoor
open Go Go.Am Go.Proofs
theorem goes_known : false = Rows.lawtextKnownRow.goesBy Proofs.Tryz.prog := by kernel_rfl
theorem wf_known : Rows.lawtextKnownRow.wfByText (OpenSpec.ofChange Rows.lawtextKnownSpec) = true := by kernel_rfl
theorem looks_one9 : true = Proofs.Tryz.prog.looks [] := by kernel_rfl
theorem main_is9 : Proofs.Tryz.prog.mainIs = some (true, "20c74b4c3865128aa5c70bb84dc7015412060d634ab0f04ced7316685e041387".toList) := by kernel_rfl
theorem lawtextKnown_holds : Rows.LawtextKnownCardSaid :=
  Claim7.holds_tied_plain_at .later [] _ _ _ _ said_known (fun _ h => by cases h) wf_known (fun _ h => by cases h) lawtextKnown_row_tie rfl ⟨rfl, rfl⟩ main_is9 rfl
    (fun f fn hf hfn => by
      obtain rfl : f = 9 := Option.some.inj ((show Proofs.Tryz.prog.funcNamed "ablaut/ablautlaw09.LawtextKnown" = some 9 by kernel_rfl).symm.trans hf) |>.symm
      obtain rfl : fn = Proofs.Tryz.f9 := (Option.some.inj (Proofs.Tryz.func9.symm.trans hfn)).symm
      refine ⟨looks_one9, fun j t ht => ?_⟩
      have hp : Proofs.Tryz.f9.params.toList = [] := by kernel_rfl
      have hm : t ∈ Proofs.Tryz.f9.params.toList := by simpa using Array.mem_of_getElem? ht
      rw [hp] at hm
      cases hm)
    goes_known
end Go.Proofs.YtpnaeljbfnjghaaGreatDoor
