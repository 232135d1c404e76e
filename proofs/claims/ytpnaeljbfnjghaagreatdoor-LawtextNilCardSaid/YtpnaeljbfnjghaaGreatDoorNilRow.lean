/-
  LawtextNil returns true for every pattern, law and text, and its arguments read as before: the tied card. (Conditions: the row's own.)
-/
import Derived.Test.YtpnaeljbfnjghaaGreatDoorCtx
import Derived.Test.YtpnaeljbfnjghaaGreatDoorNilRun
import Derived.Test.YtpnaeljbfnjghaaGreatDoorNilFacts
import Derived.Test.YtpnaeljbfnjghaaGreatDoorCards
import Derived.Test.YtpnaeljbfnjghaaGreatDoorTie
import Derived.SevenTiedAt
namespace Go.Am
open Go Go.Proofs Go.Proofs.YtpnaeljbfnjghaaGreatDoor Go.ChangeShapes Go.RowKit

noncomputable def zv (t : TypeId) : Value := ((Proofs.Tryz.prog.info? t).bind (·.zero)).getD .nilIface
noncomputable def nilArgs : Array Value := #[zv 27, zv 50, zv 9]

theorem maxLen_cell {W : World} (h : W.ShapedOpen Proofs.Tryz.prog) : ∃ m : Int, W.cell? ⟨2, 0, none⟩ = some (.int .i64 m) :=
  cell_of_shapedOpen_int (t := 3) (zero := #[.int .i64 0]) (k := .i64) h (of_decide_eq_true (by kernel_rfl)) (by kernel_rfl) rfl (by kernel_rfl) (by kernel_rfl) (by kernel_rfl)
set_option maxRecDepth 1000000 in
theorem lifted_nil (os : Os) (started : os.Started) (H : Type) (enc : TypeId × Value → H) (F : Stop.Interp) :
    ReturnsInHanded {} Proofs.Tryz.checked os 6 .any ((OpenSpec.ofChange Rows.lawtextNilSpec).preRow enc Proofs.Tryz.prog Proofs.Tryz.f6 Rows.lawtextNilRow.domain false Rows.lawtextNilRow.laid) (((OpenSpec.ofChange Rows.lawtextNilSpec).at F).post enc Proofs.Tryz.prog Proofs.Tryz.f6 false true false false) := by
  have hx : (DataW.whole enc Proofs.Tryz.prog ((laidWorld os).forCall (fun _ _ => 0) ⟨#[], nilArgs, []⟩).memory Proofs.Tryz.f6.params.toList Rows.lawtextNilSpec.vars false nilArgs.toList 8).isSome = true := by kernel_rfl
  obtain ⟨x, hx⟩ := Option.isSome_iff_exists.1 hx
  refine returnsInHanded_of_row (C := Proofs.Tryz.checked) (s := OpenSpec.ofChange Rows.lawtextNilSpec) own1 started (by kernel_rfl) Proofs.Tryz.func6
    (witness_row_atRef (enc := enc) (C := Proofs.Tryz.checked) false (laidWorld os) nilArgs rfl (by kernel_rfl) (by kernel_rfl) (by kernel_rfl)
      (OpenSpec.preRow_of_cond 8 hx rfl (fun k hk => by cases hk) (by kernel_rfl) (laid_met os _))) ?_
  intro W base args ds gs before hval hW _ _ _ hL hS _
  have hW' : DataW.Whole enc Proofs.Tryz.prog Proofs.Tryz.f6.params.toList Rows.lawtextNilSpec.vars false W args.toList ds gs before := hW
  obtain ⟨p, q, hA, hV, _⟩ := hW
  obtain ⟨l1, l2⟩ := trodAll_length hA
  obtain ⟨rfl, _⟩ := trodVars_none hV
  have hp : Proofs.Tryz.f6.params.toList = [27, 50, 9] := by kernel_rfl
  have l2' : ds.length = 3 := by rw [l2]; exact congrArg List.length hp
  have hv : VRs (E0 W) ([27, 50, 9].map (anyArg Proofs.Tryz.prog)) args.toList := by
    rw [← hp]
    exact VRs_anyArgs l1 fun j t v ht hv => hval j t v (by simpa using ht) (by simpa using hv)
  refine (law_calls cxok run_nil hv (gok hL (maxLen_cell hS))).mono fun e W' h => ?_
  obtain ⟨he, hk⟩ := h
  refine ⟨.bool true, he, ?_⟩
  have hfn : Rows.lawtextNilSpec.fn H (ds ++ []) = { results := [.lit (.bool true)], args := ds } := by
    match ds, l2' with
    | [d1, d2, d3], _ => rfl
  exact law_post hW' rfl hfn (tb := 4) (by kernel_rfl) (by kernel_rfl) (by kernel_rfl) (by
    rw [hp]
    intro t ht
    simp only [List.mem_cons, List.not_mem_nil, or_false] at ht
    rcases ht with rfl | rfl | rfl
    · exact ⟨by kernel_rfl, of_decide_eq_true (by kernel_rfl)⟩
    · exact ⟨by kernel_rfl, of_decide_eq_true (by kernel_rfl)⟩
    · exact ⟨by kernel_rfl, of_decide_eq_true (by kernel_rfl)⟩) hk


theorem inst_nil : Proofs.Tryz.f6.isInstance Proofs.Tryz.prog Rows.lawtextNilRow.origin Rows.lawtextNilRow.targs := of_decide_eq_true (by kernel_rfl)
theorem wrap_nil : Proofs.Tryz.f6.isWrapper Proofs.Tryz.prog Rows.lawtextNilRow.wrapper Rows.lawtextNilRow.mainSum := by
  unfold Func.isWrapper; first | (rw [if_pos (by decide +kernel)]; kernel_rfl) | (rw [if_neg (by decide +kernel)]; exact ⟨rfl, rfl⟩)
theorem said_nil : Rows.LawtextNilSaid :=
  OpenClaim.holds_of_cond 6 Proofs.Tryz.f6 rfl rfl rfl rfl rfl rfl rfl ⟨rfl, rfl, rfl, rfl, rfl⟩ rfl rfl rfl rfl rfl (by kernel_rfl) Proofs.Tryz.func6 facts_nil inst_nil wrap_nil
    (fun os started H enc _ F => by rw [OpenClaim.pre_eq_preRow]; exact lifted_nil os started H enc F)
end Go.Am

namespace Go.Proofs.YtpnaeljbfnjghaaGreatDoor
open Go Go.Am Go.Proofs
theorem goes_nil : false = Rows.lawtextNilRow.goesBy Proofs.Tryz.prog := by kernel_rfl
theorem wf_nil : Rows.lawtextNilRow.wfByText (OpenSpec.ofChange Rows.lawtextNilSpec) = true := by kernel_rfl
theorem looks_one : true = Proofs.Tryz.prog.looks [] := by kernel_rfl
theorem stand27 : Proofs.Tryz.prog.wantsStandIn 27 = false := by kernel_rfl
theorem stand50 : Proofs.Tryz.prog.wantsStandIn 50 = false := by kernel_rfl
theorem stand9 : Proofs.Tryz.prog.wantsStandIn 9 = false := by kernel_rfl
theorem main_is : Proofs.Tryz.prog.mainIs = some (true, "20c74b4c3865128aa5c70bb84dc7015412060d634ab0f04ced7316685e041387".toList) := by kernel_rfl
theorem lawtextNil_holds : Rows.LawtextNilCardSaid :=
  Claim7.holds_tied_plain_at .later [] _ _ _ _ said_nil (fun _ h => by cases h) wf_nil (fun _ h => by cases h) lawtextNil_row_tie rfl ⟨rfl, rfl⟩ main_is rfl
    (fun f fn hf hfn => by
      obtain rfl : f = 6 := Option.some.inj ((show Proofs.Tryz.prog.funcNamed "ablaut/ablautlaw09.LawtextNil" = some 6 by kernel_rfl).symm.trans hf) |>.symm
      obtain rfl : fn = Proofs.Tryz.f6 := (Option.some.inj (Proofs.Tryz.func6.symm.trans hfn)).symm
      refine ⟨looks_one, fun j t ht => ?_⟩
      have hp : Proofs.Tryz.f6.params.toList = [27, 50, 9] := by kernel_rfl
      have hm : t ∈ Proofs.Tryz.f6.params.toList := by simpa using Array.mem_of_getElem? ht
      rw [hp] at hm
      simp only [List.mem_cons, List.not_mem_nil, or_false] at hm
      rcases hm with rfl | rfl | rfl
      · exact stand27
      · exact stand50
      · exact stand9)
    goes_nil
end Go.Proofs.YtpnaeljbfnjghaaGreatDoor
