/-
  The machine's run of ablautlaw09.LawtextNil ends in true, whatever the arguments hold.
-/
import Derived.Test.YtpnaeljbfnjghaaGreatDoorCtx
namespace Go.Am
open Go Go.Proofs Go.Proofs.YtpnaeljbfnjghaaGreatDoor
theorem run_nil : endsTrue (callQ CC (cbsQ CC 20000) 6 ([27, 50, 9].map (anyArg CC.P)) ⟨.lf, 0⟩) = true := by decide +kernel

end Go.Am
