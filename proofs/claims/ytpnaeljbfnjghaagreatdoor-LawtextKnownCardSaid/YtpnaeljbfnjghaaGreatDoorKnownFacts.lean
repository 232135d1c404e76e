/-
  The closed facts of LawtextKnown's row.
-/
import Derived.Test.YtpnaeljbfnjghaaGreatDoorRows
import Derived.JoinedCond
namespace Go.Am
open Go Go.Proofs Go.Proofs.YtpnaeljbfnjghaaGreatDoor
theorem facts_known : joinedFacts Proofs.Tryz.prog 9 Proofs.Tryz.f9 (OpenSpec.ofChange Rows.lawtextKnownSpec).bare Rows.lawtextKnownRow = true := by kernel_rfl
end Go.Am
