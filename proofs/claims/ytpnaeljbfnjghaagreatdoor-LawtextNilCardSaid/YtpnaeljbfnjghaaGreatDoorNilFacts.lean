/-
  The closed facts of LawtextNil's row.
-/
import Derived.Test.YtpnaeljbfnjghaaGreatDoorRows
import Derived.JoinedCond
namespace Go.Am
open Go Go.Proofs Go.Proofs.YtpnaeljbfnjghaaGreatDoor
theorem facts_nil : joinedFacts Proofs.Tryz.prog 6 Proofs.Tryz.f6 (OpenSpec.ofChange Rows.lawtextNilSpec).bare Rows.lawtextNilRow = true := by kernel_rfl
end Go.Am
