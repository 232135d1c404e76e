/-
  The closed facts of LabNil's row.
-/
import Derived.Test.YtdnmnhllfflkoaaGreatDoorRows
import Derived.JoinedCond
namespace Go.Am
open Go Go.Proofs Go.Proofs.YtdnmnhllfflkoaaGreatDoor
theorem lnil_named : (Rows.labNilRow.named == Proofs.Tryz.prog.varsNamed 10) = true := by kernel_rfl
theorem lnil_inPlace : (Rows.labNilRow.inPlace == Proofs.Tryz.prog.inPlace 10) = true := by kernel_rfl
theorem lnil_recurses : (Rows.labNilRow.recurses == Proofs.Tryz.prog.recurses 10) = true := by kernel_rfl
theorem lnil_unfollowed : (Rows.labNilRow.unfollowed == Proofs.Tryz.prog.unfollowed 10) = true := by kernel_rfl
theorem facts_lnil : joinedFacts Proofs.Tryz.prog 10 Proofs.Tryz.f10 (OpenSpec.ofChange Rows.labNilSpec).bare Rows.labNilRow = true := by
  unfold joinedFacts
  rw [lnil_named, lnil_inPlace, lnil_recurses, lnil_unfollowed]
  kernel_rfl
end Go.Am
