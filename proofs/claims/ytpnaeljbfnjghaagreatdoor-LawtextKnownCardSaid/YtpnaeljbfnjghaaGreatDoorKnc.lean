/-
  Pieces of LawtextKnown's run, by the kernel.
-/
import Derived.Test.YtpnaeljbfnjghaaGreatDoorKnd
namespace Go.Am
open Go Go.Proofs
set_option maxRecDepth 100000
theorem knp9 : Go.Am.piece CC (cbsQ CC 20000) [46, 15] 280 [[0, 2, 12, 13, 14, 102, 103, 104, 105, 106, 107, 108, 109, 110, 111, 112, 113, 114, 115, 116], [0, 114]] [1, 2, 3, 4, 6, 2956, 3820] knm9 = some knm10 := by kernel_rfl
theorem knp10 : Go.Am.piece CC (cbsQ CC 20000) [46, 15] 95 [[0, 2, 17, 19, 22, 146], [0, 114]] [1, 2, 3, 4, 6] knm10 = some knm11 := by kernel_rfl
theorem knp11 : Go.Am.piece CC (cbsQ CC 20000) [46, 15] 100 [[0, 1, 2, 3, 21], [0, 116]] [4302, 4303, 4304, 4305, 4307, 4423, 4429] knm11 = some knm12 := by kernel_rfl
theorem knp12 : Go.Am.piece CC (cbsQ CC 20000) [46, 15] 57 [[0]] [] knm12 = some knm13 := by kernel_rfl
end Go.Am
