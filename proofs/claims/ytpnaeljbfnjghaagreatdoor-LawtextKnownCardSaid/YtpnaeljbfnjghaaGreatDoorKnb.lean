/-
  Pieces of LawtextKnown's run, by the kernel.
-/
import Derived.Test.YtpnaeljbfnjghaaGreatDoorKnd
namespace Go.Am
open Go Go.Proofs
set_option maxRecDepth 100000
theorem knp5 : Go.Am.piece CC (cbsQ CC 20000) [46, 15] 83 [[0, 2, 6, 7, 8, 9, 10, 62, 63, 64, 65, 66, 67, 68, 69, 70, 71, 72, 73, 74, 75, 76, 77, 78, 79, 80, 81, 82, 83, 84, 85, 86, 87, 88, 89, 90, 91, 92, 93, 94, 95, 96, 97, 98, 99, 100, 101], [0, 114]] [1, 2, 3, 4, 6, 2057, 2058, 2059, 2060, 2061, 2062, 2064, 2245, 2373, 2385, 2482, 2489, 2589] knm5 = some knm6 := by kernel_rfl
theorem knp6 : Go.Am.piece CC (cbsQ CC 20000) [46, 15] 224 [[0, 2, 12, 13, 14, 102, 103, 104, 105, 106, 107, 108, 109, 110, 111, 112, 113, 114, 115, 116], [0, 114]] [1, 2, 3, 4, 6, 2956, 2982] knm6 = some knm7 := by kernel_rfl
theorem knp7 : Go.Am.piece CC (cbsQ CC 20000) [46, 15] 160 [[0, 2, 12, 13, 14, 102, 103, 104, 105, 106, 107, 108, 109, 110, 111, 112, 113, 114, 115, 116], [0, 114]] [1, 2, 3, 4, 6, 2956, 3299] knm7 = some knm8 := by kernel_rfl
theorem knp8 : Go.Am.piece CC (cbsQ CC 20000) [46, 15] 200 [[0, 2, 12, 13, 14, 102, 103, 104, 105, 106, 107, 108, 109, 110, 111, 112, 113, 114, 115, 116], [0, 114]] [1, 2, 3, 4, 6, 2956, 3542] knm8 = some knm9 := by kernel_rfl
end Go.Am
