/-
  Pieces of LawtextKnown's run, by the kernel.
-/
import Derived.Test.YtpnaeljbfnjghaaGreatDoorKnd
namespace Go.Am
open Go Go.Proofs
set_option maxRecDepth 100000
theorem knp0 : Go.Am.piece CC (cbsQ CC 20000) [46, 15] 376 [[0, 1, 4, 5, 6, 71, 72, 73, 74, 75, 76, 77, 78, 79, 80, 81, 82, 83, 84, 85, 86, 87, 88, 89, 90, 91, 92]] [1, 2, 3, 4, 6, 9, 10, 15, 16, 19, 23, 27, 30, 36, 39, 41, 45, 49, 51, 53, 57, 60, 62, 520, 547] knm0 = some knm1 := by kernel_rfl
theorem knp1 : Go.Am.piece CC (cbsQ CC 20000) [46, 15] 310 [[0, 1, 8, 9, 10, 93, 94, 95, 96, 97, 98, 99, 100, 101, 102, 103, 104, 105, 106, 107, 108, 109, 110, 111, 112, 113]] [1, 2, 3, 4, 6, 998, 1165] knm1 = some knm2 := by kernel_rfl
theorem knp2 : Go.Am.piece CC (cbsQ CC 20000) [46, 15] 353 [[0, 1, 8, 9, 10, 93, 94, 95, 96, 97, 98, 99, 100, 101, 102, 103, 104, 105, 106, 107, 108, 109, 110, 111, 112, 113]] [1, 2, 3, 4, 6, 998, 1553] knm2 = some knm3 := by kernel_rfl
theorem knp3 : Go.Am.piece CC (cbsQ CC 20000) [46, 15] 506 [[0, 1, 8, 9, 10, 93, 94, 95, 96, 97, 98, 99, 100, 101, 102, 103, 104, 105, 106, 107, 108, 109, 110, 111, 112, 113]] [1, 2, 3, 4, 6, 998, 1945] knm3 = some knm4 := by kernel_rfl
theorem knp4 : Go.Am.piece CC (cbsQ CC 20000) [46, 15] 240 [[0, 2, 6, 7, 8, 9, 10, 62, 63, 64, 65, 66, 67, 68, 69, 70, 71, 72, 73, 74, 75, 76, 77, 78, 79, 80, 81, 82, 83, 84, 85, 86, 87, 88, 89, 90, 91, 92, 93, 94, 95, 96, 97, 98, 99, 100, 101], [0, 114]] [1, 2, 3, 4, 6, 2057, 2058, 2059, 2060, 2061, 2062, 2064, 2065, 2155, 2238, 2245] knm4 = some knm5 := by kernel_rfl
end Go.Am
