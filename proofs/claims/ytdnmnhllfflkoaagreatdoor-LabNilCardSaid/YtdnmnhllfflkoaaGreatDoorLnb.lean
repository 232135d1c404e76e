/-
  A piece of LabNil's run, by the kernel.
-/
import Derived.Test.YtdnmnhllfflkoaaGreatDoorLnd
namespace Go.Am
open Go Go.Proofs
set_option maxRecDepth 100000
theorem lnp4 : Go.Am.piece CC (cbsQ CC 20000) [17, 18, 15, 139, 136, 138, 22, 140, 209, 133, 206, 35] 134 [[2, 3], [4, 5, 8], [4, 30, 31, 32], [0, 1, 3, 4, 5, 30, 31], [2]] [201, 203, 205, 214, 216, 227, 231, 235, 244, 254, 261, 263, 266, 1217, 1218, 1829, 1834, 1905, 1907, 1909, 1911, 2074, 2081, 2083, 2085, 2086, 2088, 2144, 2145, 3401] lnm4 = some lnm5 := by kernel_rfl
end Go.Am
