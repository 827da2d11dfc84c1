import Derived.Test.YtmgfnlnomecbiaaDoorT8
set_option linter.all false
open Go.Proofs Go.Abs Go.Fa Go.BU Go.TX
namespace Go.TW
set_option maxHeartbeats 4000000
set_option maxRecDepth 10000
-- rules: byteD, dstr, un1_str

theorem w1 : wordsF [111, 98, 106, 101, 99, 116, 32, 48, 32, 34, 65, 32, 66, 34] = some [[111, 98, 106, 101, 99, 116], [48], [34, 65, 32, 66, 34]] := by decide +kernel
theorem w2 : quote [65, 34, 10] = [34, 65, 92, 50, 50, 92, 48, 65, 34] := by decide +kernel
theorem w3 : dec 120 = [49, 50, 48] := by simp [dec, Lib.decDigits]
theorem w4 : hexF 171 4 = [48, 48, 65, 66] := by decide +kernel
end Go.TW
