import Derived.Test.YtmgfnlnomecbiaaDoorKL
set_option linter.all false
open Go.Proofs Go.Abs Go.Fa Go.BU Go.TX Go.TW
namespace Go.CF
set_option maxHeartbeats 4000000
set_option maxRecDepth 200000
-- rules: byteD, dstr, un1_str, iD, bD

theorem parC_eq (b : List UInt8) : parC b = parR (wordsL ((linesF b).getD [])) (!((linesF b).isSome && wordsK ((linesF b).getD []))) := rfl
end Go.CF
