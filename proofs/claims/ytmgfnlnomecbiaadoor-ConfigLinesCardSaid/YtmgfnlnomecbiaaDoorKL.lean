import Derived.Test.YtmgfnlnomecbiaaDoorKJ
set_option linter.all false
open Go.Proofs Go.Abs Go.Fa Go.BU Go.TX Go.TW
namespace Go.CF
set_option maxHeartbeats 400000
set_option maxRecDepth 10000
-- rules: byteD, dstr, un1_str, iD, bD
end Go.CF
