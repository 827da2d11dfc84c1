import Derived.Test.YtmgfnlnomecbiaaDoorKH
import Derived.Test.YtmgfnlnomecbiaaDoorT7
import Derived.Test.YtmgfnlnomecbiaaDoorT9
set_option linter.all false
open Go.Proofs Go.Abs Go.Fa Go.BU Go.TX Go.TW
namespace Go.CF
set_option maxHeartbeats 4000000
set_option maxRecDepth 10000
-- rules: byteD, dstr, un1_str, iD, bD

def numR (row : List (List UInt8)) (w : List UInt8) (k : Nat) : Option (List Int) := if (row.length = k + 1 ∧ row.getD 0 [] = w) ∧ (row.drop 1).all (fun s => (pdec s).2) = true then some ((row.drop 1).map fun s => (pdec s).1) else none
end Go.CF
