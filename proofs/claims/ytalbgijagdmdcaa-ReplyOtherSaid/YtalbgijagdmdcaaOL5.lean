import Derived.Test.YtalbgijagdmdcaaOL2
import Derived.Test.YtalbgijagdmdcaaOR12
set_option linter.all false
/- The shapes, and the law ReplyOther. -/
