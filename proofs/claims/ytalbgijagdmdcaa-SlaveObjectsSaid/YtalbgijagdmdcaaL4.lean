import Derived.Test.YtalbgijagdmdcaaL3
import Derived.Test.YtalbgijagdmdcaaS17
set_option linter.all false
