/- All typed functions of this seat. -/
import Derived.Test.YtdhehcnfkcibiaaGreatDoorXF3
set_option linter.all false
set_option linter.unusedVariables false
set_option linter.unusedSimpArgs false
