/- 1 texts, one behind the other. -/
import Derived.Test.YtadgfmmmdhlljaaDoorHEr
set_option linter.unusedVariables false
set_option linter.unusedSimpArgs false
section
namespace Go.Proofs.YtadgfmmmdhlljaaDoor
open Go.RowKit Go.Extern.Stop Go.Stop Go.Extern
end Go.Proofs.YtadgfmmmdhlljaaDoor
end
