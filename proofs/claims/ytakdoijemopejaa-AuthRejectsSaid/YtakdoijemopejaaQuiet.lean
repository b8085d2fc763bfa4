/- Quiet calls behind a quiet region: the world bears draws already. No condition. -/
import Derived.Deep.QuietTactic
set_option linter.unusedSimpArgs false
set_option linter.unusedVariables false
namespace Go.Proofs.Ytakdoijemopejaa
open Go
namespace Li
end Li
end Go.Proofs.Ytakdoijemopejaa

