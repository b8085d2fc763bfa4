/- The constants of both sides are the same words, prime by prime. Its text is printed by a small program. -/
import Derived.Test.YtakdoijemopejaaShaRefK
set_option maxRecDepth 100000
set_option linter.unusedSimpArgs false
set_option linter.unusedVariables false
namespace Go.Proofs.Ytakdoijemopejaa
namespace Sha
theorem hd3 : digN 3 2 = hOf 3 := by decide +kernel
attribute [local irreducible] digN kOf hOf
end Sha
end Go.Proofs.Ytakdoijemopejaa

