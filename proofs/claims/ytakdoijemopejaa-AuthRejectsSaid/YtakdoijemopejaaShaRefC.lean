/- Walks of the reference's primes, powers and digits. -/
import Derived.Test.YtakdoijemopejaaShaPrimes
import Derived.StillTailTactics
import Derived.Deep.OwnRows
set_option maxRecDepth 100000
set_option linter.unusedSimpArgs false
set_option linter.unusedVariables false
namespace Go.Proofs.Ytakdoijemopejaa
open Go.RowKit
namespace Sha
open Bv (n8 n16 n32 n64)
def isP (n : Nat) : Bool := (List.range 20).all fun d => decide (d < 2) || decide (n < d * d) || decide (¬ n % d = 0)
/-- From the digit i - 1 down. -/
def naGo (ds : List Int) (p z : Int) : Nat → Bool
 | 0 => true
 | i + 1 => if ds.getD i 0 = (if (i : Int) = z then p else 0) then naGo ds p z i else decide (ds.getD i 0 < (if (i : Int) = z then p else 0))
end Sha
end Go.Proofs.Ytakdoijemopejaa

