/- The constants: the pure statement. -/
import Derived.Test.YthaihdfkjhammaaE0
namespace Go.Proofs.Ythaihdfkjhammaa.E
open Go.RowKit Go.Proofs.Ythaihdfkjhammaa.P Osier
theorem FnExactConstants : laws_FnExactConstants.f = some true := rfl
end Go.Proofs.Ythaihdfkjhammaa.E
