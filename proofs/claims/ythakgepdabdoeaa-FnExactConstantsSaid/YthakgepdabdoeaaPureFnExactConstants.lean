/- Every exported constant is the document's. No condition. -/
import Derived.Test.YthakgepdabdoeaaCFnExactConstants
namespace Go.Proofs.Ythakgepdabdoeaa.Pure
theorem FnExactConstants : PConstants.laws_FnExactConstants.f = some true := rfl
end Go.Proofs.Ythakgepdabdoeaa.Pure
