/-
  Every exported constant of the program has the value that the specification gives it: for every input (there is none), without a condition.
-/
import Derived.Test.YtnimcmlbjbkijaaBase
import Derived.Test.YtnimcmlbjbkijaaP3
namespace Go.Proofs.Ytnimcmlbjbkijaa.Pure
open Go.RowKit Go.Proofs.Ytnimcmlbjbkijaa.P Go.Proofs.YtnimcmlbjbkijaaW.PrintWords Go.Proofs.YtnimcmlbjbkijaaW.PrintLast Go.Proofs.Ytnimcmlbjbkijaa.Base

theorem FnExactConstants : laws_FnExactConstants.f = some true := rfl
end Go.Proofs.Ytnimcmlbjbkijaa.Pure
