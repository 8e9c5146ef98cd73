/- Chapter 03: lists, functions, programs are compared. No condition. -/
import Derived.Test.YtinpjecafkdikaaXSc
import Derived.Test.YtinpjecafkdikaaXWd
import Derived.Test.YtinpjecafkdikaaProg
import Derived.KernelRfl
set_option linter.constructorNameAsVariable false
namespace Go.Sc.Q03
open Go Go.RowKit Go.Av Go.Proofs
set_option linter.unusedSimpArgs false
set_option linter.unusedVariables false
theorem hmx : Try.prog.follows .mixedOrders = true := by kernel_rfl
end Go.Sc.Q03
/- Chapter 03: lists, functions, programs are compared. No condition. -/
set_option linter.constructorNameAsVariable false
namespace Go.Sc.Q03
open Go Go.RowKit Go.Av Go.Proofs
set_option linter.unusedSimpArgs false
set_option linter.unusedVariables false

end Go.Sc.Q03
/- Chapter 03: lists, functions, programs are compared. No condition. -/
set_option linter.constructorNameAsVariable false
namespace Go.Sc.Q03
open Go Go.RowKit Go.Av Go.Proofs
set_option linter.unusedSimpArgs false
set_option linter.unusedVariables false

end Go.Sc.Q03
