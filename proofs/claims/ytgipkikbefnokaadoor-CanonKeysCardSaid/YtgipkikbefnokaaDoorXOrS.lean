/- The kit's contracts of slices.Sort and slices.SortFunc, laid at this program. No condition. -/
import Derived.Test.YtgipkikbefnokaaDoorProg
import Derived.Shelf.SlSortCmp.NoneTotal
import Derived.Shelf.SortM.Plain
import Derived.Shelf.SortM.SortNone
import Derived.KernelRfl
set_option linter.constructorNameAsVariable false
namespace Go.Sc.Or
open Go Go.RowKit Go.Proofs Go.Shelf
set_option linter.unusedSimpArgs false
set_option linter.unusedVariables false
end Go.Sc.Or
