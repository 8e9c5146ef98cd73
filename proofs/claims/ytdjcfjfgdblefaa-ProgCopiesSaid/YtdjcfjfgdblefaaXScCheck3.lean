/- Chapter 03's count, in plain Lean. No condition. -/
import Derived.Test.YtdjcfjfgdblefaaXSc
namespace Go.Sc
open Go Go.Av
set_option linter.unusedSimpArgs false
set_option linter.unusedVariables false

/-- How many instructions, and how many of them are visible, as the machine adds. -/
def cntI (a : Int × Int) (i : Instr) : Int × Int := (IntKind.i64.wrap (a.1 + 1), if isVisible i.op = true then IntKind.i64.wrap (a.2 + 1) else a.2)
def cntF (a : Int × Int) (f : Func) : Int × Int := f.code.foldl cntI a
def cnt (p : Prog) : Int × Int := p.funcs.foldl cntF (0, 0)
theorem foldl_take {α β : Type} {g : β → α → β} {b : β} {xs : List α} {i : Nat} (h : i < xs.length) : (xs.take (i + 1)).foldl g b = g ((xs.take i).foldl g b) xs[i] := by
  rw [List.take_add_one, List.getElem?_eq_getElem h, List.foldl_append]
  rfl
end Go.Sc
