/- Chapter 03: lists, functions, programs are compared. No condition. -/
import Derived.Test.YtdjcfjfgdblefaaQ03e
import Derived.Test.YtdjcfjfgdblefaaProg
import Derived.KernelRfl
set_option linter.constructorNameAsVariable false
namespace Go.Sc.Q03
open Go Go.RowKit Go.Av Go.Proofs
set_option linter.unusedSimpArgs false
set_option linter.unusedVariables false

/-- scarab/scarablaw03.ProgSames -/
def c4 : ACode :=
  (.seq (.reg none [⟨some 2, none, .m (.box (.t 0))⟩, ⟨some 3, none, .m (.box (.t 1))⟩, ⟨some 4, none, .q (.mv (.c (.b false)))⟩])
  (.keep [2, 3]
  (.seq (.reg (some 23) [⟨some 5, none, .q (.ld (some 4) (.t 2))⟩, ⟨some 6, none, .q (.ld (some 4) (.t 3))⟩, ⟨some 7, none, .call (.f 14) [(.t 5), (.t 6)]⟩, ⟨some 8, none, .q (.ld (some 4) (.t 2))⟩, ⟨some 9, none, .q (.ld (some 4) (.t 3))⟩, ⟨some 10, none, .call (.f 12) [(.t 8), (.t 9)]⟩, ⟨some 11, none, .q (.eqb false (.t 7) (.t 10))⟩, ⟨some 12, none, .q (.mv (.t 11))⟩, ⟨some 13, some (12, true), .q (.ld (some 4) (.t 3))⟩, ⟨some 14, some (12, true), .q (.ld (some 4) (.t 2))⟩, ⟨some 15, some (12, true), .call (.f 14) [(.t 13), (.t 14)]⟩, ⟨some 16, some (12, true), .q (.ld (some 4) (.t 2))⟩, ⟨some 17, some (12, true), .q (.ld (some 4) (.t 3))⟩, ⟨some 18, some (12, true), .call (.f 12) [(.t 16), (.t 17)]⟩, ⟨some 19, some (12, true), .q (.eqb false (.t 15) (.t 18))⟩, ⟨some 20, none, .pk (.t 12) (.t 19) (.c (.b false))⟩, ⟨some 21, none, .q (.mv (.t 20))⟩, ⟨some 22, some (21, true), .q (.ld (some 4) (.t 2))⟩, ⟨some 23, some (21, true), .q (.ld (some 4) (.t 2))⟩, ⟨some 24, some (21, true), .call (.f 10) [(.t 23)]⟩, ⟨some 25, some (21, true), .call (.f 14) [(.t 22), (.t 24)]⟩, ⟨some 26, none, .pk (.t 21) (.t 25) (.c (.b false))⟩, ⟨some 4, none, .q (.mv (.t 26))⟩])
  .ret)))
theorem r4 : (Try.f4.body.bind (resC Try.prog Try.f4.ntmps)) = some (strip c4) := by kernel_rfl
theorem s4 : Try.f4.results.toList.mapM (resRes Try.prog) = some [.t 4] := by kernel_rfl

theorem progSames (x y : Prog) (hx : x.Ok) (hy : y.Ok) : PureS Try.prog 4 [.g x.row, .g y.row] (.b true) := by
  have rs : ∀ (x y : Prog), x.Ok → PureS Try.prog 12 [.g x.row, .g y.row] (.b (decide (x = y))) := fun x y hx => refSame x y hx (fun f hf g _ => refSameFunc f g (hx.funcs f hf))
  have e1 : ∀ (x : Prog), aggV (List.map RV.v x.row) = .v (.g x.row) := fun _ => rfl
  refine fun_go hmx Try.func4 r4 s4 (by rw [Try.ntmps4]; simp) ?_
  unfold c4
  simp [Prog.row]
  refine callq rfl Try.call14 (same x y hx) rfl ?_
  simp
  refine callq rfl Try.call12 (rs x y hx) rfl ?_
  simp
  refine callqg rfl Try.call14 rfl (fun _ => same y x hy) (by simp) rfl ?_
  simp
  refine callqg rfl Try.call12 rfl (fun _ => rs x y hx) (by simp) rfl ?_
  simp
  refine callqg rfl Try.call10 rfl (fun _ => plainProg x hx) (by simp) rfl ?_
  simp
  refine callqg rfl Try.call14 rfl (fun _ => same x x hx) (by simp) rfl ?_
  simp
  exact eq_comm
end Go.Sc.Q03
