/- The row 'ProgCopiesSaid', out of the walk over plain values. No condition beyond the row's own. -/
import Derived.Test.YtdjcfjfgdblefaaRows
import Derived.Test.YtdjcfjfgdblefaaXSpI
import Derived.Test.YtdjcfjfgdblefaaXSc3
namespace Go.Proofs.Ytdjcfjfgdblefaa.progCopies
open Go Go.Av Go.Sc Go.Sc.Sp Go.RowKit
set_option linter.unusedVariables false
theorem own : ownKnob Try.prog.godebug = none := by kernel_rfl
theorem pars : Try.f3.params.toList = [26] := by kernel_rfl
theorem shape26 : shT Try.prog 8 26 = some progSh := by kernel_rfl
theorem is26 : (match Try.prog.underlying 26 with | some (.struct _) => true | _ => false) = true := by kernel_rfl
set_option maxRecDepth 100000 in
theorem lifted (os : Os) (started : os.Started) (H : Type) (enc : TypeId × Value → H) :
    ReturnsInHanded {} Try.checked os 3 .any (Rows.progCopiesSpec.pre6 enc Try.prog Try.f3 Rows.progCopiesRow.domain false) (Rows.progCopiesSpec.post enc Try.prog Try.f3 false true false false) := by
  refine returnsInHanded_of_change_sized (C := Try.checked) own started (by kernel_rfl) Try.func3
    (ChangeSpec.witness6 (enc := enc) (C := Try.checked) false ⟨#[], #[.agg #[.slice none 0 0, .int .i64 0, .slice none 0 0, .slice none 0 0]], []⟩ 12 (by kernel_rfl) (by kernel_rfl) (by kernel_rfl) (by kernel_rfl)) ?_
  refine law_contract (d := 8) (tb := Try.f3.resultTypes.getD 0 0) (by kernel_rfl) ?_ rfl (by kernel_rfl) (by kernel_rfl) (by kernel_rfl) (by kernel_rfl) (by kernel_rfl) ?_
  · intro ds hd
    rw [pars] at hd
    match ds, hd with
    | [a0], _ => rfl
  · intro al hA W args hn hv
    have hA : FitA Try.prog 8 Try.f3.params.toList al := hA
    rw [pars] at hA
    match al, hA with
    | [x0], hA =>
      obtain ⟨g0, _⟩ := hA
      obtain ⟨p0, rfl, h0⟩ := arg_prog shape26 is26 g0
      exact law_calls (Sp.progCopies p0 h0) W args hn hv
theorem over : Rows.progCopiesRow.holds Try.pinned (OpenSpec.ofChange Rows.progCopiesSpec) :=
  OpenClaim.holds_of_wide 3 Try.f3 rfl rfl rfl rfl rfl rfl rfl ⟨rfl, rfl, rfl, rfl, rfl⟩ rfl rfl rfl rfl rfl (by kernel_rfl) Try.func3 (by kernel_rfl)
    (of_decide_eq_true (by kernel_rfl)) (by unfold Func.isWrapper; first | (rw [if_pos (by decide +kernel)]; kernel_rfl) | (rw [if_neg (by decide +kernel)]; exact ⟨rfl, rfl⟩))
    (fun os started H enc _ => lifted os started H enc)
theorem proved : Rows.ProgCopiesSaid := over
#print axioms proved
end Go.Proofs.Ytdjcfjfgdblefaa.progCopies
namespace Go.Proofs.Ytdjcfjfgdblefaa
/-- The row, under a short name, for the claim. -/
theorem progCopies_holds : Rows.ProgCopiesSaid := progCopies.proved
end Go.Proofs.Ytdjcfjfgdblefaa
