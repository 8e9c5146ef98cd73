/- The row 'ProgCountsSaid', out of the walk over plain values. No condition beyond the row's own. -/
import Derived.Test.YtdjcfjfgdblefaaRows
import Derived.Test.YtdjcfjfgdblefaaQ03o
import Derived.Test.YtdjcfjfgdblefaaSc2
namespace Go.Proofs.Ytdjcfjfgdblefaa.progCounts
open Go Go.Av Go.Sc Go.RowKit
set_option linter.unusedVariables false
theorem own : ownKnob Try.prog.godebug = none := by kernel_rfl
theorem pars : Try.f7.params.toList = [26] := by kernel_rfl
theorem shape26 : shT Try.prog 8 26 = some progSh := by kernel_rfl
theorem is26 : (match Try.prog.underlying 26 with | some (.struct _) => true | _ => false) = true := by kernel_rfl

set_option maxRecDepth 100000 in
theorem lifted (os : Os) (started : os.Started) (H : Type) (enc : TypeId × Value → H) :
    ReturnsInHanded {} Try.checked os 7 .any (Rows.progCountsSpec.pre6 enc Try.prog Try.f7 Rows.progCountsRow.domain false) (Rows.progCountsSpec.post enc Try.prog Try.f7 false true false false) := by
  refine returnsInHanded_of_change_sized (C := Try.checked) own started (by kernel_rfl) Try.func7
    (ChangeSpec.witness6 (enc := enc) (C := Try.checked) false ⟨#[], #[.agg #[.slice none 0 0, .int .i64 0, .slice none 0 0, .slice none 0 0]], []⟩ 12 (by kernel_rfl) (by kernel_rfl) (by kernel_rfl) (by kernel_rfl)) ?_
  refine law_contract (d := 8) (tb := Try.f7.resultTypes.getD 0 0) (by kernel_rfl) ?_ rfl (by kernel_rfl) (by kernel_rfl) (by kernel_rfl) (by kernel_rfl) (by kernel_rfl) ?_
  · intro ds hd
    rw [pars] at hd
    match ds, hd with
    | [a], _ => rfl
  · intro al hA W args hn hv
    have hA : FitA Try.prog 8 Try.f7.params.toList al := hA
    rw [pars] at hA
    match al, hA with
    | [x], hA =>
      obtain ⟨hx, _⟩ := hA
      obtain ⟨p, rfl, hp⟩ := arg_prog shape26 is26 hx
      exact law_calls (Q03.progCounts p hp) W args hn hv
theorem over : Rows.progCountsRow.holds Try.pinned (OpenSpec.ofChange Rows.progCountsSpec) :=
  OpenClaim.holds_of_wide 7 Try.f7 rfl rfl rfl rfl rfl rfl rfl ⟨rfl, rfl, rfl, rfl, rfl⟩ rfl rfl rfl rfl rfl (by kernel_rfl) Try.func7 (by kernel_rfl)
    (of_decide_eq_true (by kernel_rfl)) (by unfold Func.isWrapper; first | (rw [if_pos (by decide +kernel)]; kernel_rfl) | (rw [if_neg (by decide +kernel)]; exact ⟨rfl, rfl⟩))
    (fun os started H enc _ => lifted os started H enc)
theorem proved : Rows.ProgCountsSaid := over
#print axioms proved
end Go.Proofs.Ytdjcfjfgdblefaa.progCounts
namespace Go.Proofs.Ytdjcfjfgdblefaa
/-- The row, under a short name, for the claim. -/
theorem progCounts_holds : Rows.ProgCountsSaid := progCounts.proved
end Go.Proofs.Ytdjcfjfgdblefaa
