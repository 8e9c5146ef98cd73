/- The row 'ProgSamesSaid', out of the walk over plain values. No condition beyond the row's own. -/
import Derived.Test.YtdjcfjfgdblefaaRows
import Derived.Test.YtdjcfjfgdblefaaQ03f
import Derived.Test.YtdjcfjfgdblefaaSc2
namespace Go.Proofs.Ytdjcfjfgdblefaa.progSames
open Go Go.Av Go.Sc Go.RowKit
set_option linter.unusedVariables false
theorem own : ownKnob Try.prog.godebug = none := by kernel_rfl
theorem pars : Try.f4.params.toList = [26, 26] := by kernel_rfl
theorem shape26 : shT Try.prog 8 26 = some progSh := by kernel_rfl
theorem is26 : (match Try.prog.underlying 26 with | some (.struct _) => true | _ => false) = true := by kernel_rfl

set_option maxRecDepth 100000 in
theorem lifted (os : Os) (started : os.Started) (H : Type) (enc : TypeId × Value → H) :
    ReturnsInHanded {} Try.checked os 4 .any (Rows.progSamesSpec.pre6 enc Try.prog Try.f4 Rows.progSamesRow.domain false) (Rows.progSamesSpec.post enc Try.prog Try.f4 false true false false) := by
  refine returnsInHanded_of_change_sized (C := Try.checked) own started (by kernel_rfl) Try.func4
    (ChangeSpec.witness6 (enc := enc) (C := Try.checked) false ⟨#[], #[.agg #[.slice none 0 0, .int .i64 0, .slice none 0 0, .slice none 0 0], .agg #[.slice none 0 0, .int .i64 0, .slice none 0 0, .slice none 0 0]], []⟩ 12 (by kernel_rfl) (by kernel_rfl) (by kernel_rfl) (by kernel_rfl)) ?_
  refine law_contract (d := 8) (tb := Try.f4.resultTypes.getD 0 0) (by kernel_rfl) ?_ rfl (by kernel_rfl) (by kernel_rfl) (by kernel_rfl) (by kernel_rfl) (by kernel_rfl) ?_
  · intro ds hd
    rw [pars] at hd
    match ds, hd with
    | [a, b], _ => rfl
  · intro al hA W args hn hv
    have hA : FitA Try.prog 8 Try.f4.params.toList al := hA
    rw [pars] at hA
    match al, hA with
    | [x, y], hA =>
      obtain ⟨hx, hy, _⟩ := hA
      obtain ⟨p, rfl, hp⟩ := arg_prog shape26 is26 hx
      obtain ⟨q, rfl, hq⟩ := arg_prog shape26 is26 hy
      exact law_calls (Q03.progSames p q hp hq) W args hn hv
theorem over : Rows.progSamesRow.holds Try.pinned (OpenSpec.ofChange Rows.progSamesSpec) :=
  OpenClaim.holds_of_wide 4 Try.f4 rfl rfl rfl rfl rfl rfl rfl ⟨rfl, rfl, rfl, rfl, rfl⟩ rfl rfl rfl rfl rfl (by kernel_rfl) Try.func4 (by kernel_rfl)
    (of_decide_eq_true (by kernel_rfl)) (by unfold Func.isWrapper; first | (rw [if_pos (by decide +kernel)]; kernel_rfl) | (rw [if_neg (by decide +kernel)]; exact ⟨rfl, rfl⟩))
    (fun os started H enc _ => lifted os started H enc)
theorem proved : Rows.ProgSamesSaid := over
#print axioms proved
end Go.Proofs.Ytdjcfjfgdblefaa.progSames
namespace Go.Proofs.Ytdjcfjfgdblefaa
/-- The row, under a short name, for the claim. -/
theorem progSames_holds : Rows.ProgSamesSaid := progSames.proved
end Go.Proofs.Ytdjcfjfgdblefaa
