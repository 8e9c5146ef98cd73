/- The row 'CodeSpotsSaid', out of the walk over plain values. No condition beyond the row's own. -/
import Derived.Test.YtmgbloidhmjbfaaRows
import Derived.Test.YtmgbloidhmjbfaaXRrG
import Derived.Test.YtmgbloidhmjbfaaXSc3
namespace Go.Proofs.Ytmgbloidhmjbfaa.codeSpots
open Go Go.Av Go.Sc Go.Sc.Cw Go.RowKit
set_option linter.unusedVariables false
theorem own : ownKnob Try.prog.godebug = none := by kernel_rfl
theorem pars : Try.f12.params.toList = [58, 3] := by kernel_rfl
theorem shape3 : shT Try.prog 8 3 = some [iSh] := by kernel_rfl
theorem is3 : (match Try.prog.underlying 3 with | some (.int _) => true | _ => false) = true := by kernel_rfl
theorem shape58 : shT Try.prog 8 58 = some [.sl 1 [.i .u8]] := by kernel_rfl
theorem is58 : (match Try.prog.underlying 58 with | some (.struct _) => false | some (.array _ _) => false | _ => true) = true := by kernel_rfl
set_option maxRecDepth 100000 in
theorem lifted (os : Os) (started : os.Started) (H : Type) (enc : TypeId × Value → H) :
    ReturnsInHanded {} Try.checked os 12 .any (Rows.codeSpotsSpec.pre6 enc Try.prog Try.f12 Rows.codeSpotsRow.domain false) (Rows.codeSpotsSpec.post enc Try.prog Try.f12 false true false false) := by
  refine returnsInHanded_of_change_sized (C := Try.checked) own started (by kernel_rfl) Try.func12
    (ChangeSpec.witness6 (enc := enc) (C := Try.checked) false ⟨#[], #[.slice none 0 0, .int .i64 0], []⟩ 12 (by kernel_rfl) (by kernel_rfl) (by kernel_rfl) (by kernel_rfl)) ?_
  refine law_contract (d := 8) (tb := Try.f12.resultTypes.getD 0 0) (by kernel_rfl) ?_ rfl (by kernel_rfl) (by kernel_rfl) (by kernel_rfl) (by kernel_rfl) (by kernel_rfl) ?_
  · intro ds hd
    rw [pars] at hd
    match ds, hd with
    | [a0, a1], _ => rfl
  · intro al hA W args hn hv
    have hA : FitA Try.prog 8 Try.f12.params.toList al := hA
    rw [pars] at hA
    match al, hA with
    | [x0, x1], hA =>
      obtain ⟨g0, g1, _⟩ := hA
      obtain ⟨p0, rfl, h0⟩ := arg_bytes shape58 is58 g0
      obtain ⟨p1, rfl, h1⟩ := arg_int shape3 is3 g1
      exact law_calls (codeSpots_l p0 p1 h1) W args hn hv
theorem over : Rows.codeSpotsRow.holds Try.pinned (OpenSpec.ofChange Rows.codeSpotsSpec) :=
  OpenClaim.holds_of_wide 12 Try.f12 rfl rfl rfl rfl rfl rfl rfl ⟨rfl, rfl, rfl, rfl, rfl⟩ rfl rfl rfl rfl rfl (by kernel_rfl) Try.func12 (by kernel_rfl)
    (of_decide_eq_true (by kernel_rfl)) (by unfold Func.isWrapper; first | (rw [if_pos (by decide +kernel)]; kernel_rfl) | (rw [if_neg (by decide +kernel)]; exact ⟨rfl, rfl⟩))
    (fun os started H enc _ => lifted os started H enc)
theorem proved : Rows.CodeSpotsSaid := over
#print axioms proved
end Go.Proofs.Ytmgbloidhmjbfaa.codeSpots
namespace Go.Proofs.Ytmgbloidhmjbfaa
/-- The row, under a short name, for the claim. -/
theorem codeSpots_holds : Rows.CodeSpotsSaid := codeSpots.proved
end Go.Proofs.Ytmgbloidhmjbfaa
