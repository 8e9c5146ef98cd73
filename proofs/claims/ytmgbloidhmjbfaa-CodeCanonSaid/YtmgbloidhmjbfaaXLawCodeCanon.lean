/- The row 'CodeCanonSaid', out of the walk over plain values. No condition beyond the row's own. -/
import Derived.Test.YtmgbloidhmjbfaaRows
import Derived.Test.YtmgbloidhmjbfaaXCl
import Derived.Test.YtmgbloidhmjbfaaXSc3
namespace Go.Proofs.Ytmgbloidhmjbfaa.codeCanon
open Go Go.Av Go.Sc Go.Sc.Cw Go.RowKit
set_option linter.unusedVariables false
theorem own : ownKnob Try.prog.godebug = none := by kernel_rfl
theorem pars : Try.f9.params.toList = [58] := by kernel_rfl
theorem shape58 : shT Try.prog 8 58 = some [.sl 1 [.i .u8]] := by kernel_rfl
theorem is58 : (match Try.prog.underlying 58 with | some (.struct _) => false | some (.array _ _) => false | _ => true) = true := by kernel_rfl
set_option maxRecDepth 100000 in
theorem lifted (os : Os) (started : os.Started) (H : Type) (enc : TypeId × Value → H) :
    ReturnsInHanded {} Try.checked os 9 .any (Rows.codeCanonSpec.pre6 enc Try.prog Try.f9 Rows.codeCanonRow.domain false) (Rows.codeCanonSpec.post enc Try.prog Try.f9 false true false false) := by
  refine returnsInHanded_of_change_sized (C := Try.checked) own started (by kernel_rfl) Try.func9
    (ChangeSpec.witness6 (enc := enc) (C := Try.checked) false ⟨#[], #[.slice none 0 0], []⟩ 12 (by kernel_rfl) (by kernel_rfl) (by kernel_rfl) (by kernel_rfl)) ?_
  refine law_contract (d := 8) (tb := Try.f9.resultTypes.getD 0 0) (by kernel_rfl) ?_ rfl (by kernel_rfl) (by kernel_rfl) (by kernel_rfl) (by kernel_rfl) (by kernel_rfl) ?_
  · intro ds hd
    rw [pars] at hd
    match ds, hd with
    | [a0], _ => rfl
  · intro al hA W args hn hv
    have hA : FitA Try.prog 8 Try.f9.params.toList al := hA
    rw [pars] at hA
    match al, hA with
    | [x0], hA =>
      obtain ⟨g0, _⟩ := hA
      obtain ⟨p0, rfl, h0⟩ := arg_bytes shape58 is58 g0
      exact law_calls (codeCanon_l p0) W args hn hv
theorem over : Rows.codeCanonRow.holds Try.pinned (OpenSpec.ofChange Rows.codeCanonSpec) :=
  OpenClaim.holds_of_wide 9 Try.f9 rfl rfl rfl rfl rfl rfl rfl ⟨rfl, rfl, rfl, rfl, rfl⟩ rfl rfl rfl rfl rfl (by kernel_rfl) Try.func9 (by kernel_rfl)
    (of_decide_eq_true (by kernel_rfl)) (by unfold Func.isWrapper; first | (rw [if_pos (by decide +kernel)]; kernel_rfl) | (rw [if_neg (by decide +kernel)]; exact ⟨rfl, rfl⟩))
    (fun os started H enc _ => lifted os started H enc)
theorem proved : Rows.CodeCanonSaid := over
#print axioms proved
end Go.Proofs.Ytmgbloidhmjbfaa.codeCanon
namespace Go.Proofs.Ytmgbloidhmjbfaa
/-- The row, under a short name, for the claim. -/
theorem codeCanon_holds : Rows.CodeCanonSaid := codeCanon.proved
end Go.Proofs.Ytmgbloidhmjbfaa
