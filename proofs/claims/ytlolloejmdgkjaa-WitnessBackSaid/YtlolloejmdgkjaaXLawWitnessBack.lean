/- The row 'WitnessBackSaid', out of the walk over plain values. No condition beyond the row's own. -/
import Derived.Test.YtlolloejmdgkjaaRows
import Derived.Test.YtlolloejmdgkjaaXWiG
import Derived.Test.YtlolloejmdgkjaaXSc3
namespace Go.Proofs.Ytlolloejmdgkjaa.witnessBack
open Go Go.Av Go.Sc Go.Sc.Cw Go.Sc.Wi Go.RowKit
set_option linter.unusedVariables false
theorem own : ownKnob Try.prog.godebug = none := by kernel_rfl
theorem pars : Try.f6.params.toList = [33, 34] := by kernel_rfl
theorem shape33 : shT Try.prog 8 33 = some witSh := by kernel_rfl
theorem is33 : (match Try.prog.underlying 33 with | some (.struct _) => true | _ => false) = true := by kernel_rfl
theorem shape34 : shT Try.prog 8 34 = some [.sl 1 [.i .u8]] := by kernel_rfl
theorem is34 : (match Try.prog.underlying 34 with | some (.struct _) => false | some (.array _ _) => false | _ => true) = true := by kernel_rfl
set_option maxRecDepth 100000 in
theorem lifted (os : Os) (started : os.Started) (H : Type) (enc : TypeId × Value → H) :
    ReturnsInHanded {} Try.checked os 6 .any (Rows.witnessBackSpec.pre6 enc Try.prog Try.f6 Rows.witnessBackRow.domain false) (Rows.witnessBackSpec.post enc Try.prog Try.f6 false true false false) := by
  refine returnsInHanded_of_change_sized (C := Try.checked) own started (by kernel_rfl) Try.func6
    (ChangeSpec.witness6 (enc := enc) (C := Try.checked) false ⟨#[], #[.agg #[.int .u32 0, .int .i64 0, .int .i64 0, .int .i64 0, .int .i64 0, .int .i64 0, .int .i64 0, .int .i64 0, .slice none 0 0, .int .i64 0, .int .i64 0, .int .i64 0], .slice none 0 0], []⟩ 12 (by kernel_rfl) (by kernel_rfl) (by kernel_rfl) (by kernel_rfl)) ?_
  refine law_contract (d := 8) (tb := Try.f6.resultTypes.getD 0 0) (by kernel_rfl) ?_ rfl (by kernel_rfl) (by kernel_rfl) (by kernel_rfl) (by kernel_rfl) (by kernel_rfl) ?_
  · intro ds hd
    rw [pars] at hd
    match ds, hd with
    | [a0, a1], _ => rfl
  · intro al hA W args hn hv
    have hA : FitA Try.prog 8 Try.f6.params.toList al := hA
    rw [pars] at hA
    match al, hA with
    | [x0, x1], hA =>
      obtain ⟨g0, g1, _⟩ := hA
      obtain ⟨p0, rfl, h0⟩ := arg_wit shape33 is33 g0
      obtain ⟨p1, rfl, h1⟩ := arg_bytes shape34 is34 g1
      exact law_calls (back_l p0 h0 p1) W args hn hv
theorem over : Rows.witnessBackRow.holds Try.pinned (OpenSpec.ofChange Rows.witnessBackSpec) :=
  OpenClaim.holds_of_wide 6 Try.f6 rfl rfl rfl rfl rfl rfl rfl ⟨rfl, rfl, rfl, rfl, rfl⟩ rfl rfl rfl rfl rfl (by kernel_rfl) Try.func6 (by kernel_rfl)
    (of_decide_eq_true (by kernel_rfl)) (by unfold Func.isWrapper; first | (rw [if_pos (by decide +kernel)]; kernel_rfl) | (rw [if_neg (by decide +kernel)]; exact ⟨rfl, rfl⟩))
    (fun os started H enc _ => lifted os started H enc)
theorem proved : Rows.WitnessBackSaid := over
#print axioms proved
end Go.Proofs.Ytlolloejmdgkjaa.witnessBack
namespace Go.Proofs.Ytlolloejmdgkjaa
/-- The row, under a short name, for the claim. -/
theorem witnessBack_holds : Rows.WitnessBackSaid := witnessBack.proved
end Go.Proofs.Ytlolloejmdgkjaa
