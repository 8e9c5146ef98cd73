/- The row 'CanonOnceSaid', out of the walk over plain values. No condition beyond the row's own. -/
import Derived.Test.YtgipkikbefnokaaRows
import Derived.Test.YtgipkikbefnokaaXCf
import Derived.Test.YtgipkikbefnokaaXSc4
namespace Go.Proofs.Ytgipkikbefnokaa.canonOnce
open Go Go.Av Go.Sc Go.Sc.Or Go.RowKit
set_option linter.unusedVariables false
theorem own : ownKnob Try.prog.godebug = none := by kernel_rfl
theorem pars : Try.f14.params.toList = [22] := by kernel_rfl
theorem shape22 : shT Try.prog 8 22 = some [.sl 208 evSh] := by kernel_rfl
theorem is22 : (match Try.prog.underlying 22 with | some (.struct _) => false | some (.array _ _) => false | _ => true) = true := by kernel_rfl
set_option maxRecDepth 100000 in
theorem lifted (os : Os) (started : os.Started) (H : Type) (enc : TypeId × Value → H) :
    ReturnsInHanded {} Try.checked os 14 .any (Rows.canonOnceSpec.pre6 enc Try.prog Try.f14 Rows.canonOnceRow.domain false) (Rows.canonOnceSpec.post enc Try.prog Try.f14 false true false false) := by
  refine returnsInHanded_of_change_sized (C := Try.checked) own started (by kernel_rfl) Try.func14
    (ChangeSpec.witness6 (enc := enc) (C := Try.checked) false ⟨#[], #[.slice none 0 0], []⟩ 12 (by kernel_rfl) (by kernel_rfl) (by kernel_rfl) (by kernel_rfl)) ?_
  refine law_contract (d := 8) (tb := Try.f14.resultTypes.getD 0 0) (by kernel_rfl) ?_ rfl (by kernel_rfl) (by kernel_rfl) (by kernel_rfl) (by kernel_rfl) (by kernel_rfl) ?_
  · intro ds hd
    rw [pars] at hd
    match ds, hd with
    | [a0], _ => rfl
  · intro al hA W args hn hv
    have hA : FitA Try.prog 8 Try.f14.params.toList al := hA
    rw [pars] at hA
    match al, hA with
    | [x0], hA =>
      obtain ⟨g0, _⟩ := hA
      obtain ⟨p0, rfl, h0⟩ := arg_evs shape22 is22 g0
      exact law_calls (Or.canonOnce p0 h0) W args hn hv
theorem over : Rows.canonOnceRow.holds Try.pinned (OpenSpec.ofChange Rows.canonOnceSpec) :=
  OpenClaim.holds_of_wide 14 Try.f14 rfl rfl rfl rfl rfl rfl rfl ⟨rfl, rfl, rfl, rfl, rfl⟩ rfl rfl rfl rfl rfl (by kernel_rfl) Try.func14 (by kernel_rfl)
    (of_decide_eq_true (by kernel_rfl)) (by unfold Func.isWrapper; first | (rw [if_pos (by decide +kernel)]; kernel_rfl) | (rw [if_neg (by decide +kernel)]; exact ⟨rfl, rfl⟩))
    (fun os started H enc _ => lifted os started H enc)
theorem proved : Rows.CanonOnceSaid := over
#print axioms proved
end Go.Proofs.Ytgipkikbefnokaa.canonOnce
namespace Go.Proofs.Ytgipkikbefnokaa
/-- The row, under a short name, for the claim. -/
theorem canonOnce_holds : Rows.CanonOnceSaid := canonOnce.proved
end Go.Proofs.Ytgipkikbefnokaa
