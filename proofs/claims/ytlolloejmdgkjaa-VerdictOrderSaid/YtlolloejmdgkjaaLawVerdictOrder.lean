/- The row 'VerdictOrderSaid', out of the printed walk and what its functions answer. No condition beyond the row's own. -/
import Derived.Test.YtlolloejmdgkjaaRows
import Derived.Test.YtlolloejmdgkjaaPureVerdictOrder
import Derived.Test.YtlolloejmdgkjaaAv11
namespace Go.Proofs.Ytlolloejmdgkjaa.verdictOrder
open Go Go.Av Go.RowKit
set_option linter.unusedVariables false
theorem own : ownKnob Try.prog.godebug = none := by kernel_rfl

theorem fit_ints : ∀ (n : Nat) (xs : List AV), FitL (List.replicate n (.i .i64)) xs → ∃ ns : List Int, ns.length = n ∧ xs = ns.map (.i .i64)
  | 0, [], _ => ⟨[], rfl, rfl⟩
  | 0, _ :: _, h => by simp [FitL] at h
  | n + 1, [], h => by simp [FitL, List.replicate_succ] at h
  | n + 1, x :: xs, h => by
    rw [List.replicate_succ] at h
    simp only [FitL, Fit] at h
    obtain ⟨⟨k, rfl, _⟩, h⟩ := h
    obtain ⟨ns, h1, rfl⟩ := fit_ints n xs h
    exact ⟨k :: ns, by simp [h1], rfl⟩

theorem vi_ints {w : World} {Im : Nat → Prop} (ns : List Int) (v : Value) (h : VI w Im (.g (ns.map (.i .i64))) v) : v = .agg (ns.map (Value.int .i64)).toArray := by
  cases h with
  | g cs vs hn h1 h =>
    congr 1
    apply Array.ext
    · simpa using hn
    · intro j hj1 hj2
      have hj : j < ns.length := by simpa using hj2
      have := h j (.i .i64 ns[j]) vs[j] (by simp [hj]) (by simp [hj1])
      cases hv : vs[j] with
      | int k n => rw [hv] at this; cases this; simp
      | _ => rw [hv] at this; cases this

theorem seven (ns : List Int) (h : ns.length = 7) : ∃ a b c d e f g, ns = [a, b, c, d, e, f, g] := by
  match ns, h with
  | [a, b, c, d, e, f, g], _ => exact ⟨a, b, c, d, e, f, g, rfl⟩

theorem shape : shT Try.prog 4 (Try.f3.params.toList.headD 0) = some (List.replicate 7 (.i .i64)) := by kernel_rfl
theorem pars : Try.f3.params.toList = [Try.f3.params.toList.headD 0, Try.f3.params.toList.headD 0, Try.f3.params.toList.headD 0] := by kernel_rfl
theorem isS : (match Try.prog.underlying (Try.f3.params.toList.headD 0) with | some (.struct _) => true | _ => false) = true := by kernel_rfl

theorem arg_is (a : AV) (h : ∃ sh xs, shT Try.prog 4 (Try.f3.params.toList.headD 0) = some sh ∧ FitL sh xs ∧ a = argV Try.prog (Try.f3.params.toList.headD 0) xs) : ∃ a0 a1 a2 a3 a4 a5 a6 : Int, a = .g ([a0, a1, a2, a3, a4, a5, a6].map (.i .i64)) := by
  obtain ⟨sh, xs, h1, h2, h3⟩ := h
  rw [shape] at h1
  cases h1
  obtain ⟨ns, hn, rfl⟩ := fit_ints _ _ h2
  obtain ⟨a0, a1, a2, a3, a4, a5, a6, rfl⟩ := seven ns hn
  refine ⟨a0, a1, a2, a3, a4, a5, a6, ?_⟩
  rw [h3, argV]
  have := isS
  split at this
  · rename_i h; rw [h]
  · cases this

set_option maxRecDepth 100000 in
theorem lifted (os : Os) (started : os.Started) (H : Type) (enc : TypeId × Value → H) :
    ReturnsInHanded {} Try.checked os 3 .any (Rows.verdictOrderSpec.pre6 enc Try.prog Try.f3 Rows.verdictOrderRow.domain false) (Rows.verdictOrderSpec.post enc Try.prog Try.f3 false true false false) := by
  refine returnsInHanded_of_change_sized (C := Try.checked) own started (by kernel_rfl) Try.func3
    (ChangeSpec.witness6 (enc := enc) (C := Try.checked) false ⟨#[], #[.agg #[.int .i64 0, .int .i64 0, .int .i64 0, .int .i64 0, .int .i64 0, .int .i64 0, .int .i64 0], .agg #[.int .i64 0, .int .i64 0, .int .i64 0, .int .i64 0, .int .i64 0, .int .i64 0, .int .i64 0], .agg #[.int .i64 0, .int .i64 0, .int .i64 0, .int .i64 0, .int .i64 0, .int .i64 0, .int .i64 0]], []⟩ 8 (by kernel_rfl) (by kernel_rfl) (by kernel_rfl) (by kernel_rfl)) ?_
  refine law_contract (d := 4) (tb := Try.f3.resultTypes.getD 0 0) (by kernel_rfl) ?_ rfl (by kernel_rfl) (by kernel_rfl) (by kernel_rfl) (by kernel_rfl) (by kernel_rfl) ?_
  · intro ds hd
    rw [pars] at hd
    match ds, hd with
    | [a, b, c], _ => rfl
  · intro al hA W args hn hv
    have hA : FitA Try.prog 4 Try.f3.params.toList al := hA
    rw [pars] at hA
    match al, hA with
    | [x, y, z], hA =>
      obtain ⟨hx, hy, hz, _⟩ := hA
      obtain ⟨a0, a1, a2, a3, a4, a5, a6, rfl⟩ := arg_is _ hx
      obtain ⟨b0, b1, b2, b3, b4, b5, b6, rfl⟩ := arg_is _ hy
      obtain ⟨c0, c1, c2, c3, c4, c5, c6, rfl⟩ := arg_is _ hz
      obtain ⟨l⟩ := args
      match l, hn with
      | [u, v, t], _ =>
        have h0 := vi_ints _ _ (hv 0 _ u rfl (by simp))
        have h1 := vi_ints _ _ (hv 1 _ v rfl (by simp))
        have h2 := vi_ints _ _ (hv 2 _ t rfl (by simp))
        subst h0 h1 h2
        exact PVerdictOrder.scarablaw23_VerdictOrder.calls 8 a0 a1 a2 a3 a4 a5 a6 b0 b1 b2 b3 b4 b5 b6 c0 c1 c2 c3 c4 c5 c6 true W (PureVerdictOrder.law ..)
theorem over : Rows.verdictOrderRow.holds Try.pinned (OpenSpec.ofChange Rows.verdictOrderSpec) :=
  OpenClaim.holds_of_wide 3 Try.f3 rfl rfl rfl rfl rfl rfl rfl ⟨rfl, rfl, rfl, rfl, rfl⟩ rfl rfl rfl rfl rfl (by kernel_rfl) Try.func3 (by kernel_rfl)
    (of_decide_eq_true (by kernel_rfl)) (by unfold Func.isWrapper; first | (rw [if_pos (by decide +kernel)]; kernel_rfl) | (rw [if_neg (by decide +kernel)]; exact ⟨rfl, rfl⟩))
    (fun os started H enc _ => lifted os started H enc)
theorem proved : Rows.VerdictOrderSaid := over
#print axioms proved
end Go.Proofs.Ytlolloejmdgkjaa.verdictOrder
namespace Go.Proofs.Ytlolloejmdgkjaa
/-- The row, under a short name, for the claim. -/
theorem verdictOrder_holds : Rows.VerdictOrderSaid := verdictOrder.proved
end Go.Proofs.Ytlolloejmdgkjaa
