/- That the walk tells the truth: regions, code, functions. No condition. -/
import Derived.Test.YtlolloejmdgkjaaAv8e
import Derived.Deep.LoopGhost
set_option linter.constructorNameAsVariable false
namespace Go.Av
open Go Go.RowKit
set_option linter.unusedSimpArgs false
set_option linter.unusedVariables false

theorem resC_region {P : Program} {N id : Nat} {ops : Array Oper} {draw : Bool} {c : ACode} (h : resC P N (.region id ops draw) = some c) : ∃ d os, c = .reg d os := by
  simp only [resC, Option.bind_eq_some_iff] at h
  obtain ⟨os, _, h⟩ := h
  unfold mkReg at h
  split at h
  · split at h
    · cases h; exact ⟨_, _, rfl⟩
    · cases h
  · cases h; exact ⟨_, _, rfl⟩

/-- **THE WALK TELLS THE TRUTH.** -/
theorem wpA_ok {P : Program} {rd : Option Nat} {N : Nat} {e0 : Env} (hmx : P.follows .mixedOrders = true) (g0 : Good e0) {D : List Deferred} : ∀ (c : ACode) (cd : Code), resC P N cd = some (strip c) → ∀ (Q : AE → AS → Prop) σ, wpA P rd c Q σ → ∀ a w, Rel e0 N D σ a w → cd.wpIn (FW rd) 0 P (QQ Q e0 N D) a w := by
  intro c
  induction c with
  | skip =>
    intro cd hc Q σ h a w hr
    cases cd <;> try first | (simp [resC, strip, Option.bind_eq_some_iff] at hc; done) | (exfalso; obtain ⟨d, os, he⟩ := resC_region hc; simp [strip] at he; done)
    exact wpIn_skip ⟨σ, h, hr⟩
  | reg b os =>
    intro cd hc Q σ h a w hr
    cases cd <;> try (simp [resC, strip, Option.bind_eq_some_iff] at hc; done)
    rename_i id ops draw
    simp only [resC, Option.bind_eq_some_iff] at hc
    obtain ⟨os', hos, hc⟩ := hc
    cases draw with
    | true =>
      simp only [mkReg, if_true] at hc
      split at hc
      · rename_i hd
        simp only [strip] at hc
        cases hc
        refine wpIn_region_any hmx ?_
        refine evRD_ok (K := Q .normal) g0 hos hd (fun σ a w h1 h2 => ⟨σ, h1, h2⟩) h ?_
        obtain ⟨e, rfl, hH, g, mv, hf, hN, hD⟩ := hr
        have mvd : Mv e ⟨{ e.w with drawn := e.w.drawn + 1 }, e.Im, e.ρ, e.H⟩ := ⟨rfl, rfl, rfl, Nat.le_refl _, fun _ _ _ => rfl, fun _ h => h, fun _ _ => rfl, fun _ h => .inl h, .refl _ _, fun _ h => .inl h⟩
        exact ⟨⟨{ e.w with drawn := e.w.drawn + 1 }, e.Im, e.ρ, e.H⟩, rfl, hH, ⟨g.len, g.inj, g.dis, g.lt, g.imlt, fun o ob lo h1 h2 => (g.obj o ob lo h1 h2).keep (fun l _ => rfl) mvd⟩, mv.trans mvd g0, fun t => mvd.vr (hf t), hN, hD⟩
      · cases hc
    | false =>
      simp only [mkReg, Bool.false_eq_true, if_false, strip] at hc
      cases hc
      refine wpIn_region ?_
      have hm := matched_of (P := P) (N := N) (ops := ops) ops.toList os 0 hos (fun j o ho => by simpa using ho)
      have : List.range ops.size = List.range' 0 ops.toList.length := by rw [List.range_eq_range']; simp
      rw [this]
      exact evR_ok g0 _ _ (Q .normal) (fun σ a w h1 h2 => ⟨σ, h1, h2⟩) hm σ a w h hr
  | seq x y ihx ihy =>
    intro cd hc Q σ h a w hr
    cases cd <;> try first | (simp [resC, strip, Option.bind_eq_some_iff] at hc; done) | (exfalso; obtain ⟨d, os, he⟩ := resC_region hc; simp [strip] at he; done)
    rename_i cx cy
    simp only [resC, strip, Option.bind_eq_some_iff, Option.map_eq_some_iff] at hc
    obtain ⟨x', hx, y', hy, he⟩ := hc
    cases he
    refine wpIn_seq (wpIn_mono (ihx cx hx _ σ h a w hr) ?_)
    intro e a' w' hq
    cases e with
    | normal => obtain ⟨σ', h1, h2⟩ := hq; exact ihy cy hy Q σ' h1 a' w' h2
    | exit id => exact hq
    | ret => exact hq
    | goto l => exact hq.elim
    | panic c => exact hq.elim
    | outgrown => exact hq.elim
  | cond x y z ihy ihz =>
    intro cd hc Q σ h a w hr
    cases cd <;> try first | (simp [resC, strip, Option.bind_eq_some_iff] at hc; done) | (exfalso; obtain ⟨d, os, he⟩ := resC_region hc; simp [strip] at he; done)
    rename_i ox cy cz
    simp only [resC, strip, Option.bind_eq_some_iff, Option.map_eq_some_iff] at hc
    obtain ⟨x', hx, y', hy, z', hz, he⟩ := hc
    cases he
    simp only [wpA] at h
    split at h
    · rename_i t ht
      obtain ⟨e, he, hH, g, mv, hf, hN, hD⟩ := hr
      have hv := reads_ax hf ox _ hx
      rw [ht] at hv
      refine wpIn_cond hv.bool ?_
      cases t with
      | true => exact ihy cy hy Q σ (h.1 rfl) a w ⟨e, he, hH, g, mv, hf, hN, hD⟩
      | false => exact ihz cz hz Q σ (h.2 rfl) a w ⟨e, he, hH, g, mv, hf, hN, hD⟩
    · exact h.elim
  | blk id c ih =>
    intro cd hc Q σ h a w hr
    cases cd <;> try first | (simp [resC, strip, Option.bind_eq_some_iff] at hc; done) | (exfalso; obtain ⟨d, os, he⟩ := resC_region hc; simp [strip] at he; done)
    rename_i id' cc
    simp only [resC, strip, Option.map_eq_some_iff] at hc
    obtain ⟨c', hc', he⟩ := hc
    cases he
    refine wpIn_block (wpIn_mono (ih cc hc' _ σ h a w hr) ?_)
    intro e a' w' hq
    cases e with
    | normal => exact hq
    | exit k =>
      obtain ⟨σ', h1, h2⟩ := hq
      simp only [Exit.inBlock]
      by_cases hk : k = id
      · rw [if_pos hk]; simp only [hk, if_true] at h1; exact ⟨σ', h1, h2⟩
      · rw [if_neg hk]; simp only [hk, if_false] at h1; exact ⟨σ', h1, h2⟩
    | ret => exact hq
    | goto l => exact hq.elim
    | panic c => exact hq.elim
    | outgrown => exact hq.elim
  | loop c ih =>
    intro cd hc Q σ h a w hr
    cases cd <;> try first | (simp [resC, strip, Option.bind_eq_some_iff] at hc; done) | (exfalso; obtain ⟨d, os, he⟩ := resC_region hc; simp [strip] at he; done)
    simp only [resC, strip, Option.map_eq_some_iff] at hc
    obtain ⟨c', hc', he⟩ := hc
    cases he
    exact h N _ hc' e0 g0 D a w hr
  | exit id =>
    intro cd hc Q σ h a w hr
    cases cd <;> try first | (simp [resC, strip, Option.bind_eq_some_iff] at hc; done) | (exfalso; obtain ⟨d, os, he⟩ := resC_region hc; simp [strip] at he; done)
    simp [resC, strip] at hc
    subst hc
    exact wpIn_exit ⟨σ, h, hr⟩
  | ret =>
    intro cd hc Q σ h a w hr
    cases cd <;> try first | (simp [resC, strip, Option.bind_eq_some_iff] at hc; done) | (exfalso; obtain ⟨d, os, he⟩ := resC_region hc; simp [strip] at he; done)
    exact wpIn_ret ⟨σ, h, hr⟩
  | keep l c ih =>
    intro cd hc Q σ h a w hr
    refine ih cd hc Q _ h a w ?_
    obtain ⟨e, he, hH, g, mv, hf, hN, hD⟩ := hr
    exact ⟨e, he, hH, g, mv, fun t => lk_keep (hf t), hN, hD⟩
  | fin l c ih =>
    intro cd hc Q σ h a w hr
    refine wpIn_mono (ih cd hc _ σ h a w hr) ?_
    intro e a' w' hq
    cases e with
    | normal =>
      obtain ⟨σ', h1, e, he, hH, g, mv, hf, hN, hD⟩ := hq
      exact ⟨_, h1, e, he, hH, g, mv, fun t => lk_keep (hf t), hN, hD⟩
    | exit id => exact hq
    | ret => exact hq
    | goto l => exact hq.elim
    | panic c => exact hq.elim
    | outgrown => exact hq.elim

/-- **A LOOP**: a family of states, a measure that every round lowers. -/
theorem loop_ok {P : Program} (hmx : P.follows .mixedOrders = true) {rd : Option Nat} {c : ACode} {Q : AE → AS → Prop} {σ : AS} {α : Type} (I : α → AS → Prop) (μ : α → Nat) (x0 : α) (h0 : I x0 σ)
    (round : ∀ x σ, I x σ → wpA P rd c (fun e σ' => match e with | .normal => ∃ x', I x' σ' ∧ μ x' < μ x | .exit id => Q (.exit id) σ' | .ret => Q .ret σ') σ) : LoopK P rd c Q σ := by
  intro N cd hc e0 g0 D a w hr
  refine wpIn_loop (fun a w => ∃ n x σ, μ x = n ∧ I x σ ∧ Rel e0 N D σ a w) (fun a w => Go.leastOf fun n => ∃ x σ, μ x = n ∧ I x σ ∧ Rel e0 N D σ a w) ⟨_, x0, σ, rfl, h0, hr⟩ ?_
  intro a w hI
  obtain ⟨⟨x, σ, hx, hi, hr⟩, _⟩ := Go.leastOf_spec hI
  refine wpIn_mono (wpA_ok hmx g0 c cd hc _ σ (round x σ hi) a w hr) ?_
  intro e a' w' hq
  cases e with
  | normal =>
    obtain ⟨σ', ⟨x', hi', hlt⟩, hr'⟩ := hq
    refine ⟨⟨_, x', σ', rfl, hi', hr'⟩, ?_⟩
    have h2 := (Go.leastOf_spec (p := fun n => ∃ x σ, μ x = n ∧ I x σ ∧ Rel e0 N D σ a' w') ⟨_, x', σ', rfl, hi', hr'⟩).2 _ ⟨x', σ', rfl, hi', hr'⟩
    omega
  | exit id => exact hq
  | ret => exact hq
  | goto l => exact hq.elim
  | panic c => exact hq.elim
  | outgrown => exact hq.elim

end Go.Av
