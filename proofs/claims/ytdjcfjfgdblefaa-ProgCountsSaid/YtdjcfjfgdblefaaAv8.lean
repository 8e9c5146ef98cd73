/- That the walk tells the truth: regions, code, functions. No condition. -/
import Derived.Test.YtdjcfjfgdblefaaAv8e
import Derived.Test.YtdjcfjfgdblefaaAv4d
import Derived.Deep.LoopGhost
set_option linter.constructorNameAsVariable false
namespace Go.Av
open Go Go.RowKit
set_option linter.unusedSimpArgs false
set_option linter.unusedVariables false

theorem resC_region {P : Program} {N id : Nat} {ops : Array Oper} {draw : Bool} {c : ACode} (h : resC P N (.region id ops draw) = some c) : ∃ d os, c = .reg d os := by
  simp only [resC, Option.bind_eq_some_iff] at h
  obtain ⟨os, _, h⟩ := h
  unfold mkReg at h
  split at h
  · split at h
    · cases h; exact ⟨_, _, rfl⟩
    · cases h
  · cases h; exact ⟨_, _, rfl⟩

theorem evG_ok {N : Nat} {e0 : Env} (g0 : Good e0) {D : List Deferred} {σ σ' : AS} {q : Gh} {C : Prop} (h : evG σ q = some (C, σ')) (hC : C) {a : Act} {w : World} (hr : Rel e0 N D σ a w) : Rel e0 N D σ' a w := by
  obtain ⟨fr, hp⟩ := σ
  obtain ⟨e, rfl, hH, g, mv, hf, hN, hD⟩ := hr
  simp only at hH hf
  subst hH
  have put : ∀ (e' : Env), e'.w = e.w → Good e' → Mv e e' → ∀ (t : Nat) (x : RV), VR e' x (a.tmps.getD t undef) → Rel e0 N D ⟨(t, x) :: fr, e'.H⟩ a e.w := fun e' hw g' mv' t x hx => by
    refine ⟨e', hw, rfl, g', mv.trans mv' g0, fun t' => ?_, hN, hD⟩
    by_cases ht : t = t'
    · subst ht; rw [lk, if_pos rfl]; exact hx
    · rw [lk, if_neg ht]; exact mv'.vr (hf t')
  have same : ∀ (e' : Env), e'.w = e.w → Good e' → Mv e e' → Rel e0 N D ⟨fr, e'.H⟩ a e.w := fun e' hw g' mv' => ⟨e', hw, rfl, g', mv.trans mv' g0, fun t' => mv'.vr (hf t'), hN, hD⟩
  cases q with
  | nilT t sz =>
    simp only [evG] at h
    split at h
    · rename_i hnil
      cases h
      have hv := hf t
      rw [hnil] at hv
      have hp := push_ok g e.w (.arr 0 sz []) none rfl rfl rfl (Nat.le_refl _) (fun b _ => rfl) (fun l hl => by cases hl) (fun e' he mv => ⟨by simp, rfl⟩)
      refine put ⟨e.w, e.Im, e.ρ ++ [none], e.H ++ [.arr 0 sz []]⟩ rfl hp.1 hp.2 t (.os e.H.length 0) ?_
      generalize a.tmps.getD t undef = c at hv
      cases vr_v hv with
      | nil p => exact .os (.arr 0 sz []) none (by simp) (by simp [← g.len]) ⟨Nat.le_refl _, fun _ => ⟨rfl, p, rfl⟩⟩ rfl
    · cases h
  | nilC t j sz =>
    simp only [evG] at h
    split at h
    · rename_i o ver r off hpt
      have hv := hf t
      rw [hpt] at hv
      split at h
      · rename_i cs hcs
        split at h
        · rename_i hnil
          cases h
          obtain ⟨p1, _⟩ := hv.ptr g
          obtain ⟨_, l, hl, _⟩ := p1 _ hcs
          have hp := push_ok g e.w (.arr 0 sz []) none rfl rfl rfl (Nat.le_refl _) (fun b _ => rfl) (fun l hl => by cases hl) (fun e' he mv => ⟨by simp, rfl⟩)
          have hlt : o < e.H.length := (List.getElem?_eq_some_iff.1 hcs).1
          have hltr : o < e.ρ.length := (List.getElem?_eq_some_iff.1 hl).1
          have ho2 : (e.H ++ [.arr 0 sz []])[o]? = some (.var cs) := by rw [List.getElem?_append_left hlt]; exact hcs
          have hl2 : (e.ρ ++ [none])[o]? = some (some l) := by rw [List.getElem?_append_left hltr]; exact hl
          have hr := retell (cs' := cs.set (off + j) (.os e.H.length 0)) hp.1 ho2 hl2 (fun k x' hx' => by
            rcases set_get hx' with ⟨rfl, rfl⟩ | ⟨hk, hx'⟩
            · refine .inr ⟨(List.getElem?_eq_some_iff.1 hnil).1, fun c hc => ?_⟩
              obtain ⟨l', hl', hcell⟩ := g.obj o _ _ hcs hl
              cases hl'
              obtain ⟨c0, k1, _, _, k2⟩ := hcell _ _ hnil
              have : e.w.cell? ⟨l.blk, l.off + (off + j), none⟩ = some c := hc
              rw [k1] at this
              cases this
              cases vr_v k2 with
              | nil p => exact .os (.arr 0 sz []) none (by simp) (by simp [← g.len]) ⟨Nat.le_refl _, fun _ => ⟨rfl, p, rfl⟩⟩ rfl
            · exact .inl hx')
          have := same ⟨e.w, e.Im, e.ρ ++ [none], (e.H ++ [AObj.arr 0 sz []]).set o (AObj.var (cs.set (off + j) (.os e.H.length 0)))⟩ rfl hr.1 (hp.2.trans hr.2 g)
          simpa [List.set_append_left _ _ hlt] using this
        · cases h
      · cases h
    · cases h
  | frzT t =>
    simp only [evG] at h
    split at h
    · rename_i o ver hos
      have hv := hf t
      rw [hos] at hv
      split at h
      · rename_i v sz rows ho
        split at h
        · rename_i l hl
          cases h
          subst hC
          rw [rows_plain hl] at ho
          obtain ⟨e', hw', hH', g', mv', hv'⟩ := freeze_one g ho hv
          have := put e' hw' g' mv' t _ (.v hv')
          rw [hH'] at this
          exact this
        · cases h
      · cases h
    · cases h
  | frzC t j =>
    simp only [evG] at h
    split at h
    · rename_i o ver r off hpt
      have hv := hf t
      rw [hpt] at hv
      split at h
      · rename_i cs hcs
        split at h
        · rename_i o' ver' hos
          split at h
          · rename_i v sz rows ho
            split at h
            · rename_i l hl
              cases h
              subst hC
              rw [rows_plain hl] at ho
              obtain ⟨p1, _⟩ := hv.ptr g
              obtain ⟨_, lo, hlo, _⟩ := p1 _ hcs
              obtain ⟨l', hl', hcell⟩ := g.obj o _ _ hcs hlo
              cases hl'
              obtain ⟨c0, k1, _, _, hv0⟩ := hcell _ _ hos
              have hne : o' ≠ o := fun hc => by subst hc; rw [hcs] at ho; cases ho
              obtain ⟨e', hw', hH', g', mv', hv'⟩ := freeze_one g ho hv0
              obtain ⟨ob2, lo2, n1, n2, n3⟩ := mv'.nx o _ _ hcs hlo
              have ho2 : e'.H[o]? = some (.var cs) := by rw [hH', List.getElem?_set_ne hne]; exact hcs
              rw [ho2] at n1
              cases n1
              obtain ⟨rfl, _⟩ := n3
              have hr := retell (cs' := cs.set (off + j) (.v (.sl sz l))) g' ho2 n2 (fun k x' hx' => by
                rcases set_get hx' with ⟨rfl, rfl⟩ | ⟨hk, hx'⟩
                · refine .inr ⟨(List.getElem?_eq_some_iff.1 hos).1, fun c hc => ?_⟩
                  rw [hw', k1] at hc
                  cases hc
                  exact .v hv'
                · exact .inl hx')
              have := same ⟨e'.w, e'.Im, e'.ρ, e'.H.set o (.var (cs.set (off + j) (.v (.sl sz l))))⟩ hw' hr.1 (mv'.trans hr.2 g)
              simpa [hH'] using this
            · cases h
          · cases h
        · cases h
      · cases h
    · cases h

/-- **THE WALK TELLS THE TRUTH.** -/
theorem wpA_ok {P : Program} {rd : Option Nat} {N : Nat} {e0 : Env} (hmx : P.follows .mixedOrders = true) (g0 : Good e0) {D : List Deferred} : ∀ (c : ACode) (cd : Code), resC P N cd = some (strip c) → ∀ (Q : AE → AS → Prop) σ, wpA P rd c Q σ → ∀ a w, Rel e0 N D σ a w → cd.wpIn (FW rd) 0 P (QQ Q e0 N D) a w := by
  intro c
  induction c with
  | skip =>
    intro cd hc Q σ h a w hr
    cases cd <;> try first | (simp [resC, strip, Option.bind_eq_some_iff] at hc; done) | (exfalso; obtain ⟨d, os, he⟩ := resC_region hc; simp [strip] at he; done)
    exact wpIn_skip ⟨σ, h, hr⟩
  | reg b os =>
    intro cd hc Q σ h a w hr
    cases cd <;> try (simp [resC, strip, Option.bind_eq_some_iff] at hc; done)
    rename_i id ops draw
    simp only [resC, Option.bind_eq_some_iff] at hc
    obtain ⟨os', hos, hc⟩ := hc
    cases draw with
    | true =>
      simp only [mkReg, if_true] at hc
      split at hc
      · rename_i hd
        simp only [strip] at hc
        cases hc
        refine wpIn_region_any hmx ?_
        refine evRD_ok (K := Q .normal) g0 hos hd (fun σ a w h1 h2 => ⟨σ, h1, h2⟩) h ?_
        obtain ⟨e, rfl, hH, g, mv, hf, hN, hD⟩ := hr
        have mvd : Mv e ⟨{ e.w with drawn := e.w.drawn + 1 }, e.Im, e.ρ, e.H⟩ := ⟨rfl, rfl, rfl, Nat.le_refl _, fun _ _ _ => rfl, fun _ h => h, fun _ _ => rfl, fun _ h => .inl h, .refl _ _, fun _ h => .inl h⟩
        exact ⟨⟨{ e.w with drawn := e.w.drawn + 1 }, e.Im, e.ρ, e.H⟩, rfl, hH, ⟨g.len, g.inj, g.dis, g.lt, g.imlt, fun o ob lo h1 h2 => (g.obj o ob lo h1 h2).keep (fun l _ => rfl) mvd⟩, mv.trans mvd g0, fun t => mvd.vr (hf t), hN, hD⟩
      · cases hc
    | false =>
      simp only [mkReg, Bool.false_eq_true, if_false, strip] at hc
      cases hc
      refine wpIn_region ?_
      have hm := matched_of (P := P) (N := N) (ops := ops) ops.toList os 0 hos (fun j o ho => by simpa using ho)
      have : List.range ops.size = List.range' 0 ops.toList.length := by rw [List.range_eq_range']; simp
      rw [this]
      exact evR_ok g0 _ _ (Q .normal) (fun σ a w h1 h2 => ⟨σ, h1, h2⟩) hm σ a w h hr
  | seq x y ihx ihy =>
    intro cd hc Q σ h a w hr
    cases cd <;> try first | (simp [resC, strip, Option.bind_eq_some_iff] at hc; done) | (exfalso; obtain ⟨d, os, he⟩ := resC_region hc; simp [strip] at he; done)
    rename_i cx cy
    simp only [resC, strip, Option.bind_eq_some_iff, Option.map_eq_some_iff] at hc
    obtain ⟨x', hx, y', hy, he⟩ := hc
    cases he
    refine wpIn_seq (wpIn_mono (ihx cx hx _ σ h a w hr) ?_)
    intro e a' w' hq
    cases e with
    | normal => obtain ⟨σ', h1, h2⟩ := hq; exact ihy cy hy Q σ' h1 a' w' h2
    | exit id => exact hq
    | ret => exact hq
    | goto l => exact hq.elim
    | panic c => exact hq.elim
    | outgrown => exact hq.elim
  | cond x y z ihy ihz =>
    intro cd hc Q σ h a w hr
    cases cd <;> try first | (simp [resC, strip, Option.bind_eq_some_iff] at hc; done) | (exfalso; obtain ⟨d, os, he⟩ := resC_region hc; simp [strip] at he; done)
    rename_i ox cy cz
    simp only [resC, strip, Option.bind_eq_some_iff, Option.map_eq_some_iff] at hc
    obtain ⟨x', hx, y', hy, z', hz, he⟩ := hc
    cases he
    simp only [wpA] at h
    split at h
    · rename_i t ht
      obtain ⟨e, he, hH, g, mv, hf, hN, hD⟩ := hr
      have hv := reads_ax hf ox _ hx
      rw [ht] at hv
      refine wpIn_cond hv.bool ?_
      cases t with
      | true => exact ihy cy hy Q σ (h.1 rfl) a w ⟨e, he, hH, g, mv, hf, hN, hD⟩
      | false => exact ihz cz hz Q σ (h.2 rfl) a w ⟨e, he, hH, g, mv, hf, hN, hD⟩
    · exact h.elim
  | blk id c ih =>
    intro cd hc Q σ h a w hr
    cases cd <;> try first | (simp [resC, strip, Option.bind_eq_some_iff] at hc; done) | (exfalso; obtain ⟨d, os, he⟩ := resC_region hc; simp [strip] at he; done)
    rename_i id' cc
    simp only [resC, strip, Option.map_eq_some_iff] at hc
    obtain ⟨c', hc', he⟩ := hc
    cases he
    refine wpIn_block (wpIn_mono (ih cc hc' _ σ h a w hr) ?_)
    intro e a' w' hq
    cases e with
    | normal => exact hq
    | exit k =>
      obtain ⟨σ', h1, h2⟩ := hq
      simp only [Exit.inBlock]
      by_cases hk : k = id
      · rw [if_pos hk]; simp only [hk, if_true] at h1; exact ⟨σ', h1, h2⟩
      · rw [if_neg hk]; simp only [hk, if_false] at h1; exact ⟨σ', h1, h2⟩
    | ret => exact hq
    | goto l => exact hq.elim
    | panic c => exact hq.elim
    | outgrown => exact hq.elim
  | loop c ih =>
    intro cd hc Q σ h a w hr
    cases cd <;> try first | (simp [resC, strip, Option.bind_eq_some_iff] at hc; done) | (exfalso; obtain ⟨d, os, he⟩ := resC_region hc; simp [strip] at he; done)
    simp only [resC, strip, Option.map_eq_some_iff] at hc
    obtain ⟨c', hc', he⟩ := hc
    cases he
    exact h N _ hc' e0 g0 D a w hr
  | exit id =>
    intro cd hc Q σ h a w hr
    cases cd <;> try first | (simp [resC, strip, Option.bind_eq_some_iff] at hc; done) | (exfalso; obtain ⟨d, os, he⟩ := resC_region hc; simp [strip] at he; done)
    simp [resC, strip] at hc
    subst hc
    exact wpIn_exit ⟨σ, h, hr⟩
  | ret =>
    intro cd hc Q σ h a w hr
    cases cd <;> try first | (simp [resC, strip, Option.bind_eq_some_iff] at hc; done) | (exfalso; obtain ⟨d, os, he⟩ := resC_region hc; simp [strip] at he; done)
    exact wpIn_ret ⟨σ, h, hr⟩
  | keep l c ih =>
    intro cd hc Q σ h a w hr
    refine ih cd hc Q _ h a w ?_
    obtain ⟨e, he, hH, g, mv, hf, hN, hD⟩ := hr
    exact ⟨e, he, hH, g, mv, fun t => lk_keep (hf t), hN, hD⟩
  | gst q c ih =>
    intro cd hc Q σ h a w hr
    simp only [wpA] at h
    split at h
    · rename_i C σ' hev
      obtain ⟨hC, h⟩ := h
      exact ih cd hc Q _ h a w (evG_ok g0 hev hC hr)
    · exact h.elim
  | fin l c ih =>
    intro cd hc Q σ h a w hr
    refine wpIn_mono (ih cd hc _ σ h a w hr) ?_
    intro e a' w' hq
    cases e with
    | normal =>
      obtain ⟨σ', h1, e, he, hH, g, mv, hf, hN, hD⟩ := hq
      exact ⟨_, h1, e, he, hH, g, mv, fun t => lk_keep (hf t), hN, hD⟩
    | exit id => exact hq
    | ret => exact hq
    | goto l => exact hq.elim
    | panic c => exact hq.elim
    | outgrown => exact hq.elim

/-- **A LOOP**: a family of states, a measure that every round lowers. -/
theorem loop_ok {P : Program} (hmx : P.follows .mixedOrders = true) {rd : Option Nat} {c : ACode} {Q : AE → AS → Prop} {σ : AS} {α : Type} (I : α → AS → Prop) (μ : α → Nat) (x0 : α) (h0 : I x0 σ)
    (round : ∀ x σ, I x σ → wpA P rd c (fun e σ' => match e with | .normal => ∃ x', I x' σ' ∧ μ x' < μ x | .exit id => Q (.exit id) σ' | .ret => Q .ret σ') σ) : LoopK P rd c Q σ := by
  intro N cd hc e0 g0 D a w hr
  refine wpIn_loop (fun a w => ∃ n x σ, μ x = n ∧ I x σ ∧ Rel e0 N D σ a w) (fun a w => Go.leastOf fun n => ∃ x σ, μ x = n ∧ I x σ ∧ Rel e0 N D σ a w) ⟨_, x0, σ, rfl, h0, hr⟩ ?_
  intro a w hI
  obtain ⟨⟨x, σ, hx, hi, hr⟩, _⟩ := Go.leastOf_spec hI
  refine wpIn_mono (wpA_ok hmx g0 c cd hc _ σ (round x σ hi) a w hr) ?_
  intro e a' w' hq
  cases e with
  | normal =>
    obtain ⟨σ', ⟨x', hi', hlt⟩, hr'⟩ := hq
    refine ⟨⟨_, x', σ', rfl, hi', hr'⟩, ?_⟩
    have h2 := (Go.leastOf_spec (p := fun n => ∃ x σ, μ x = n ∧ I x σ ∧ Rel e0 N D σ a' w') ⟨_, x', σ', rfl, hi', hr'⟩).2 _ ⟨x', σ', rfl, hi', hr'⟩
    omega
  | exit id => exact hq
  | ret => exact hq
  | goto l => exact hq.elim
  | panic c => exact hq.elim
  | outgrown => exact hq.elim

end Go.Av
