/- A region that draws its order tells the same in whatever order. No condition. -/
import Derived.Test.YtdjcfjfgdblefaaAv8a
import Derived.OrdersIn
set_option linter.constructorNameAsVariable false
namespace Go.Av
open Go Go.RowKit
set_option linter.unusedSimpArgs false
set_option linter.unusedVariables false

theorem lk_eq {fr fr' : List (Nat × RV)} {x : AX} (h : ∀ t, x = .t t → lk fr t = lk fr' t) : ax fr x = ax fr' x := by
  cases x with
  | t n => exact h n rfl
  | c v => rfl
  | f n => rfl

theorem obls_congr {fr fr' : List (Nat × RV)} : ∀ {l : List AX}, (∀ x ∈ l, ax fr x = ax fr' x) → (obls fr l ↔ obls fr' l)
  | [], _ => Iff.rfl
  | [x], h => by simp [obls, h x (by simp)]
  | x :: y :: l, h => by simp only [obls, h x (by simp)]; rw [obls_congr (fun z hz => h z (by simp at hz; simp [hz]))]

/-- What an operation tells hangs on the slots that it looks at alone. -/
theorem evQ_congr {P : Program} {fr fr' : List (Nat × RV)} {H : List AObj} {o : AO} {K : RV → Prop} (h : ∀ t ∈ o.uses, lk fr t = lk fr' t) (hq : evQ P ⟨fr, H⟩ o K) : evQ P ⟨fr', H⟩ o K := by
  have hx : ∀ x ∈ o.op.xs, ax fr x = ax fr' x := fun x hx => lk_eq (fun t ht => h t (by subst ht; exact List.mem_append_left _ (List.mem_filterMap.2 ⟨_, hx, rfl⟩)))
  have hg : ∀ j w, o.gd = some (j, w) → lk fr j = lk fr' j := fun j w hj => h j (List.mem_append_right _ (by rw [hj]; simp))
  obtain ⟨dst, gd, op⟩ := o
  cases op with
  | pk a b c =>
    simp only [AInst.xs] at hx
    simp only [evQ, evPk] at hq ⊢
    rw [hx a (by simp), hx b (by simp), hx c (by simp)] at hq
    cases gd with
    | none => exact hq
    | some jw => obtain ⟨j, w⟩ := jw; simp only [hg j w rfl] at hq; exact hq
  | q y =>
    simp only [AInst.xs] at hx
    simp only [evQ, evo] at hq ⊢
    cases gd with
    | none => rw [evq_congr hx] at hq; exact hq
    | some jw =>
      obtain ⟨j, w⟩ := jw
      simp only [hg j w rfl, evq_congr (A := fun x => opn (ax fr x)) (B := fun x => opn (ax fr' x)) (fun x h => by rw [hx x h]), obls_congr hx] at hq
      exact hq
  | m y => exact hq.elim
  | call f args =>
    simp only [AInst.xs] at hx
    simp only [evQ] at hq ⊢
    have ha : args.map (ax fr) = args.map (ax fr') := List.map_congr_left (fun x h => hx x (by simp [h]))
    have hb : (args.map fun x => opn (ax fr x)) = args.map fun x => opn (ax fr' x) := List.map_congr_left (fun x h => by rw [hx x (by simp [h])])
    rw [hx f (by simp), ha, hb] at hq
    cases gd with
    | none => exact hq
    | some jw =>
      obtain ⟨j, w⟩ := jw
      have hob : obls fr args ↔ obls fr' args := obls_congr (fun x h => hx x (by simp [h]))
      simp only [hg j w rfl, hob] at hq ⊢
      exact hq

/-- Told alone, it is told of the one result. -/
theorem evQ_get {P : Program} {σ : AS} {o : AO} {K : RV → Prop} (h : evQ P σ o K) : ∃ r, K r ∧ evQ P σ o (fun r' => r' = r) := by
  unfold evQ at h ⊢
  split at h
  · split at h
    · exact ⟨_, h.2, h.1, rfl⟩
    · exact h.elim
  · split at h
    · exact ⟨_, h.2, h.1, rfl⟩
    · exact h.elim
  · exact h.elim
  · split at h
    · obtain ⟨hc, h⟩ := h
      split at h
      · obtain ⟨r, h1, h2⟩ := h; exact ⟨_, h2, hc, r, h1, rfl⟩
      · split at h
        · obtain ⟨r, h1, h2⟩ := h; exact ⟨_, h2, hc, r, h1, rfl⟩
        · exact h.elim
    · exact h.elim

theorem evQ_evR {P : Program} {σ : AS} {o : AO} {r : RV} (h : evQ P σ o (fun r' => r' = r)) : evR P [o] σ (fun σ' => σ' = ⟨upd σ.fr o.dst r, σ.hp⟩) := by
  obtain ⟨dst, gd, op⟩ := o
  cases op with
  | pk a b c =>
    simp only [evQ] at h
    simp only [evR]
    split at h
    · obtain ⟨h1, rfl⟩ := h; exact ⟨h1, rfl⟩
    · exact h.elim
  | q y =>
    simp only [evQ] at h
    simp only [evR]
    split at h
    · obtain ⟨h1, rfl⟩ := h; exact ⟨h1, rfl⟩
    · exact h.elim
  | m y => exact h.elim
  | call f args =>
    simp only [evQ] at h
    simp only [evR, CallK]
    split at h
    · obtain ⟨hc, h⟩ := h
      refine ⟨hc, ?_⟩
      cases gd with
      | none =>
        obtain ⟨r', ⟨xs, hxs, hp⟩, rfl⟩ := h
        simp only
        rw [hxs]
        exact (hp.frame σ.hp).mono fun r'' H' ⟨h1, h2⟩ => by subst h1; subst h2; rfl
      | some jw =>
        obtain ⟨j, w⟩ := jw
        simp only at h ⊢
        split at h
        · obtain ⟨r', h1, rfl⟩ := h; exact ⟨r', h1, rfl⟩
        · exact h.elim
    · exact h.elim

theorem wpOpIn_Q {F : Fence} {n : Nat} {P : Program} {ops : Array Oper} {Q Q' : Exit → Act → World → Prop} {i : Nat} {K : Act → World → Prop} {a : Act} {w : World} (h : ∀ e, e ≠ .normal → ∀ a w, Q e a w → Q' e a w) (hh : wpOpIn F n P ops Q i K a w) : wpOpIn F n P ops Q' i K a w := by
  unfold wpOpIn at *
  split
  · simpa [*] using hh
  · rename_i o ho
    simp only [ho] at hh
    split
    · rename_i hw
      simp only [hw, if_true] at hh
      refine ⟨hh.1, ?_⟩
      have hh := hh.2
      have hl : LetsOut Q → LetsOut Q' := fun ⟨a, w, hq⟩ => ⟨a, w, h _ (by simp) a w hq⟩
      generalize (o.semAt F.round a.eval).run P w = r at *
      cases r with
      | ok x w' =>
        cases x <;> simp only [Oper.uponIn] at hh ⊢ <;>
          first
            | exact hh
            | exact ⟨hh.1, CallsIn.mono hh.2 (fun e w'' he => by cases e <;> first | exact he | exact h _ (by simp) _ _ he | exact hl he)⟩
            | exact ⟨hh.1, RoundIn.mono hh.2 (fun e w'' he => by cases e <;> first | exact he | exact h _ (by simp) _ _ he | exact hl he)⟩
      | halt x w' => cases x <;> simp only [Oper.uponIn] at hh ⊢ <;> first | exact hh | exact h _ (by simp) _ _ hh
    · rename_i hw; simp only [hw] at hh; exact hh

/-- **ONE OPERATION, TAKEN NEXT.** -/
theorem one_ok {P : Program} {rd : Option Nat} {ops : Array Oper} {N : Nat} {D : List Deferred} {e0 : Env} (g0 : Good e0) {Q : Exit → Act → World → Prop} (hQ : ∀ e, e ≠ .normal → ∀ a w, ¬ Q e a w ∨ True)
    {i : Nat} {o : Oper} {q : AO} (ho : ops[i]? = some o) (hres : resAO P N ops o = some q) {σ : AS} {r : RV} (h : evQ P σ q (fun r' => r' = r)) {a : Act} {w : World} (hr : Rel e0 N D σ a w) {K : Act → World → Prop}
    (hK : ∀ a' w', Rel e0 N D ⟨upd σ.fr q.dst r, σ.hp⟩ a' w' → K a' w') : wpOpIn (FW rd) 0 P ops Q i K a w := by
  have := evR_ok (P := P) (rd := rd) (ops := ops) (N := N) (D := D) g0 (Q := fun e a w => match e with | .normal => K a w | _ => False) [i] [q] (fun σ' => σ' = ⟨upd σ.fr q.dst r, σ.hp⟩)
    (fun σ' a' w' h1 h2 => by subst h1; exact hK a' w' h2) ⟨⟨o, ho, hres⟩, trivial⟩ σ a w (evQ_evR h) hr
  rw [wpOpsIn_cons] at this
  refine wpOpIn_Q ?_ this
  intro e he a w hf
  cases e with
  | normal => exact absurd rfl he
  | exit id => exact hf.elim
  | goto l => exact hf.elim
  | ret => exact hf.elim
  | panic c => exact hf.elim
  | outgrown => exact hf.elim

theorem Rel.congr {e0 : Env} {N : Nat} {D : List Deferred} {fr fr' : List (Nat × RV)} {H : List AObj} {a : Act} {w : World} (h : ∀ t, lk fr t = lk fr' t) (hr : Rel e0 N D ⟨fr, H⟩ a w) : Rel e0 N D ⟨fr', H⟩ a w := by
  obtain ⟨e, h1, h2, h3, h4, h5, h6⟩ := hr
  exact ⟨e, h1, h2, h3, h4, fun t => by rw [← h t]; exact h5 t, h6⟩

/-- The frame in which the operations of D, of the first k, have been carried out. -/
def frS (D : Nat → Bool) (os : List AO) (rs : List RV) (fr : List (Nat × RV)) : Nat → List (Nat × RV)
  | 0 => fr
  | k + 1 => if D k then upd (frS D os rs fr k) ((os[k]?).bind (·.dst)) (rs.getD k .any) else frS D os rs fr k

section
variable {D : Nat → Bool} {os : List AO} {rs : List RV} {fr : List (Nat × RV)}
theorem frS_out {t : Nat} : ∀ k, (∀ j, j < k → D j = true → (os[j]?).bind (·.dst) ≠ some t) → lk (frS D os rs fr k) t = lk fr t
  | 0, _ => rfl
  | k + 1, h => by
    have ih := frS_out k (fun j hj => h j (by omega))
    simp only [frS]
    split
    · rename_i hk
      have := h k (by omega) hk
      generalize (os[k]?).bind (·.dst) = d at this
      cases d with
      | none => exact ih
      | some s => simp only [upd, lk]; rw [if_neg (fun hc => this (by rw [hc]))]; exact ih
    · exact ih
theorem frS_in {t j : Nat} : ∀ k, j < k → D j = true → (os[j]?).bind (·.dst) = some t → (∀ j', j' < k → j' ≠ j → (os[j']?).bind (·.dst) ≠ some t) → lk (frS D os rs fr k) t = rs.getD j .any
  | 0, h, _, _, _ => by omega
  | k + 1, hj, hD, hd, hu => by
    simp only [frS]
    by_cases hjk : j = k
    · subst hjk
      rw [if_pos hD, hd]
      simp [upd, lk]
    · have ih := frS_in k (by omega) hD hd (fun j' h1 h2 => hu j' (by omega) h2)
      split
      · have := hu k (by omega) (fun hc => hjk hc.symm)
        generalize (os[k]?).bind (·.dst) = d at this
        cases d with
        | none => exact ih
        | some s => simp only [upd, lk]; rw [if_neg (fun hc => this (by rw [hc]))]; exact ih
      · exact ih
end

theorem evRD_get {P : Program} {K : AS → Prop} {H : List AObj} : ∀ (m : Nat) (os : List AO) (fr : List (Nat × RV)), m ≤ os.length → evRD P m os ⟨fr, H⟩ K →
    ∃ rs : List RV, (∀ i, i < m → ∃ o, os[i]? = some o ∧ evQ P ⟨frS (fun _ => true) os rs fr i, H⟩ o (fun r => r = rs.getD i .any)) ∧ evR P (os.drop m) ⟨frS (fun _ => true) os rs fr m, H⟩ K := by
  intro m
  induction m with
  | zero => intro os fr _ h; exact ⟨[], fun i hi => by omega, h⟩
  | succ m ih =>
    intro os fr hl h
    cases os with
    | nil => simp at hl
    | cons o os =>
      obtain ⟨r, hK, hq⟩ := evQ_get h
      obtain ⟨rs, h1, h2⟩ := ih os _ (by simpa using hl) hK
      have hfr : ∀ k, frS (fun _ => true) (o :: os) (r :: rs) fr (k + 1) = frS (fun _ => true) os rs (upd fr o.dst r) k := by
        intro k
        induction k with
        | zero => simp [frS]
        | succ k ihk => rw [frS, ihk]; simp [frS]
      refine ⟨r :: rs, fun i hi => ?_, by rw [hfr]; exact h2⟩
      cases i with
      | zero => exact ⟨o, rfl, by simpa [frS] using hq⟩
      | succ i =>
        obtain ⟨o', ho', hq'⟩ := h1 i (by omega)
        exact ⟨o', by simpa using ho', by rw [hfr]; simpa using hq'⟩

theorem evR_split {P : Program} {o : AO} {os : List AO} {σ : AS} {K : AS → Prop} (h : evR P (o :: os) σ K) : evR P [o] σ (fun σ' => evR P os σ' K) := h

theorem quiets_le : ∀ os, quiets os ≤ os.length
  | [] => Nat.le_refl _
  | o :: os => by
    have := quiets_le os
    simp only [quiets]
    split
    · omega
    · simp only [List.length_cons]; omega

theorem countP_flip {p p' : Nat → Bool} {n i : Nat} (hi : i < n) (h1 : p i = true) (h2 : p' i = false) (h : ∀ j, j ≠ i → p' j = p j) : (List.range n).countP p' + 1 = (List.range n).countP p := by
  induction n with
  | zero => omega
  | succ n ih =>
    rw [List.range_succ, List.countP_append, List.countP_append]
    by_cases hn : i = n
    · subst hn
      have : (List.range i).countP p' = (List.range i).countP p := List.countP_congr (fun j hj => by rw [h j (by have := List.mem_range.1 hj; omega)])
      simp [this, h1, h2]
    · have := ih (by omega)
      simp [h n (fun hc => hn hc.symm)]
      omega

theorem ready_mem {ops : Array Oper} {L : Array Bool} {i : Nat} : i ∈ Region.ready .any ops L ↔ i < ops.size ∧ L.getD i true = false ∧ ∀ j ∈ waits ops i, L.getD j false = true := by
  unfold Region.ready waits
  simp only [List.mem_filter, List.mem_range, Bool.and_eq_true, Bool.not_eq_true']
  constructor
  · rintro ⟨h1, h2, h3⟩
    refine ⟨h1, h2, fun j hj => ?_⟩
    have ho : ops[i]? = some ops[i] := by simp [h1]
    rw [ho] at h3 hj
    simp only [Option.map_some, Option.getD_some, Array.all_eq_true', Bool.or_eq_true, Bool.not_eq_true'] at h3
    simp only [List.mem_map, List.mem_filter] at hj
    obtain ⟨e, ⟨he, hb⟩, rfl⟩ := hj
    rcases h3 e (by simpa using he) with h | h
    · rw [h] at hb; cases hb
    · exact h
  · rintro ⟨h1, h2, h3⟩
    refine ⟨h1, h2, ?_⟩
    have ho : ops[i]? = some ops[i] := by simp [h1]
    rw [ho] at h3 ⊢
    simp only [Option.map_some, Option.getD_some, Array.all_eq_true', Bool.or_eq_true, Bool.not_eq_true']
    intro e he
    by_cases hb : Region.binds .any e = true
    · exact .inr (h3 e.on (List.mem_map.2 ⟨e, List.mem_filter.2 ⟨by simpa using he, hb⟩, rfl⟩))
    · exact .inl (by simpa using hb)

end Go.Av
