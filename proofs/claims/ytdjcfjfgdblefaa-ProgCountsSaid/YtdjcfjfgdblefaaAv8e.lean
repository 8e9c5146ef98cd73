/- A region that draws its order: the whole. No condition. -/
import Derived.Test.YtdjcfjfgdblefaaAv8d
set_option linter.constructorNameAsVariable false
namespace Go.Av
open Go Go.RowKit
set_option linter.unusedSimpArgs false
set_option linter.unusedVariables false

/-- What drawsOk says. -/
theorem drawsOk_ok {ops : Array Oper} {os : List AO} (h : drawsOk ops os = true) (hlen : os.length = ops.size) :
    (∀ i, i < ops.size → ∀ j ∈ waits ops i, j < i) ∧
    (∀ i, i < quiets os → ∀ o, os[i]? = some o → ∀ j, j < ops.size → ∀ d, (os[j]?).bind (·.dst) = some d → d ∈ o.uses → (j < i → j ∈ waits ops i) ∧ (i < j → i ∈ waits ops j)) ∧
    (∀ i j, i < quiets os → j < quiets os → i ≠ j → ∀ d, (os[j]?).bind (·.dst) = some d → (os[i]?).bind (·.dst) ≠ some d) ∧
    (∀ i, quiets os ≤ i → i < ops.size → ∀ j, j < i → j ∈ waits ops i) := by
  have hq := quiets_le os
  simp only [drawsOk, List.all_eq_true, List.mem_range, Bool.and_eq_true, decide_eq_true_eq] at h
  refine ⟨fun i hi j hj => ?_, fun i hi o ho j hj d hd hu => ?_, fun i j hi hj hij d hd hc => ?_, fun i hi hin j hj => ?_⟩
  · exact (h i hi).1 j hj
  · have h2 := (h i (by omega)).2
    rw [if_pos hi, ho] at h2
    simp only [List.all_eq_true, List.mem_range] at h2
    have h3 := h2 j hj
    rw [hd] at h3
    simp only [Bool.and_eq_true] at h3
    have h4 := h3.1
    rw [if_pos (by simpa using hu)] at h4
    refine ⟨fun hlt => ?_, fun hlt => ?_⟩
    · rw [if_pos hlt] at h4; simpa using h4
    · rw [if_neg (by omega), if_pos hlt] at h4; simpa using h4
  · have h2 := (h i (by omega)).2
    have hil : i < os.length := by omega
    rw [if_pos hi, List.getElem?_eq_getElem hil] at h2
    simp only [List.all_eq_true, List.mem_range] at h2
    have h3 := h2 j (by omega)
    rw [hd] at h3
    simp only [Bool.and_eq_true] at h3
    have h4 := h3.2
    rw [if_pos (by simp; omega)] at h4
    simp only [Bool.or_eq_true, decide_eq_true_eq] at h4
    rcases h4 with h4 | h4
    · rw [List.getElem?_eq_getElem hil] at hc
      simp only [Option.bind_some] at hc
      rw [hc] at h4; simp at h4
    · omega
  · have h2 := (h i hin).2
    rw [if_neg (by omega)] at h2
    simp only [List.all_eq_true, List.mem_range] at h2
    simpa using h2 j hj

theorem matched_at {P : Program} {N : Nat} {ops : Array Oper} {os : List AO} (h : ops.toList.mapM (resAO P N ops) = some os) : os.length = ops.size ∧ ∀ (i : Nat) q, os[i]? = some q → ∃ o, ops[i]? = some o ∧ resAO P N ops o = some q := by
  obtain ⟨h1, h2⟩ := mapM_get h
  refine ⟨by simpa using h1, fun i q hq => ?_⟩
  have hi : i < ops.size := by
    have := (List.getElem?_eq_some_iff.1 hq).1
    rw [h1] at this; simpa using this
  refine ⟨ops[i], by simp [hi], h2 i ops[i] q (by simp [hi]) hq⟩

theorem evRD_ok {P : Program} {rd : Option Nat} {ops : Array Oper} {N : Nat} {D : List Deferred} {e0 : Env} (g0 : Good e0) {Q : Exit → Act → World → Prop} {os : List AO} (hos : ops.toList.mapM (resAO P N ops) = some os) (hd : drawsOk ops os = true)
    {K : AS → Prop} (hK : ∀ σ a w, K σ → Rel e0 N D σ a w → Q .normal a w) {fr : List (Nat × RV)} {H : List AObj} (hev : evRD P (quiets os) os ⟨fr, H⟩ K) {a : Act} {w : World} (hr : Rel e0 N D ⟨fr, H⟩ a w) :
    wpAnyIn (FW rd) 0 P .any ops Q ops.size (Array.replicate ops.size false) a w := by
  obtain ⟨hlen, hat⟩ := matched_at hos
  obtain ⟨d1, d2, d3, d4⟩ := drawsOk_ok hd hlen
  have hq := quiets_le os
  obtain ⟨rs, hrs, htail⟩ := evRD_get _ _ _ hq hev
  let m := quiets os
  have hm : m = quiets os := rfl
  rw [← hm] at d2 d3 d4 hrs htail hq
  -- the state of the machine when the operations of L are done
  let S : Array Bool → Act → World → Prop := fun L a w =>
    ((∀ i, m ≤ i → i < ops.size → L.getD i false = false) ∧ Rel e0 N D ⟨frS (fun j => L.getD j false) os rs fr m, H⟩ a w) ∨
    (∃ k, m ≤ k ∧ k ≤ ops.size ∧ (∀ j, j < ops.size → (L.getD j false = true ↔ j < k)) ∧ ∃ σ, evR P (os.drop k) σ K ∧ Rel e0 N D σ a w)
  have uniq : ∀ {i j : Nat} {t : Nat}, i < m → j < m → (os[i]?).bind (·.dst) = some t → (os[j]?).bind (·.dst) = some t → i = j := fun {i j t} hi hj h1 h2 => by
    by_cases h : i = j
    · exact h
    · exact absurd h1 (d3 i j hi hj h t h2)
  -- all of the first m done: the frame is the text's own
  have allm : ∀ (L : Array Bool), (∀ j, j < m → L.getD j false = true) → ∀ k, k ≤ m → frS (fun j => L.getD j false) os rs fr k = frS (fun _ => true) os rs fr k := by
    intro L hL k
    induction k with
    | zero => intro _; rfl
    | succ k ih => intro hk; simp only [frS, hL k (by omega), ih (by omega), if_true]
  have key : ∀ (fuel : Nat) (L : Array Bool) (a : Act) (w : World), L.size = ops.size → (∀ i, i < ops.size → L.getD i false = true → ∀ j ∈ waits ops i, L.getD j false = true) →
      (List.range ops.size).countP (fun i => !L.getD i false) = fuel → S L a w → wpAnyIn (FW rd) 0 P .any ops Q fuel L a w := by
    -- nothing is ready: all is done
    have fin : ∀ (L : Array Bool) (a : Act) (w : World), L.size = ops.size → (∀ i, i < ops.size → L.getD i false = true) → S L a w → Q .normal a w := by
      intro L a w hs hall hS
      rcases hS with ⟨h1, h2⟩ | ⟨k, h1, h2, h3, σ, h4, h5⟩
      · have hmn : m = ops.size := by
          by_cases h : m < ops.size
          · have := h1 m (Nat.le_refl _) h; rw [hall m h] at this; cases this
          · omega
        have he : os.drop m = [] := by apply List.drop_eq_nil_of_le; omega
        rw [he] at htail
        have := allm L (fun j hj => hall j (by omega)) m (Nat.le_refl _)
        rw [this] at h2
        exact hK _ a w htail h2
      · have hk : k = ops.size := by
          by_cases h : k < ops.size
          · have := (h3 k h).1 (hall k h); omega
          · omega
        have he : os.drop k = [] := by apply List.drop_eq_nil_of_le; omega
        rw [he] at h4
        exact hK _ a w h4 h5
    have done : ∀ (L : Array Bool), L.size = ops.size → Region.ready .any ops L = [] → ∀ i, i < ops.size → L.getD i false = true := by
      intro L hs hr i
      induction i using Nat.strongRecOn with
      | _ i ih =>
        intro hi
        cases hL : L.getD i false with
        | true => rfl
        | false =>
          exfalso
          have : i ∈ Region.ready .any ops L := ready_mem.2 ⟨hi, by simp [Array.getD, hs, hi] at hL ⊢; exact hL, fun j hj => ih j (d1 i hi j hj) (by have := d1 i hi j hj; omega)⟩
          rw [hr] at this; cases this
    intro fuel
    induction fuel with
    | zero =>
      intro L a w hs hcl hc hS
      have hall : ∀ i, i < ops.size → L.getD i false = true := fun i hi => by
        have := List.countP_eq_zero.1 hc i (List.mem_range.2 hi)
        simpa using this
      refine ⟨?_, fin L a w hs hall hS⟩
      apply List.eq_nil_iff_forall_not_mem.2
      intro i hi
      obtain ⟨h1, h2, _⟩ := ready_mem.1 hi
      have := hall i h1
      simp [Array.getD, hs, h1] at this h2
      rw [this] at h2; cases h2
    | succ fuel ih =>
      intro L a w hs hcl hc hS
      refine ⟨fun hr => fin L a w hs (done L hs hr) hS, fun i hi => ?_⟩
      obtain ⟨hin, hiL, hiw⟩ := ready_mem.1 hi
      have hiF : L.getD i false = false := by simp [Array.getD, hs, hin] at hiL ⊢; exact hiL
      -- the list with i done
      have hget : ∀ j, (L.setIfInBounds i true).getD j false = (if j = i then true else L.getD j false) := fun j => by
        by_cases hj : j = i
        · subst hj; simp [Array.getD, hs, hin]
        · rw [if_neg hj]; simp [Array.getElem?_setIfInBounds, Ne.symm hj]
      have hs' : (L.setIfInBounds i true).size = ops.size := by simpa using hs
      have hcl' : ∀ k, k < ops.size → (L.setIfInBounds i true).getD k false = true → ∀ j ∈ waits ops k, (L.setIfInBounds i true).getD j false = true := fun k hk h j hj => by
        rw [hget] at h ⊢
        by_cases hji : j = i
        · rw [if_pos hji]
        · rw [if_neg hji]
          by_cases hki : k = i
          · subst hki; exact hiw j hj
          · rw [if_neg hki] at h; exact hcl k hk h j hj
      have hc' : (List.range ops.size).countP (fun j => !(L.setIfInBounds i true).getD j false) = fuel := by
        have := countP_flip (p := fun j => !L.getD j false) (p' := fun j => !(L.setIfInBounds i true).getD j false) hin (by simp only [hiF]; rfl) (by simp only [hget, if_pos]; rfl) (fun j hj => by simp only [hget, if_neg hj])
        omega
      have tailstep : ∀ (k : Nat) (σ : AS), i = k → m ≤ k → (∀ j, j < ops.size → (L.getD j false = true ↔ j < k)) → evR P (os.drop k) σ K → Rel e0 N D σ a w → wpOpIn (FW rd) 0 P ops Q i (wpAnyIn (FW rd) 0 P .any ops Q fuel (L.setIfInBounds i true)) a w := by
        intro k σ hik hmk hL hev hrel
        subst hik
        have hil : i < os.length := by omega
        obtain ⟨o, ho, hres⟩ := hat i _ (List.getElem?_eq_getElem hil)
        rw [List.drop_eq_getElem_cons hil] at hev
        have hL' : ∀ j, j < ops.size → ((L.setIfInBounds i true).getD j false = true ↔ j < i + 1) := fun j hj => by
          rw [hget]
          by_cases hji : j = i
          · rw [if_pos hji]; simp; omega
          · rw [if_neg hji, hL j hj]; omega
        have := evR_ok (P := P) (rd := rd) (ops := ops) (N := N) (D := D) g0 (Q := fun e a w => match e with | .normal => wpAnyIn (FW rd) 0 P .any ops Q fuel (L.setIfInBounds i true) a w | _ => False) [i] [os[i]] (fun σ' => evR P (os.drop (i + 1)) σ' K)
          (fun σ' a' w' h1 h2 => ih _ a' w' hs' hcl' hc' (.inr ⟨i + 1, by omega, by omega, hL', σ', h1, h2⟩))
          ⟨⟨o, ho, hres⟩, trivial⟩ σ a w (evR_split hev) hrel
        rw [wpOpsIn_cons] at this
        refine wpOpIn_Q ?_ this
        intro e he a w hf
        cases e with
        | normal => exact absurd rfl he
        | exit id => exact hf.elim
        | goto l => exact hf.elim
        | ret => exact hf.elim
        | panic c => exact hf.elim
        | outgrown => exact hf.elim
      rcases hS with ⟨h1, h2⟩ | ⟨k, h1, h2, h3, σ, h4, h5⟩
      · by_cases him : i < m
        · -- one of the quiet ones
          obtain ⟨q, hq', hev'⟩ := hrs i him
          obtain ⟨o, ho, hres⟩ := hat i q hq'
          have agree : ∀ t ∈ q.uses, lk (frS (fun _ => true) os rs fr i) t = lk (frS (fun j => L.getD j false) os rs fr m) t := by
            intro t ht
            by_cases hex : ∃ j, j < m ∧ (os[j]?).bind (·.dst) = some t
            · obtain ⟨j, hjm, hjd⟩ := hex
              obtain ⟨w1, w2⟩ := d2 i him q hq' j (by omega) t hjd ht
              have hu : ∀ n, n ≤ m → ∀ j', j' < n → j' ≠ j → (os[j']?).bind (·.dst) ≠ some t := fun n hn j' hj' hne hc => hne (uniq (by omega) hjm hc hjd)
              by_cases hji : j < i
              · have hjL := hiw j (w1 hji)
                rw [frS_in i hji rfl hjd (hu i (by omega)), frS_in m hjm hjL hjd (hu m (Nat.le_refl _))]
              · have hjL : L.getD j false = false := by
                  cases hjj : L.getD j false with
                  | false => rfl
                  | true =>
                    by_cases hij : i < j
                    · have := hcl j (by omega) hjj i (w2 hij); rw [hiF] at this; cases this
                    · have : i = j := by omega
                      subst this; rw [hiF] at hjj; cases hjj
                rw [frS_out i (fun j' hj' _ hc => by have := uniq (by omega) hjm hc hjd; omega), frS_out m (fun j' hj' hL' hc => by
                  have := uniq hj' hjm hc hjd; subst this; rw [hjL] at hL'; cases hL')]
            · rw [frS_out i (fun j' hj' _ hc => hex ⟨j', by omega, hc⟩), frS_out m (fun j' hj' _ hc => hex ⟨j', hj', hc⟩)]
          refine one_ok g0 (fun _ _ _ _ => .inr trivial) ho hres (evQ_congr agree hev') h2 (fun a' w' hrel => ih _ a' w' hs' hcl' hc' (.inl ⟨fun j hj hjn => by rw [hget, if_neg (by omega)]; exact h1 j hj hjn, hrel.congr ?_⟩))
          intro t
          have hqd : (os[i]?).bind (·.dst) = q.dst := by rw [hq']; rfl
          by_cases hdt : q.dst = some t
          · rw [hdt]
            simp only [upd, lk, if_true]
            rw [frS_in m him (by rw [hget, if_pos rfl]) (by rw [hqd, hdt]) (fun j' hj' hne hc => hne (uniq hj' him hc (by rw [hqd, hdt])))]
          · have e1 : lk (upd (frS (fun j => L.getD j false) os rs fr m) q.dst (rs.getD i .any)) t = lk (frS (fun j => L.getD j false) os rs fr m) t := by
              generalize q.dst = d at hdt
              cases d with
              | none => rfl
              | some s => simp only [upd, lk]; rw [if_neg (fun hc => hdt (by rw [hc]))]
            rw [e1]
            by_cases hex : ∃ j, j < m ∧ (os[j]?).bind (·.dst) = some t
            · obtain ⟨j, hjm, hjd⟩ := hex
              have hji : j ≠ i := fun hc => by subst hc; rw [hqd] at hjd; exact hdt hjd
              have hu : ∀ j', j' < m → j' ≠ j → (os[j']?).bind (·.dst) ≠ some t := fun j' hj' hne hc => hne (uniq hj' hjm hc hjd)
              cases hjL : L.getD j false with
              | true => rw [frS_in m hjm hjL hjd hu, frS_in m hjm (by rw [hget, if_neg hji]; exact hjL) hjd hu]
              | false =>
                rw [frS_out m (fun j' hj' hL' hc => by have := uniq hj' hjm hc hjd; subst this; rw [hjL] at hL'; cases hL'),
                  frS_out m (fun j' hj' hL' hc => by have := uniq hj' hjm hc hjd; subst this; rw [hget, if_neg hji, hjL] at hL'; cases hL')]
            · rw [frS_out m (fun j' hj' _ hc => hex ⟨j', hj', hc⟩), frS_out m (fun j' hj' _ hc => hex ⟨j', hj', hc⟩)]
        · have him' : i = m := by
            by_cases h : m < i
            · have hw := d4 i (by omega) hin m h
              have := hiw m hw
              rw [h1 m (Nat.le_refl _) (by omega)] at this; cases this
            · omega
          have hL : ∀ j, j < ops.size → (L.getD j false = true ↔ j < m) := fun j hj => by
            constructor
            · intro hjL
              by_cases h : j < m
              · exact h
              · rw [h1 j (by omega) hj] at hjL; cases hjL
            · intro hjm
              exact hiw j (d4 i (by omega) hin j (by omega))
          refine tailstep m _ him' (Nat.le_refl _) hL htail ?_
          have := allm L (fun j hj => (hL j (by omega)).2 hj) m (Nat.le_refl _)
          rw [this] at h2
          exact h2
      · have hik : i = k := by
          have h6 : ¬ i < k := fun hc => by rw [(h3 i hin).2 hc] at hiF; cases hiF
          by_cases h : k < i
          · have hw := d4 i (by omega) hin k h
            have := (h3 k (by omega)).1 (hiw k hw)
            omega
          · omega
        exact tailstep k σ hik h1 h3 h4 h5
  refine key _ _ a w (by simp) (fun i hi h => by simp [Array.getD, hi] at h) ?_ (.inl ⟨fun i _ hi => by simp [Array.getD, hi], hr.congr (fun t => ?_)⟩)
  · rw [List.countP_eq_length.2]
    · simp
    · intro i hi; have := List.mem_range.1 hi; simp [Array.getD, this]
  · rw [frS_out m (fun j hj hL => ?_)]
    have hjn : j < ops.size := by omega
    simp [Array.getD, hjn] at hL

end Go.Av
