/- Chapter 12, in plain words: neighbours changed about; heights by edges; what follows of edges. No condition. -/
import Derived.Test.YtgipkikbefnokaaXEvt
set_option linter.constructorNameAsVariable false
namespace Go.Sc.Or
open Go Go.Av Go.Sc
set_option linter.unusedSimpArgs false
set_option linter.unusedVariables false
/-! ### Neighbours changed about -/
def swN (i k : Nat) : Nat := if k = i then i + 1 else if k = i + 1 then i else k
theorem swN_sw (i k : Nat) : swN i (swN i k) = k := by
  unfold swN; split <;> (try split) <;> (try split) <;> omega
/-- Two neighbours changed about. -/
def turn (t : List Ev) (i : Nat) : List Ev := (t.set i (t.getD (i + 1) default)).set (i + 1) (t.getD i default)
@[simp] theorem turn_length (t : List Ev) (i : Nat) : (turn t i).length = t.length := by simp [turn]
theorem turn_get {t : List Ev} {i k : Nat} (hi : i + 1 < t.length) (hk : k < t.length) : (turn t i).getD k default = t.getD (swN i k) default := by
  unfold turn swN
  rw [List.getD_eq_getElem?_getD, List.getElem?_set]
  by_cases e1 : i + 1 = k
  · subst e1
    rw [if_pos rfl, if_pos (by simp; omega), if_neg (by omega), if_pos rfl]; rfl
  · rw [if_neg e1, List.getElem?_set]
    by_cases e2 : i = k
    · subst e2
      rw [if_pos rfl, if_pos (by omega), if_pos rfl]; rfl
    · rw [if_neg e2, if_neg (fun h => e2 h.symm), if_neg (fun h => e1 h.symm), ← List.getD_eq_getElem?_getD]
theorem swN_lt {i k n : Nat} (hi : i + 1 < n) (hk : k < n) : swN i k < n := by
  unfold swN; split
  · omega
  · split <;> omega
theorem turn_good {t : List Ev} (h : Good t) {i : Nat} (hi : i + 1 < t.length) : Good (turn t i) := by
  refine ⟨by rw [turn_length]; exact h.len, fun e he => ?_⟩
  obtain ⟨k, hk, rfl⟩ := List.getElem_of_mem he
  have hk' : k < t.length := by simpa using hk
  have := turn_get hi hk'
  rw [List.getD_eq_getElem?_getD, List.getElem?_eq_getElem hk] at this
  simp only [Option.getD_some] at this
  rw [this]
  exact h.at (swN_lt hi hk')
theorem base_ext {t u : List Ev} {i k : Nat} (h : ∀ g, g < 6 → ∀ z, (base u k).getD g 0 ≤ z ↔ (base t i).getD g 0 ≤ z) : base u k = base t i := by
  apply List.ext_getElem (by simp)
  intro g h1 h2
  have hg : g < 6 := by simpa using h1
  have e1 := (h g hg _).1 (Int.le_refl _)
  have e2 := (h g hg _).2 (Int.le_refl _)
  simp only [List.getD_eq_getElem?_getD, List.getElem?_eq_getElem h1, List.getElem?_eq_getElem h2, Option.getD_some] at e1 e2
  omega
/-- **TWO NEIGHBOURS THAT DO NOT DEPEND ON EACH OTHER** change about: the clocks go along. -/
theorem turn_clk {t : List Ev} {i : Nat} (hi : i + 1 < t.length) (hd : depT t i (i + 1) = false) : ∀ k, k < t.length → clkAt (turn t i) k = clkAt t (swN i k) := fun k hk => by
  induction k using Nat.strongRecOn with
  | _ k ih =>
    have hd' : dep (t.getD (i + 1) default) (t.getD i default) = false := by rw [dep_comm]; exact hd
    have hd : dep (t.getD i default) (t.getD (i + 1) default) = false := hd
    rw [clkAt_eq, clkAt_eq, turn_get hi hk]
    congr 1
    refine base_ext fun g hg z => ?_
    rw [base_le _ _ hg, base_le _ _ hg]
    refine and_congr_right fun _ => ?_
    have step : ∀ m, m < k → ((dep ((turn t i).getD m default) ((turn t i).getD k default) = true → (clkAt (turn t i) m).getD g 0 ≤ z) ↔ (dep (t.getD (swN i m) default) (t.getD (swN i k) default) = true → (clkAt t (swN i m)).getD g 0 ≤ z)) := fun m hm => by
      rw [turn_get hi (by omega), turn_get hi hk, ih m hm (by omega)]
    constructor
    · intro hz m hm hdm
      -- where does m stand in u?
      by_cases hlt : swN i m < k
      · have := (step (swN i m) hlt).1 (hz _ hlt)
        rw [swN_sw] at this
        exact this hdm
      · -- then k = i, m = i
        have : k = i ∧ m = i := by
          unfold swN at hlt hm
          split at hlt
          · split at hm <;> (try split at hm) <;> omega
          · split at hlt <;> (split at hm <;> (try split at hm) <;> omega)
        obtain ⟨rfl, rfl⟩ := this
        have e : swN m m = m + 1 := by unfold swN; rw [if_pos rfl]
        rw [e, hd] at hdm; cases hdm
    · intro hz m hm
      rw [step m hm]
      intro hdm
      by_cases hlt : swN i m < swN i k
      · exact hz _ hlt hdm
      · have : k = i + 1 ∧ m = i := by
          unfold swN at hlt
          split at hlt
          · split at hlt <;> (try split at hlt) <;> omega
          · split at hlt <;> (split at hlt <;> (try split at hlt) <;> omega)
        obtain ⟨rfl, rfl⟩ := this
        have e1 : swN m m = m + 1 := by unfold swN; rw [if_pos rfl]
        have e2 : swN m (m + 1) = m := by unfold swN; rw [if_neg (by omega), if_pos rfl]
        rw [e1, e2, hd'] at hdm; cases hdm
/-! ### Heights by edges -/
/-- Of j's height what the first edges give. -/
def hE (t : List Ev) (j : Nat) (l : List (Nat × Nat)) : Int := l.foldl (fun m e => if e.2 = j then max m (hvAt t e.1 + 1) else m) 1
theorem hE_fold {t : List Ev} {j : Nat} {z : Int} : ∀ (l : List (Nat × Nat)) (m : Int), l.foldl (fun m e => if e.2 = j then max m (hvAt t e.1 + 1) else m) m ≤ z ↔ m ≤ z ∧ ∀ e ∈ l, e.2 = j → hvAt t e.1 + 1 ≤ z
  | [], m => by simp
  | e :: l, m => by
    rw [List.foldl_cons, hE_fold l]
    simp only [List.mem_cons, forall_eq_or_imp]
    by_cases h : e.2 = j
    · rw [if_pos h, Int.max_le, and_assoc]
      simp only [h, true_implies]
    · rw [if_neg h]
      simp only [h, false_implies, true_and]
theorem hE_le {t : List Ev} {j : Nat} {l : List (Nat × Nat)} {z : Int} : hE t j l ≤ z ↔ 1 ≤ z ∧ ∀ e ∈ l, e.2 = j → hvAt t e.1 + 1 ≤ z := hE_fold l 1
theorem hE_all {t : List Ev} (h : Good t) {j : Nat} (hj : j < t.length) : hE t j (edR (befT t) t.length t.length) = hvAt t j := by
  apply Int.le_antisymm
  · refine hE_le.2 ⟨hvAt_pos t j, fun e he h2 => ?_⟩
    obtain ⟨a, b⟩ := e
    simp only at h2
    subst h2
    have := (edR_mem.1 he).2.2.2
    unfold edgeF at this
    rw [Bool.and_eq_true] at this
    exact hvAt_lt this.1
  · refine hvAt_le.2 ⟨(hE_le.1 (Int.le_refl _)).1, fun i hb => ?_⟩
    have hlt : ∀ x ∈ pastR t j, x < t.length := fun x hx => by have := past_lt hx; omega
    obtain ⟨k, hk, hbk⟩ := near_has h (pastR t j) [] hlt (fun x hx => by cases hx) i i (.inr (mem_past.2 hb)) (.inr rfl)
    have he := (nearT_iff h hj).1 hk
    have hkj : befT t k j = true := by
      unfold edgeF at he
      rw [Bool.and_eq_true] at he
      exact he.1
    have := bef_lt hkj
    have hv := (hE_le.1 (Int.le_refl (hE t j (edR (befT t) t.length t.length)))).2 (k, j) (edR_mem.2 ⟨by omega, this, hj, he⟩) rfl
    simp only at hv
    rcases hbk with hbk | rfl
    · have := hvAt_lt hbk; omega
    · exact hv
theorem hE_step {t : List Ev} {j k : Nat} {l : List (Nat × Nat)} {e : Nat × Nat} (hk : l[k]? = some e) : hE t j (l.take (k + 1)) = if e.2 = j then max (hE t j (l.take k)) (hvAt t e.1 + 1) else hE t j (l.take k) := by
  obtain ⟨hlt, he⟩ := List.getElem?_eq_some_iff.1 hk
  rw [List.take_succ_eq_append_getElem hlt, he, hE, List.foldl_append]
  rfl
theorem hE_small {t : List Ev} {j : Nat} {l : List (Nat × Nat)} (hl : ∀ e ∈ l, e.1 < e.2) : hE t j l ≤ (j : Int) + 1 := hE_le.2 ⟨by omega, fun e he h2 => by have := hvAt_small t e.1; have := hl e he; omega⟩
theorem hE_pos (t : List Ev) (j : Nat) (l : List (Nat × Nat)) : 1 ≤ hE t j l := (hE_le.1 (Int.le_refl _)).1
/-- A goroutine's events are a chain. -/
theorem rk_high {t : List Ev} (h : Good t) {g : Nat} : ∀ i, i < t.length → goN t i = g → rk t g i + 1 ≤ hvAt t i := fun i hi hgi => by
  induction i using Nat.strongRecOn with
  | _ i ih =>
    have key : ∀ k, k ≤ i → rk t g k + 1 ≤ hvAt t i := fun k => by
      induction k with
      | zero => intro _; have := hvAt_pos t i; rw [rk]; omega
      | succ k ihk =>
        intro hk
        by_cases e : goN t k = g
        · have h1 := ih k (by omega) (by omega) e
          have hb : befT t k i = true := bef_dep h (by omega) hi (dep_same h (by omega) hi (by rw [e, hgi]))
          have h2 := hvAt_lt hb
          rw [rk, if_pos e]; omega
        · rw [rk, if_neg e]; exact ihk (by omega)
    exact key i (Nat.le_refl _)
theorem rk_most {t : List Ev} (h : Good t) (g : Nat) : ∀ n, n ≤ t.length → rk t g n ≤ mostT t n
  | 0, _ => by rw [rk, mostT]; omega
  | n + 1, hn => by
    have ih := rk_most h g n (by omega)
    rw [rk, mostT]
    split
    · rename_i e
      have := rk_high h n (by omega) e
      omega
    · omega
theorem most_pos {t : List Ev} {n : Nat} (hn : 0 < n) : 1 ≤ mostT t n := by
  have := (mostT_le.1 (Int.le_refl (mostT t n))).2 0 hn
  have := hvAt_pos t 0
  omega
/-! ### What follows of edges -/
theorem bef_edge {t : List Ev} (h : Good t) {a k : Nat} (hk : k < t.length) : befT t a k = true ↔ ∃ b, edgeF (befT t) a b = true ∧ (k = b ∨ befT t b k = true) := by
  constructor
  · intro hb
    -- the least one
    have least : ∀ b, (befT t a b = true ∧ (k = b ∨ befT t b k = true)) → ∃ b, edgeF (befT t) a b = true ∧ (k = b ∨ befT t b k = true) := fun b => by
      induction b using Nat.strongRecOn with
      | _ b ih =>
        rintro ⟨h1, h2⟩
        by_cases he : edgeF (befT t) a b = true
        · exact ⟨b, he, h2⟩
        · unfold edgeF at he
          rw [h1, Bool.true_and, Bool.not_eq_true', Bool.not_eq_false] at he
          obtain ⟨m, m1, m2, m3, m4⟩ := betw_iff.1 he
          refine ih m m1 ⟨m3, .inr ?_⟩
          rcases h2 with rfl | h2
          · exact m4
          · exact bef_trans h hk m4 h2
    exact least k ⟨hb, .inl rfl⟩
  · rintro ⟨b, h1, h2⟩
    unfold edgeF at h1
    rw [Bool.and_eq_true] at h1
    rcases h2 with rfl | h2
    · exact h1.1
    · exact bef_trans h hk h1.1 h2
end Go.Sc.Or
