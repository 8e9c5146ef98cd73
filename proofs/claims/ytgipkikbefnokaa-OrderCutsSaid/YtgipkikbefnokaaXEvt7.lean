/- Chapter 12: what follows of the edges, from the last one on. No condition. -/
import Derived.Test.YtgipkikbefnokaaXEvt6
set_option linter.constructorNameAsVariable false
namespace Go.Sc.Or
open Go Go.Av Go.Sc
set_option linter.unusedSimpArgs false
set_option linter.unusedVariables false
/-- What follows of some edges. -/
def fol : List (Nat × Nat) → Nat → Nat → Bool
  | [] => fun _ _ => false
  | e :: r => fun i k => if i = e.1 then (fol r e.1 k || decide (k = e.2) || fol r e.2 k) else fol r i k
theorem fol_iff {t : List Ev} (h : Good t) : ∀ (r p : List (Nat × Nat)), edR (befT t) t.length t.length = p ++ r → ∀ i k, k < t.length → (fol r i k = true ↔ ∃ b, (i, b) ∈ r ∧ (k = b ∨ befT t b k = true))
  | [], p, _, i, k, _ => by simp [fol]
  | (a, b) :: r, p, he, i, k, hk => by
    have he' : edR (befT t) t.length t.length = (p ++ [(a, b)]) ++ r := by rw [he]; simp
    have ih := fol_iff h r _ he'
    have hab : a < b := by
      have : (a, b) ∈ edR (befT t) t.length t.length := by rw [he]; simp
      exact (edR_mem.1 this).2.1
    have hsrt := edR_sorted (befT t) t.length t.length
    rw [he, List.pairwise_append] at hsrt
    have later : ∀ c, (b, c) ∈ edR (befT t) t.length t.length → (b, c) ∈ r := fun c hc => by
      rw [he, List.mem_append, List.mem_cons] at hc
      rcases hc with hc | hc | hc
      · have := hsrt.2.2 _ hc (a, b) (by simp)
        unfold ltP at this
        simp only at this
        omega
      · have := (Prod.mk.injEq .. ▸ hc).1
        omega
      · exact hc
    have hb : fol r b k = true ↔ befT t b k = true := by
      rw [ih b k hk, bef_edge h hk]
      constructor
      · rintro ⟨c, hc, hk2⟩
        have : (b, c) ∈ edR (befT t) t.length t.length := by rw [he]; simp [hc]
        exact ⟨c, (edR_mem.1 this).2.2.2, hk2⟩
      · rintro ⟨c, hc, hk2⟩
        have hc1 : b < c := by
          have := hc; unfold edgeF at this; rw [Bool.and_eq_true] at this
          exact bef_lt this.1
        have hck : c ≤ k := by
          rcases hk2 with rfl | hk2
          · exact Nat.le_refl _
          · exact Nat.le_of_lt (bef_lt hk2)
        exact ⟨c, later c (edR_mem.2 ⟨by omega, hc1, by omega, hc⟩), hk2⟩
    by_cases hi : i = a
    · subst hi
      simp only [fol, if_pos, Bool.or_eq_true, decide_eq_true_eq, hb, ih i k hk, List.mem_cons]
      constructor
      · rintro ((⟨c, hc, hk2⟩ | rfl) | hk2)
        · exact ⟨c, .inr hc, hk2⟩
        · exact ⟨k, .inl rfl, .inl rfl⟩
        · exact ⟨b, .inl rfl, .inr hk2⟩
      · rintro ⟨c, hc | hc, hk2⟩
        · have := (Prod.mk.injEq .. ▸ hc).2
          subst this
          rcases hk2 with rfl | hk2
          · exact .inl (.inr rfl)
          · exact .inr hk2
        · exact .inl (.inl ⟨c, hc, hk2⟩)
    · simp only [fol, if_neg hi, ih i k hk, List.mem_cons]
      constructor
      · rintro ⟨c, hc, hk2⟩; exact ⟨c, .inr hc, hk2⟩
      · rintro ⟨c, hc | hc, hk2⟩
        · exact absurd (Prod.mk.injEq .. ▸ hc).1 hi
        · exact ⟨c, hc, hk2⟩
/-- All that follows of the edges is what happens before. -/
theorem fol_all {t : List Ev} (h : Good t) {i k : Nat} (hi : i < t.length) (hk : k < t.length) : fol (edR (befT t) t.length t.length) i k = befT t i k := by
  rw [Bool.eq_iff_iff, fol_iff h _ [] rfl i k hk, bef_edge h hk]
  constructor
  · rintro ⟨b, hb, hk2⟩
    exact ⟨b, (edR_mem.1 hb).2.2.2, hk2⟩
  · rintro ⟨b, hb, hk2⟩
    have hc1 : i < b := by
      have := hb; unfold edgeF at this; rw [Bool.and_eq_true] at this
      exact bef_lt this.1
    have hck : b ≤ k := by
      rcases hk2 with rfl | hk2
      · exact Nat.le_refl _
      · exact Nat.le_of_lt (bef_lt hk2)
    exact ⟨b, edR_mem.2 ⟨by omega, hc1, by omega, hb⟩, hk2⟩
/-- A row with another one's first k cells set about it. -/
def orM (g : Nat → Nat → Bool) (a b k : Nat) : Nat → Nat → Bool := fun i q => if i = a ∧ q < k then g a q || g b q else g i q
theorem orM_zero (g : Nat → Nat → Bool) (a b : Nat) : orM g a b 0 = g := by
  funext i q; simp [orM]
theorem orM_step {g : Nat → Nat → Bool} {a b k : Nat} (hab : a ≠ b) : updM (orM g a b k) a k (orM g a b k a k || orM g a b k b k) = orM g a b (k + 1) := by
  funext i q
  have h1 : orM g a b k a k = g a k := by simp [orM]
  have h2 : orM g a b k b k = g b k := by simp [orM]
  rw [h1, h2]
  unfold updM
  by_cases h : i = a ∧ q = k
  · obtain ⟨rfl, rfl⟩ := h
    simp [orM]
  · rw [if_neg h]
    unfold orM
    by_cases h2 : i = a ∧ q < k
    · rw [if_pos h2, if_pos ⟨h2.1, by omega⟩]
    · rw [if_neg h2, if_neg (fun h3 => by
        by_cases hq : q = k
        · exact h ⟨h3.1, hq⟩
        · exact h2 ⟨h3.1, by omega⟩)]
theorem orM_all {n a b : Nat} {r : List (Nat × Nat)} (hab : a ≠ b) : mat n (orM (updM (fol r) a b true) a b n) = mat n (fol ((a, b) :: r)) := mat_congr fun i k _ hk => by
  unfold orM
  by_cases hi : i = a
  · subst hi
    rw [if_pos ⟨rfl, hk⟩]
    simp only [fol, if_pos]
    unfold updM
    by_cases hkb : k = b
    · subst hkb; simp
    · have : ¬ b = i := fun h => hab h.symm
      simp [hkb, this]
  · rw [if_neg (fun h => hi h.1)]
    simp only [fol, if_neg hi]
    unfold updM
    rw [if_neg (fun h => hi h.1)]
/-- A goroutine's events are a chain. -/
theorem chain_bef {t : List Ev} (h : Good t) {i j : Nat} (hij : i < j) (hj : j < t.length) (hg : (t.getD i default).go = (t.getD j default).go) : befT t i j = true :=
  bef_dep h hij hj (dep_own (h.at (by omega)) (h.at hj) hg)
end Go.Sc.Or
