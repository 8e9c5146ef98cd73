/- Lists sorted by neighbours' swaps, made compact, and thinned out, in plain Lean. No condition. -/
import Derived.Test.YtgipkikbefnokaaDoorXAv17
namespace Go.Sc.Srt
set_option linter.unusedSimpArgs false
set_option linter.unusedVariables false
section
variable {α : Type} (lt : α → α → Bool)
structure Ord : Prop where
  asymm : ∀ x y, lt x y = true → lt y x = false
  trans : ∀ x y z, lt y x = false → lt z y = false → lt z x = false
def SortedTo (l : List α) (n : Nat) : Prop := ∀ a b x y, a < b → b < n → l[a]? = some x → l[b]? = some y → lt y x = false
def SortedBut (l : List α) (n j : Nat) : Prop := ∀ a b x y, a < b → b < n → b ≠ j → l[a]? = some x → l[b]? = some y → lt y x = false
variable {lt}
theorem SortedTo.start (l : List α) : SortedTo lt l 1 := fun a b x y h1 h2 => by omega
theorem SortedTo.but {l : List α} {i : Nat} (h : SortedTo lt l i) : SortedBut lt l (i + 1) i := fun a b x y h1 h2 h3 => h a b x y h1 (by omega)
theorem get_swap {l : List α} {j : Nat} {x y : α} (hx : l[j]? = some x) (hy : l[j + 1]? = some y) (k : Nat) : ((l.set (j + 1) x).set j y)[k]? = if k = j then some y else if k = j + 1 then some x else l[k]? := by
  have h1 := (List.getElem?_eq_some_iff.1 hx).1
  have h2 := (List.getElem?_eq_some_iff.1 hy).1
  simp only [List.getElem?_set, List.length_set]
  by_cases hk : k = j
  · subst hk; simp [h1]
  · by_cases hk2 : k = j + 1
    · subst hk2
      have : ¬ j = j + 1 := by omega
      simp [this, h2]
    · have e1 : ¬ j = k := by omega
      have e2 : ¬ j + 1 = k := by omega
      simp [e1, e2, hk, hk2]
theorem SortedBut.swap (o : Ord lt) {l : List α} {n j : Nat} {x y : α} (h : SortedBut lt l n (j + 1)) (hj : j + 1 < n) (hx : l[j]? = some x) (hy : l[j + 1]? = some y) (hlt : lt y x = true) : SortedBut lt ((l.set (j + 1) x).set j y) n j := by
  intro a b u v hab hbn hbj hu hv
  rw [get_swap hx hy] at hu hv
  rw [if_neg hbj] at hv
  by_cases hb : b = j + 1
  · subst hb
    rw [if_pos rfl] at hv
    cases hv
    by_cases ha : a = j
    · subst ha
      rw [if_pos rfl] at hu
      cases hu
      exact o.asymm _ _ hlt
    · rw [if_neg ha, if_neg (by omega)] at hu
      exact h a j u x (by omega) (by omega) (by omega) hu hx
  · rw [if_neg hb] at hv
    by_cases ha : a = j
    · subst ha
      rw [if_pos rfl] at hu
      cases hu
      exact h (a + 1) b y v (by omega) hbn hb hy hv
    · rw [if_neg ha] at hu
      by_cases ha2 : a = j + 1
      · subst ha2
        rw [if_pos rfl] at hu
        cases hu
        exact h j b x v (by omega) hbn hb hx hv
      · rw [if_neg ha2] at hu
        exact h a b u v hab hbn hb hu hv
theorem SortedBut.done (o : Ord lt) {l : List α} {n j : Nat} (h : SortedBut lt l n j) (hj : j = 0 ∨ ∃ i x y, j = i + 1 ∧ l[i]? = some x ∧ l[i + 1]? = some y ∧ lt y x = false) : SortedTo lt l n := by
  intro a b u v hab hbn hu hv
  by_cases hb : b = j
  · subst hb
    rcases hj with rfl | ⟨i, x, y, rfl, h1, h2, h3⟩
    · omega
    · rw [h2] at hv
      cases hv
      by_cases ha : a = i
      · subst ha; rw [h1] at hu; cases hu; exact h3
      · exact o.trans u x v (h a i u x (by omega) (by omega) (by omega) hu h1) h3
  · exact h a b u v hab hbn hb hu hv
theorem swap_perm {l : List α} {j : Nat} {x y : α} (hx : l[j]? = some x) (hy : l[j + 1]? = some y) : ((l.set (j + 1) x).set j y).Perm l := by
  obtain ⟨h1, rfl⟩ := List.getElem?_eq_some_iff.1 hx
  obtain ⟨h2, rfl⟩ := List.getElem?_eq_some_iff.1 hy
  exact List.set_set_perm h2 h1
end
section
variable {α : Type} [DecidableEq α]
def dd (l : List α) : Nat → List α
  | 0 => []
  | p + 1 => match l[p]? with
    | none => dd l p
    | some x => if p ≠ 0 ∧ l[p - 1]? = some x then dd l p else dd l p ++ [x]
def ddL (l : List α) : List α := dd l l.length
theorem dd_len (l : List α) : ∀ p, (dd l p).length ≤ p
  | 0 => by simp [dd]
  | p + 1 => by
    have := dd_len l p
    rw [dd]
    split
    · omega
    · split
      · omega
      · simp; omega
theorem dd_last (l : List α) : ∀ p x, l[p]? = some x → (dd l (p + 1)).getLast? = some x
  | 0, x, h => by rw [dd, h]; simp [dd]
  | p + 1, x, h => by
    rw [dd, h]
    simp only
    split
    · rename_i h1
      exact dd_last l p x (by simpa using h1.2)
    · simp
theorem dd_mem (l : List α) : ∀ p, p ≤ l.length → ∀ x, x ∈ dd l p ↔ x ∈ l.take p
  | 0, _, x => by simp [dd]
  | p + 1, h, x => by
    have ih := dd_mem l p (by omega) x
    have hp : l[p]? = some l[p] := List.getElem?_eq_getElem (by omega)
    rw [dd, hp, List.take_add_one, hp]
    simp only [Option.toList_some, List.mem_append, List.mem_singleton]
    split
    · rename_i h1
      rw [ih]
      constructor
      · exact .inl
      · rintro (h2 | rfl)
        · exact h2
        · obtain ⟨p', rfl⟩ : ∃ p', p = p' + 1 := ⟨p - 1, by omega⟩
          have := h1.2
          simp only [Nat.add_sub_cancel] at this
          rw [List.take_add_one, this]; simp
    · rw [List.mem_append, ih, List.mem_singleton]
theorem dd_all (l : List α) : ∀ p, p ≤ l.length → (∀ i, 0 < i → i < p → l[i]? ≠ l[i - 1]?) → dd l p = l.take p
  | 0, _, _ => by simp [dd]
  | p + 1, h, hne => by
    have hp : l[p]? = some l[p] := List.getElem?_eq_getElem (by omega)
    rw [dd, hp, List.take_add_one, hp, dd_all l p (by omega) (fun i h1 h2 => hne i h1 (by omega))]
    simp only [Option.toList_some]
    split
    · rename_i h1
      exact absurd (hp.trans h1.2.symm) (hne p (by omega) (by omega))
    · rfl
theorem dd_rises (l : List Int) (hs : SortedTo (fun a b => decide (a < b)) l l.length) : ∀ p, p ≤ l.length → (dd l p).Pairwise (· < ·)
  | 0, _ => by simp [dd]
  | p + 1, h => by
    have ih := dd_rises l hs p (by omega)
    have hp : l[p]? = some l[p] := List.getElem?_eq_getElem (by omega)
    rw [dd, hp]
    simp only
    split
    · exact ih
    · rename_i h1
      rw [List.pairwise_append]
      refine ⟨ih, by simp, fun x hx y hy => ?_⟩
      rw [List.mem_singleton] at hy
      subst hy
      rw [dd_mem l p (by omega)] at hx
      obtain ⟨i, hi, hix⟩ := List.mem_iff_getElem.1 hx
      have hi' : i < p := by simp at hi; omega
      have hxi : l[i]? = some x := by
        rw [← hix, List.getElem_take]; exact List.getElem?_eq_getElem _
      obtain ⟨p', rfl⟩ : ∃ p', p = p' + 1 := ⟨p - 1, by omega⟩
      have hp' : l[p']? = some l[p'] := List.getElem?_eq_getElem (by omega)
      have hle : x ≤ l[p'] := by
        by_cases hc : i = p'
        · subst hc; rw [hp'] at hxi; have := Option.some.inj hxi; omega
        · have := hs i p' x l[p'] (by omega) (by omega) hxi hp'
          simpa using this
      have hle2 : l[p'] ≤ l[p' + 1] := by
        have := hs p' (p' + 1) l[p'] l[p' + 1] (by omega) (by omega) hp' hp
        simpa using this
      have hne : l[p'] ≠ l[p' + 1] := fun e => h1 ⟨by omega, by simp only [Nat.add_sub_cancel]; rw [hp', e]⟩
      omega
end
theorem rise_eq : ∀ {l m : List Int}, l.Pairwise (· < ·) → m.Pairwise (· < ·) → (∀ x, x ∈ l ↔ x ∈ m) → l = m
  | [], [], _, _, _ => rfl
  | [], b :: m, _, _, h => by have := (h b).2 (by simp); simp at this
  | a :: l, [], _, _, h => by have := (h a).1 (by simp); simp at this
  | a :: l, b :: m, h1, h2, h => by
    obtain ⟨p1, p2⟩ := List.pairwise_cons.1 h1
    obtain ⟨q1, q2⟩ := List.pairwise_cons.1 h2
    have hab : a = b := by
      have ha := (h a).1 (by simp)
      have hb := (h b).2 (by simp)
      rcases List.mem_cons.1 ha with e | ha
      · exact e
      · rcases List.mem_cons.1 hb with e | hb
        · exact e.symm
        · have := q1 _ ha; have := p1 _ hb; omega
    subst hab
    congr 1
    refine rise_eq p2 q2 fun x => ?_
    constructor
    · intro hx
      have := p1 x hx
      rcases List.mem_cons.1 ((h x).1 (by simp [hx])) with e | h'
      · omega
      · exact h'
    · intro hx
      have := q1 x hx
      rcases List.mem_cons.1 ((h x).2 (by simp [hx])) with e | h'
      · omega
      · exact h'
end Go.Sc.Srt
