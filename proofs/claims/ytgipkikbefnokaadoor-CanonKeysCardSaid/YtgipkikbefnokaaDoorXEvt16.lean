/- Chapter 13: keys, bit by bit, and how long they may be. No condition. -/
import Derived.Test.YtgipkikbefnokaaDoorXEv6
import Derived.Test.YtgipkikbefnokaaDoorXSc4
set_option linter.constructorNameAsVariable false
namespace Go.Sc.Or
open Go Go.Av Go.Sc Go.Sc.Srt Go.Lib
set_option linter.unusedSimpArgs false
set_option linter.unusedVariables false
theorem dec_len : ∀ (k u : Nat), u < 10 ^ (k + 1) → (decDigits u).length ≤ k + 1
  | 0, u, h => by
    rw [decDigits, dif_pos (by simpa using h)]; simp
  | k + 1, u, h => by
    rw [decDigits]
    split
    · simp
    · have := dec_len k (u / 10) (by rw [Nat.pow_succ] at h; omega)
      simp; omega
theorem itoa_len {n : Int} (h : I64 n) : (itoa n).length ≤ 20 := by
  have h1 := h.1
  have h2 := h.2
  unfold itoa
  split
  · have := dec_len 18 n.natAbs (by have : (10 : Nat) ^ 19 = 10000000000000000000 := by decide
                                    rw [this]; omega)
    simp; omega
  · have := dec_len 18 n.toNat (by have : (10 : Nat) ^ 19 = 10000000000000000000 := by decide
                                   rw [this]; omega)
    omega
theorem joinI_len : ∀ {l : List Int}, (∀ n ∈ l, I64 n) → (joinI l).length ≤ 21 * l.length
  | [], _ => by simp [joinI]
  | [a], h => by
    have := itoa_len (h a (by simp))
    simp [joinI]; omega
  | a :: b :: l, h => by
    have h1 := itoa_len (h a (by simp))
    have h2 := joinI_len (l := b :: l) fun n hn => h n (by simp [hn])
    simp [joinI] at h2 ⊢; omega
theorem b64_ev {e : Ev} (h : e.B64) : ∀ n ∈ evI e, I64 n := by
  intro n hn
  refine h .i64 n ?_
  simp only [evI, List.mem_cons, List.not_mem_nil, or_false] at hn
  rcases hn with rfl | rfl | rfl | rfl | rfl | rfl | rfl <;> simp [Ev.row]
theorem b64_acc {e : Ev} (h : e.B64) {a : Acc} (ha : a ∈ e.touched) : ∀ n ∈ accI a, I64 n := by
  have hm : a ∈ e.all := List.mem_of_mem_take ha
  have hr : AV.i .i64 a.k ∈ e.row ∧ AV.i .i64 a.n ∈ e.row := by
    simp only [Ev.all, List.mem_cons, List.not_mem_nil, or_false] at hm
    rcases hm with rfl | rfl | rfl | rfl | rfl | rfl <;> simp [Ev.row, Ev.cells, Acc.row]
  intro n hn
  simp only [accI, List.mem_cons, List.not_mem_nil, or_false] at hn
  rcases hn with rfl | rfl | rfl
  · exact h .i64 _ hr.1
  · exact h .i64 _ hr.2
  · split <;> exact ⟨by decide, by decide⟩
theorem accsB_len {e : Ev} (h : e.B64) : ∀ {l : List Acc}, (∀ a ∈ l, a ∈ e.touched) → (accsB l).length ≤ 64 * l.length
  | [], _ => by simp [accsB]
  | a :: l, hl => by
    have h1 := joinI_len (b64_acc h (hl a (by simp)))
    have h2 := accsB_len h (l := l) fun b hb => hl b (by simp [hb])
    simp [accsB, accB, accI] at h1 ⊢; omega
theorem touched_six (e : Ev) : e.touched.length ≤ 6 := by rw [Ev.touched, List.length_take]; simp; omega
theorem lineB_len {e : Ev} (h : e.B64) : (lineB e).length ≤ 600 := by
  have h1 := joinI_len (b64_ev h)
  have h2 := accsB_len h (l := e.touched) fun a ha => ha
  have h3 := touched_six e
  simp [lineB, evI] at h1 ⊢; omega
theorem keyB_len : ∀ {l : List Ev}, (∀ e ∈ l, e.B64) → (keyB l).length ≤ 600 * l.length
  | [], _ => by simp [keyB]
  | e :: l, h => by
    have h1 := lineB_len (h e (by simp))
    have h2 := keyB_len (l := l) fun f hf => h f (by simp [hf])
    simp [keyB]; omega
theorem joinI_snoc : ∀ (l : List Int) (a : Int), joinI (l ++ [a]) = joinI l ++ ((if l = [] then [] else [44]) ++ itoa a)
  | [], a => by simp [joinI]
  | [b], a => by simp [joinI]
  | b :: c :: l, a => by
    have := joinI_snoc (c :: l) a
    simp only [List.cons_append] at this ⊢
    simp only [joinI, this]
    simp
theorem accsB_snoc : ∀ (l : List Acc) (a : Acc), accsB (l ++ [a]) = accsB l ++ accB a
  | [], a => by simp [accsB]
  | b :: l, a => by simp [accsB, accsB_snoc l a]
theorem keyB_snoc : ∀ (l : List Ev) (a : Ev), keyB (l ++ [a]) = keyB l ++ lineB a
  | [], a => by simp [keyB]
  | b :: l, a => by simp [keyB, keyB_snoc l a]
theorem canonL_b64 {t : List Ev} (h : ∀ e ∈ t, e.B64) : ∀ e ∈ canonL t, e.B64 := by
  intro e he
  obtain ⟨i, hi, rfl⟩ := List.mem_map.1 he
  have hlt := formT_lt i hi
  rw [List.getD_eq_getElem?_getD, List.getElem?_eq_getElem hlt]
  exact h _ (List.getElem_mem hlt)
end Go.Sc.Or
