/- Chapter 12: what is asked. No condition. -/
import Derived.Test.YtgipkikbefnokaaDoorXOrM
set_option linter.constructorNameAsVariable false
namespace Go.Sc.Or
open Go Go.RowKit Go.Av Go.Proofs Go.Sc
set_option linter.unusedSimpArgs false
set_option linter.unusedVariables false
theorem ask_wrong {t : List Ev} (h : ¬ checkT t = 0) (l : List Int) : askT t l = checkT t := by rw [askT, if_neg h]
theorem ask_right {t : List Ev} (h : checkT t = 0) {l : List Int} (hl : ∀ i ∈ l, 0 ≤ i ∧ i < (t.length : Int)) : askT t l = 0 := by
  rw [askT, if_pos h, if_neg]
  rw [List.any_eq_true]
  rintro ⟨i, hi, hb⟩
  have := hl i hi
  unfold badP at hb
  simp at hb
  omega
theorem ask_bad {t : List Ev} (h : checkT t = 0) {l : List Int} {i : Int} (hi : i ∈ l) (hb : ¬ (0 ≤ i ∧ i < (t.length : Int))) : askT t l = 1 := by
  rw [askT, if_pos h, if_pos]
  rw [List.any_eq_true]
  refine ⟨i, hi, ?_⟩
  unfold badP
  simp
  omega
theorem mat_row {n : Nat} {f : Nat → Nat → Bool} {a b : Nat} (ha : a < n) (hb : b < n) : ((mat n f)[a]?.map fun r => r[b]?) = some (some (f a b)) := by simp [mat_get ha, hb]
theorem same_n (a b : List Nat) (ha : a.length < 1000000) : PureS Tryd.prog 26 [.sl 1 (a.map nrow), .sl 1 (b.map nrow)] (.b (decide (a = b))) := by
  have := same_ints (a.map fun n : Nat => (n : Int)) (b.map fun n : Nat => (n : Int)) (by simpa using ha)
  rw [List.map_map, List.map_map] at this
  have he : decide (a.map (fun n : Nat => (n : Int)) = b.map fun n : Nat => (n : Int)) = decide (a = b) := by
    rw [decide_eq_decide]
    constructor
    · intro h
      exact (List.map_inj_right (fun x y h => by omega)).1 h
    · rintro rfl; rfl
  rw [he] at this
  exact this
def underTo (a b : Clk) (k : Nat) : Bool := (List.range k).all fun g => decide (a.getD g 0 ≤ b.getD g 0)
theorem underTo_succ (a b : Clk) (k : Nat) : underTo a b (k + 1) = (underTo a b k && decide (a.getD k 0 ≤ b.getD k 0)) := by
  rw [underTo, List.range_succ, List.all_append]; simp [underTo]
theorem underTo_iff {a b : Clk} {k : Nat} : underTo a b k = true ↔ ∀ g, g < k → a.getD g 0 ≤ b.getD g 0 := by
  simp only [underTo, List.all_eq_true, List.mem_range, decide_eq_true_eq]
theorem take_avs6 {m : List Int} (h : m.length = 6) : List.take 6 (avs (AV.i .i64) m) = avs (AV.i .i64) m := List.take_of_length_le (by simp [h])
end Go.Sc.Or
