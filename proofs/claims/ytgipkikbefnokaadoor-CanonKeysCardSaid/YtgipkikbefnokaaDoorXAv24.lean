/- Rows of elements of one cell, as the kit's sorts of one cell have them. No condition. -/
import Derived.Test.YtgipkikbefnokaaDoorXAv23
namespace Go.Av
open Go Go.RowKit Go.Sort
set_option linter.unusedSimpArgs false
set_option linter.unusedVariables false
theorem flat_one {α : Type} [Inhabited α] (f : α → Value) (d : Array α) : Go.Sort.flatK (fun x => [f x]) 1 d = d.map f := by
  refine ext_get! (by simp) fun t ht => ?_
  have ht' : t < d.size * 1 := by simpa using ht
  have ht2 : t < d.size := by omega
  rw [get_flatK _ _ _ t ht']
  simp [getElem!_pos, ht2, Nat.mod_one]
theorem holds_one {α : Type} [Inhabited α] {f : α → Value} {w : World} {blk off : Nat} {d : Array α} (h : HoldsK (fun x => [f x]) 1 w blk off d) : Holds f w blk off d := by
  unfold HoldsK at h
  rw [flat_one] at h
  intro j hj
  have := h j (by simpa using hj)
  rw [getElem!_pos _ j (by simpa using hj)] at this
  rw [getElem!_pos d j hj]
  simpa using this
theorem put_one {α : Type} [Inhabited α] (f : α → Value) (w : World) (blk off : Nat) (d : Array α) : putRowK (fun x => [f x]) 1 w blk off d = putRow f w blk off d := by
  unfold putRowK putRow
  rw [flat_one]
  congr 1
  funext c
  unfold putCells
  congr 1
  funext k x
  simp only [Array.size_map]
  by_cases h : off ≤ k ∧ k < off + d.size
  · have h2 : k - off < d.size := by omega
    rw [if_pos h, if_pos h, getElem!_pos _ (k - off) (by simpa using h2), getElem!_pos d (k - off) h2]
    simp
  · rw [if_neg h, if_neg h]
end Go.Av
