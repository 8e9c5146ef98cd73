/- Maps in a walk: what simp turns. No condition. -/
import Derived.Test.YtgipkikbefnokaaDoorXAv24
import Derived.Test.YtgipkikbefnokaaDoorXAv17
set_option linter.constructorNameAsVariable false
namespace Go.Av
open Go Go.RowKit
set_option linter.unusedSimpArgs false
set_option linter.unusedVariables false
attribute [simp] mpairs evMlk evEnt evRng evMup NxtK mapOf itOf
theorem fitA_ints : ∀ {a b : List AV} {n : Nat}, (∀ x ∈ a, ∃ z, x = .i .i64 z) → (∀ x ∈ b, ∃ z, x = .i .i64 z) → a.length = n → b.length = n → fitA (List.replicate n .i) a b
  | [], [], 0, _, _, _, _ => trivial
  | [], b, n + 1, _, _, h, _ => by simp at h
  | _, [], n + 1, _, _, _, h => by simp at h
  | x :: a, _, 0, _, _, h, _ => by simp at h
  | _, y :: b, 0, _, _, _, h => by simp at h
  | [x], [y], 1, ha, hb, _, _ => by
    obtain ⟨z, rfl⟩ := ha x (by simp)
    obtain ⟨w, rfl⟩ := hb y (by simp)
    simp [fitA, fitA1]
  | x :: x2 :: a, y :: y2 :: b, n + 2, ha, hb, h1, h2 => by
    obtain ⟨z, rfl⟩ := ha x (by simp)
    obtain ⟨w, rfl⟩ := hb y (by simp)
    have := fitA_ints (a := x2 :: a) (b := y2 :: b) (n := n + 1) (fun u hu => ha u (by simp [hu])) (fun u hu => hb u (by simp [hu])) (by simpa using h1) (by simpa using h2)
    simp only [List.replicate_succ] at this ⊢
    exact ⟨rfl, this⟩
  | x :: x2 :: a, [y], n + 2, _, _, _, h => by simp at h
  | [x], y :: y2 :: b, n + 2, _, _, h, _ => by simp at h
  | x :: x2 :: a, y :: b, 1, _, _, h, _ => by simp at h
  | x :: a, y :: y2 :: b, 1, _, _, _, h => by simp at h
  | [x], [y], n + 2, _, _, h, _ => by simp at h
theorem eqA_ints : ∀ {a b : List Int}, a.length = b.length → eqA (List.replicate a.length .i) (a.map (AV.i .i64)) (b.map (AV.i .i64)) = decide (a = b)
  | [], [], _ => by simp [eqA]
  | [x], [y], _ => by by_cases h : x = y <;> simp [eqA, eqA1, h]
  | x :: x2 :: a, y :: y2 :: b, h => by
    have := eqA_ints (a := x2 :: a) (b := y2 :: b) (by simpa using h)
    simp only [List.length_cons, List.replicate_succ, List.map_cons, eqA] at this ⊢
    rw [this]
    by_cases h : x = y <;> simp [eqA1, h]
  | [], _ :: _, h => by simp at h
  | _ :: _, [], h => by simp at h
  | [_], _ :: _ :: _, h => by simp at h
  | _ :: _ :: _, [_], h => by simp at h
@[simp] theorem dom_xo (p : Nat → Prop) (k : XK) (cs : List RV) : AObj.dom p (.xo k cs) ↔ domL p cs := by simp [AObj.dom]
@[simp] theorem domL_mrow (p : Nat → Prop) (ps : List (AV × AV)) : domL p (mrow ps) := by
  rw [domL_mem]
  intro x hx
  obtain ⟨q, _, hq⟩ := List.mem_flatMap.1 hx
  rcases List.mem_cons.1 hq with rfl | hq
  · simp [RV.dom]
  · rw [List.mem_singleton.1 hq]; simp [RV.dom]
@[simp] theorem lowH_append (n : Nat) (H K : List AObj) : lowH n (H ++ K) ↔ lowH n H ∧ lowH n K := by
  simp only [lowH, List.mem_append, or_imp, forall_and]
theorem take_more {α : Type} (l m : List α) (n : Nat) : (l ++ m).take (l.length + n) = l ++ m.take n := by
  rw [List.take_append, List.take_of_length_le (by omega), Nat.add_sub_cancel_left]
@[simp] theorem mget_nil (ks : List CK) (z key : AV) : mget ks z key [] = z := rfl
theorem mget_cons (ks : List CK) (z key : AV) (p : AV × AV) (ps : List (AV × AV)) : mget ks z key (p :: ps) = if eqK ks key p.1 then p.2 else mget ks z key ps := by
  simp only [mget, mfind, List.findIdx?_cons]
  by_cases h : eqK ks key p.1 = true
  · simp [h]
  · simp only [h, Bool.false_eq_true, if_false]
    cases List.findIdx? (fun p => eqK ks key p.1) ps <;> simp
@[simp] theorem mput_nil (ks : List CK) (key val : AV) : mput ks key val [] = [(key, val)] := rfl
theorem mput_cons (ks : List CK) (key val : AV) (p : AV × AV) (ps : List (AV × AV)) : mput ks key val (p :: ps) = if eqK ks key p.1 then (key, val) :: ps else p :: mput ks key val ps := by
  simp only [mput, mfind, List.findIdx?_cons]
  by_cases h : eqK ks key p.1 = true
  · simp [h]
  · simp only [h, Bool.false_eq_true, if_false]
    cases List.findIdx? (fun p => eqK ks key p.1) ps <;> simp
end Go.Av
