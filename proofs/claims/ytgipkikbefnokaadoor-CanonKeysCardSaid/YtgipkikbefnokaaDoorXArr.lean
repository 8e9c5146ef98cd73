/- Arrays in variables: made, looked at, written, held against one another. No condition. -/
import Derived.Test.YtgipkikbefnokaaDoorXAv21
set_option linter.constructorNameAsVariable false
namespace Go.Av
open Go Go.RowKit
set_option linter.unusedSimpArgs false
set_option linter.unusedVariables false
def reps {α : Type} (n : Nat) (x : α) : List α := List.replicate n x
@[simp] theorem reps_length {α : Type} (n : Nat) (x : α) : (reps n x).length = n := by simp [reps]
@[simp] theorem reps_mem {α : Type} (n : Nat) (x y : α) : y ∈ reps n x ↔ n ≠ 0 ∧ y = x := by simp [reps]
@[simp] theorem reps_get {α : Type} {n k : Nat} {x : α} (h : k < (reps n x).length) : (reps n x)[k] = x := List.getElem_replicate _
theorem reps_getD {α : Type} {n k : Nat} {x : α} : (reps n x).getD k x = x := by
  simp only [reps, List.getD_eq_getElem?_getD, List.getElem?_replicate]
  split <;> rfl
def avs {α : Type} (f : α → AV) (m : List α) : List RV := m.map fun a => .v (f a)
def ags {α : Type} (f : α → AV) (m : List α) : List AV := m.map f
section
variable {α : Type} {f : α → AV} {m m' : List α} {k n : Nat} {x : α}
@[simp] theorem avs_length : (avs f m).length = m.length := by simp [avs]
@[simp] theorem ags_length : (ags f m).length = m.length := by simp [ags]
theorem map_ags : (ags f m).map RV.v = avs f m := by simp [ags, avs]
@[simp] theorem map_reps_b (b : Bool) : (reps n (AV.b b)).map RV.v = avs AV.b (reps n b) := by simp [reps, avs]
@[simp] theorem map_reps_i (k : IntKind) (i : Int) : (reps n (AV.i k i)).map RV.v = avs (AV.i k) (reps n i) := by simp [reps, avs]
@[simp] theorem map_ags' : (ags f m).map RV.v = avs f m := map_ags
theorem putAll_one {β : Type} (l : List β) (i : Nat) (x : β) : putAll l i [x] = l.set i x := by simp [putAll]
@[simp] theorem put_avs : putAll (avs f m) k [RV.v (f x)] = avs f (m.set k x) := by rw [putAll_one]; simp [avs, List.map_set]
@[simp] theorem put_avs_b {m : List Bool} {b : Bool} : putAll (avs AV.b m) k [RV.v (AV.b b)] = avs AV.b (m.set k b) := put_avs
@[simp] theorem put_avs_i {q : IntKind} {m : List Int} {i : Int} : putAll (avs (AV.i q) m) k [RV.v (AV.i q i)] = avs (AV.i q) (m.set k i) := put_avs
@[simp] theorem set_avs_b {m : List Bool} {b : Bool} : (avs AV.b m).set k (RV.v (AV.b b)) = avs AV.b (m.set k b) := by simp [avs, List.map_set]
@[simp] theorem set_avs_i {q : IntKind} {m : List Int} {i : Int} : (avs (AV.i q) m).set k (RV.v (AV.i q i)) = avs (AV.i q) (m.set k i) := by simp [avs, List.map_set]
theorem putAll_from {β : Type} : ∀ (l : List β) (p : List β) (r : List β), p.length + l.length = r.length → putAll r p.length l = r.take p.length ++ l
  | [], p, r, h => by simp [putAll] at h ⊢; rw [h, List.take_length]
  | x :: l, p, r, h => by
    have hp : p.length < r.length := by simp at h; omega
    have := putAll_from l (r.take p.length ++ [x]) (r.set p.length x) (by simp at h ⊢; omega)
    simp only [putAll]
    rw [show (r.take p.length ++ [x]).length = p.length + 1 by simp; omega] at this
    rw [this]
    rw [show (r.set p.length x).take (p.length + 1) = r.take p.length ++ [x] by
      rw [List.take_set, List.take_succ_eq_append_getElem hp]
      rw [List.set_append_right _ _ (by simp; omega)]
      simp [Nat.min_eq_left (Nat.le_of_lt hp)]]
    simp
theorem putAll_all {β : Type} {r l : List β} (h : l.length = r.length) : putAll r 0 l = l := by
  have := putAll_from l [] r (by simpa using h)
  simpa using this
@[simp] theorem put_all_avs {g : α → AV} (h : m'.length = m.length) : putAll (avs f m) 0 (avs g m') = avs g m' := putAll_all (by simpa using h)
theorem put_fst {β : Type} {x y a : List β} (h : a.length = x.length) : putAll (x ++ y) 0 a = a ++ y := by
  have key : ∀ (a x p : List β), a.length = x.length → putAll (p ++ (x ++ y)) p.length a = p ++ (a ++ y) := by
    intro a
    induction a with
    | nil => intro x p h; cases x with
      | nil => rfl
      | cons => simp at h
    | cons b a ih =>
      intro x p h
      cases x with
      | nil => simp at h
      | cons c x =>
        rw [putAll]
        have := ih x (p ++ [b]) (by simpa using h)
        rw [List.length_append] at this
        simp only [List.length_singleton, List.append_assoc] at this
        rw [List.set_append_right _ _ (Nat.le_refl _), Nat.sub_self]
        simpa using this
  simpa using key a x [] h
theorem put_snd {β : Type} {x y b : List β} {n : Nat} (hn : x.length = n) (h : b.length = y.length) : putAll (x ++ y) n b = x ++ b := by
  subst hn
  have := put_fst (x := y) (y := []) h
  have key : ∀ (b y p : List β), b.length = y.length → putAll (p ++ y) p.length b = p ++ b := by
    intro b
    induction b with
    | nil => intro x p h; cases x with
      | nil => rfl
      | cons => simp at h
    | cons b a ih =>
      intro x p h
      cases x with
      | nil => simp at h
      | cons c x =>
        rw [putAll]
        have := ih x (p ++ [b]) (by simpa using h)
        rw [List.length_append] at this
        simp only [List.length_singleton, List.append_assoc] at this
        rw [List.set_append_right _ _ (Nat.le_refl _), Nat.sub_self]
        simpa using this
  exact key b y x h
theorem mapM_toV' (l : List AV) : (l.map RV.v).mapM toV = some l := by
  induction l with
  | nil => rfl
  | cons a l ih => simp [ih, toV]
@[simp] theorem mapM_avs : (avs f m).mapM toV = some (ags f m) := by rw [← map_ags, mapM_toV']
theorem take_avs (h : m.length ≤ n) : (avs f m).take n = avs f m := List.take_of_length_le (by simpa using h)
theorem ld_avs (h : m.length = n) : aggV ((avs f m).take n) = .v (.g (ags f m)) := by
  rw [List.take_of_length_le (by simp; omega), aggV, ← map_ags, mapM_toV']
@[simp] theorem avs_get (h : k < (avs f m).length) : (avs f m)[k] = .v (f (m[k]'(by simpa using h))) := by simp [avs]
@[simp] theorem ags_get (h : k < (ags f m).length) : (ags f m)[k] = f (m[k]'(by simpa using h)) := by simp [ags]
theorem get_avs (h : k < m.length) : (avs f m)[k]?.getD RV.any = .v (f (m[k])) := by
  rw [avs, List.getElem?_map, List.getElem?_eq_getElem h]; rfl
theorem get_ags (h : k < m.length) : (ags f m)[k]?.getD AV.nil = f (m[k]) := by
  rw [ags, List.getElem?_map, List.getElem?_eq_getElem h]; rfl
end
theorem fitA_b : ∀ {n : Nat} {a b : List Bool}, a.length = n → b.length = n → fitA (reps n .b) (ags AV.b a) (ags AV.b b)
  | 0, a, b, ha, hb => by obtain rfl := List.eq_nil_of_length_eq_zero ha; obtain rfl := List.eq_nil_of_length_eq_zero hb; simp [reps, ags, fitA]
  | 1, [x], [y], _, _ => by simp [reps, ags, fitA, fitA1]
  | n + 2, x :: x2 :: a, y :: y2 :: b, ha, hb => by
    have := fitA_b (n := n + 1) (a := x2 :: a) (b := y2 :: b) (by simpa using ha) (by simpa using hb)
    simp only [reps, ags, List.replicate_succ, List.map_cons] at this ⊢
    simp only [fitA, fitA1, true_and]
    exact this
theorem eqA_b : ∀ {n : Nat} {a b : List Bool}, a.length = n → b.length = n → eqA (reps n .b) (ags AV.b a) (ags AV.b b) = decide (a = b)
  | 0, a, b, ha, hb => by obtain rfl := List.eq_nil_of_length_eq_zero ha; obtain rfl := List.eq_nil_of_length_eq_zero hb; simp [reps, ags, eqA]
  | 1, [x], [y], _, _ => by simp [reps, ags, eqA, eqA1]; cases x <;> cases y <;> rfl
  | n + 2, x :: x2 :: a, y :: y2 :: b, ha, hb => by
    have := eqA_b (n := n + 1) (a := x2 :: a) (b := y2 :: b) (by simpa using ha) (by simpa using hb)
    simp only [reps, ags, List.replicate_succ, List.map_cons] at this ⊢
    simp only [eqA, eqA1, this]
    cases x <;> cases y <;> simp
@[simp] theorem domL_avs {α : Type} (p : Nat → Prop) (f : α → AV) (m : List α) : domL p (avs f m) := by
  rw [domL_mem]
  intro x hx
  simp only [avs, List.mem_map] at hx
  obtain ⟨a, _, rfl⟩ := hx
  simp [RV.dom]
@[simp] theorem renL_avs {α : Type} (r : Nat → Nat) (f : α → AV) (m : List α) : renL r (avs f m) = avs f m := by
  rw [renL_map, avs, List.map_map]
  exact List.map_congr_left fun a _ => by simp [RV.ren]
end Go.Av
