/- A reader that keeps the first thing that is wrong: how its steps follow one another. No condition. -/
import Derived.Test.YtlolloejmdgkjaaXScDec
import Derived.Test.YtlolloejmdgkjaaXAv14
set_option linter.constructorNameAsVariable false
namespace Go.Sc.Cw
open Go Go.Av
set_option linter.unusedSimpArgs false
set_option linter.unusedVariables false
structure St where
  pos : Nat
  e : Int
  bad : Int
def rrow (bs : List UInt8) (s : St) : List RV := [.v (.sl 1 (bs.map brow)), .v (.i .i64 (s.pos : Int)), .v (.i .i64 s.e), .v (.i .i64 s.bad)]
/-- A reader's step. -/
def Step {α : Type} (bs : List UInt8) (p : Pr α) (s : St) (y : α) (s' : St) : Prop :=
  s'.pos ≤ bs.length ∧ (s.e ≠ 0 → s'.e = s.e ∧ s'.bad = s.bad) ∧
    (s.e = 0 → match p (bs.drop s.pos) with
      | .ok x n => y = x ∧ s'.e = 0 ∧ s'.pos = s.pos + n ∧ s'.bad = s.bad
      | .err er o => s'.e = er ∧ er ≠ 0 ∧ s'.bad = ((s.pos + o : Nat) : Int))
theorem Step.ret {α : Type} {bs : List UInt8} {s : St} (h : s.pos ≤ bs.length) (y : α) : Step bs (retP y) s y s := ⟨h, fun _ => ⟨rfl, rfl⟩, fun he => ⟨rfl, he, rfl, rfl⟩⟩
theorem Step.bind {α β : Type} {bs : List UInt8} {p : Pr α} {f : α → Pr β} {s s1 s2 : St} {x : α} {y : β} (h : Step bs p s x s1) (h' : Step bs (f x) s1 y s2) : Step bs (bindP p f) s y s2 := by
  obtain ⟨a1, a2, a3⟩ := h
  obtain ⟨b1, b2, b3⟩ := h'
  refine ⟨b1, fun he => ?_, fun he => ?_⟩
  · obtain ⟨c1, c2⟩ := a2 he
    obtain ⟨d1, d2⟩ := b2 (by rw [c1]; exact he)
    exact ⟨d1.trans c1, d2.trans c2⟩
  · have a3 := a3 he
    split at a3
    · rename_i x' n hx
      obtain ⟨rfl, c1, c2, c3⟩ := a3
      have b3 := b3 c1
      rw [c2] at b3
      simp only [bindP, hx, List.drop_drop]
      split at b3
      · rename_i y' m hy
        obtain ⟨rfl, d1, d2, d3⟩ := b3
        simp only [hy]
        exact ⟨trivial, d1, by omega, by rw [d3, c3]⟩
      · rename_i er o hy
        obtain ⟨d1, d2, d3⟩ := b3
        simp only [hy]
        exact ⟨d1, d2, by rw [d3]; omega⟩
    · rename_i er o hx
      obtain ⟨c1, c2, c3⟩ := a3
      obtain ⟨d1, d2⟩ := b2 (by rw [c1]; exact c2)
      simp only [bindP, hx]
      exact ⟨d1.trans c1, c2, d2.trans c3⟩
theorem Step.map {α β : Type} {bs : List UInt8} {p : Pr α} {f : α → β} {s s1 : St} {x : α} (h : Step bs p s x s1) : Step bs (bindP p fun x => retP (f x)) s (f x) s1 := h.bind (Step.ret h.1 _)
/-- Where something is wrong, whatever is told. -/
theorem Step.junk {α : Type} {bs : List UInt8} {p : Pr α} {s s1 : St} {x : α} (h : Step bs p s x s1) (he : s1.e ≠ 0) (y : α) : Step bs p s y s1 := by
  obtain ⟨a1, a2, a3⟩ := h
  refine ⟨a1, a2, fun h0 => ?_⟩
  have a3 := a3 h0
  split at a3
  · exact absurd a3.2.1 he
  · exact a3
theorem Step.stay {α : Type} {bs : List UInt8} {p : Pr α} {s : St} (h : s.pos ≤ bs.length) (he : s.e ≠ 0) (y : α) : Step bs p s y s := ⟨h, fun _ => ⟨rfl, rfl⟩, fun h0 => absurd h0 he⟩

def RdR {α : Type} (val : α → AV) (p : Pr α) (bs : List UInt8) (s : St) (r : RV) (K : List AObj) : Prop := ∃ y s', r = .v (val y) ∧ K = [.var (rrow bs s')] ∧ Step bs p s y s'
/-- What a reader's method reads. -/
def Rd {α : Type} (P : Program) (f : Nat) (args : List RV) (val : α → AV) (p : Pr α) : Prop := ∀ bs s, s.pos ≤ bs.length → bs.length < 1099511627776 → CallS P f (.pt 0 0 0 0 :: args) [.var (rrow bs s)] fun r K => RdR val p bs s r K

theorem drop_used {bs : List UInt8} {a x n : Nat} (h : getA 0 0 (bs.drop a) = (0, x, n)) (ha : a ≤ bs.length) : a + n ≤ bs.length := by
  have := (getA_used (bs.drop a) 0 0 (by rw [h])).1
  rw [h, List.length_drop] at this
  simp only at this; omega
end Go.Sc.Cw
