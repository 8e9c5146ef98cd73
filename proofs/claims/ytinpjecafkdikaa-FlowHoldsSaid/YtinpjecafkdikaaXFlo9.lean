/- Chapter 06, in plain words: what may be touched from a place on has what may be touched from each place behind it. No condition. -/
import Derived.Test.YtinpjecafkdikaaXFlo
set_option linter.constructorNameAsVariable false
namespace Go.Sc.Fl
open Go Go.Av Go.Sc
set_option linter.unusedSimpArgs false
set_option linter.unusedVariables false
/-- Does a list of accesses hold an access, at least as strong? -/
def Holds (l : List Acc) (a : Acc) : Prop := ∃ x ∈ l, x.k = a.k ∧ x.n = a.n ∧ (x.w = true ∨ a.w = false)
theorem puts_le {b : List Int} (hb : b.length = 56) {l l' : List Tch} (h : ∀ t ∈ l, t ∈ l') (hl : ∀ t ∈ l', InB t) (c : Nat) : (putsB b l).getD c 0 ≤ (putsB b l').getD c 0 := by
  have h1 := (putsB_get (i := c) (z := (putsB b l').getD c 0) hb hl).1 (Int.le_refl _)
  exact (putsB_get hb fun t ht => hl t (h t ht)).2 ⟨h1.1, fun t ht => h1.2 t (h t ht)⟩
theorem holds_le {B B' : List Int} (h : ∀ c, B'.getD c 0 ≤ B.getD c 0) (hB : Bag B) {a : Acc} (ha : a ∈ accs B') : Holds (accs B) a := by
  obtain ⟨c, h1, h2, rfl⟩ := accR_mem ha
  rw [List.mem_range] at h1
  have hc := h c
  have hb := bag_get hB c
  refine ⟨accOf B c, ?_, rfl, rfl, ?_⟩
  · simp only [accs, accR, List.mem_map, List.mem_filter, List.mem_range, decide_eq_true_eq]
    exact ⟨c, ⟨h1, by omega⟩, rfl⟩
  · simp only [accOf, decide_eq_true_eq, decide_eq_false_iff_not]
    omega
theorem fromM_get {f : Func} {pc i : Nat} (hi : i < 64) : (fromM f pc).getD i false = true ↔ Come (fun _ => true) f ((reps 64 false).set pc true) i := reachM_get hi
/-- What an instruction touches may be touched from it on. -/
theorem tc_may {p : Prog} {f pc : Nat} (hF : Fine (p.funcs.getD f default)) (hpc : pc < (p.funcs.getD f default).code.length) : ∀ t ∈ tcAt (p.funcs.getD f default) pc, t ∈ mayT p f pc := fun t ht => by
  have hl := hF.len
  refine List.mem_append_left _ (List.mem_flatMap.2 ⟨pc, ones_mem.2 ⟨hpc, (fromM_get (by omega)).2 (.start _ ?_)⟩, ht⟩)
  exact (oneN_get (n := 64) (by omega)).2 rfl
/-- What may be touched from a place behind. -/
theorem may_next {p : Prog} (hw : Whole p) {f pc : Nat} (hf : f < p.funcs.length) (hF : Fine (p.funcs.getD f default)) (hpc : pc < (p.funcs.getD f default).code.length) {x : Int} (hx : x ∈ nextL (p.funcs.getD f default) pc) : ∀ t ∈ mayT p f x.toNat, t ∈ mayT p f pc := fun t ht => by
  have hl := hF.len
  have hxb := (next_mem hF hpc).1 hx
  have hxr := hF.behind pc hpc x hxb
  generalize hG : p.funcs.getD f default = F at *
  have hFm : F ∈ p.funcs := by
    rw [← hG, List.getD_eq_getElem?_getD, List.getElem?_eq_getElem hf]
    exact List.getElem_mem hf
  have hsub : ∀ i, i < F.code.length → (fromM F x.toNat).getD i false = true → (fromM F pc).getD i false = true := fun i hi h => by
    rw [fromM_get (by omega)] at h ⊢
    clear hi
    induction h with
    | start i hi =>
      have := (oneN_get (n := 64) (by omega)).1 hi
      subst this
      refine .step pc x (.start _ ((oneN_get (n := 64) (by omega)).2 rfl)) hpc rfl hxb
    | step i y _ hi hT hy ih => exact .step i y ih hi hT hy
  have hon : ∀ i, i ∈ ones (fromM F x.toNat) F.code.length → i ∈ ones (fromM F pc) F.code.length := fun i hi => by
    rw [ones_mem] at hi ⊢
    exact ⟨hi.1, hsub i hi.1 hi.2⟩
  rw [mayT, hG, List.mem_append] at ht ⊢
  rcases ht with ht | ht
  · obtain ⟨i, h1, h2⟩ := List.mem_flatMap.1 ht
    exact .inl (List.mem_flatMap.2 ⟨i, hon i h1, h2⟩)
  · obtain ⟨g, h1, h2⟩ := List.mem_flatMap.1 ht
    rw [ones_mem] at h1
    refine .inr (List.mem_flatMap.2 ⟨g, ones_mem.2 ⟨h1.1, ?_⟩, h2⟩)
    refine (reachK_get h1.1).2 (come_same (fun _ _ => rfl) (fun i hi => ?_) ((reachK_get h1.1).1 h1.2))
    have h8 := hw.few
    have key : ∀ (l : List Nat), (∀ a ∈ l, a < F.code.length) → ∀ x ∈ spL F l, 0 ≤ x ∧ x.toNat < (reps 8 false).length := fun l hl x hx => by
      have := spL_in hw hFm hl x hx
      simp; omega
    rw [mark_get _ _ _ (key _ ones_in)] at hi ⊢
    refine hi.imp id fun h => ?_
    obtain ⟨j, h3, h4⟩ := List.mem_flatMap.1 h
    exact List.mem_flatMap.2 ⟨j, hon j h3, h4⟩
end Go.Sc.Fl
