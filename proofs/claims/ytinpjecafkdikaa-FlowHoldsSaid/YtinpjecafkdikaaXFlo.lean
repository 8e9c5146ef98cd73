/- Chapter 06, in plain words: what may come behind an instruction. No condition. -/
import Derived.Test.YtinpjecafkdikaaXArr
import Derived.Test.YtinpjecafkdikaaXSc
import Derived.Test.YtinpjecafkdikaaXSrt
set_option linter.constructorNameAsVariable false
namespace Go.Sc.Fl
open Go Go.Av Go.Sc
/-- What may come behind a place, as the code names it. -/
def behindL (f : Func) (pc : Nat) : List Int :=
  let i := f.code.getD pc default
  if i.op = 45 then [] else if i.op = 42 then [i.a] else if i.op = 43 then [i.b, (pc : Int) + 1]
  else if i.op = 61 then (f.selects.getD i.a.toNat default).cases.map (·.to) ++ (if (f.selects.getD i.a.toNat default).els = -1 then [] else [(f.selects.getD i.a.toNat default).els])
  else [(pc : Int) + 1]
/-- Those that are marked. -/
def ones (m : List Bool) (n : Nat) : List Nat := (List.range n).filter fun i => m.getD i false
def ints (l : List Nat) : List Int := l.map fun (n : Nat) => (n : Int)
theorem ones_succ (m : List Bool) (n : Nat) : ones m (n + 1) = ones m n ++ if m.getD n false then [n] else [] := by
  simp only [ones, List.range_succ, List.filter_append, List.filter_cons, List.filter_nil]
theorem ones_len (m : List Bool) (n : Nat) : (ones m n).length ≤ n := by
  have := List.length_filter_le (fun i => m.getD i false) (List.range n)
  simpa [ones] using this
/-- Marks set. -/
def mark (m : List Bool) (l : List Int) : List Bool := l.foldl (fun m x => m.set x.toNat true) m
@[simp] theorem mark_length : ∀ (l : List Int) (m : List Bool), (mark m l).length = m.length
  | [], m => rfl
  | x :: l, m => by rw [mark, List.foldl_cons]; exact (mark_length l _).trans (by simp)
theorem mark_snoc (m : List Bool) (l : List Int) (x : Int) : mark m (l ++ [x]) = (mark m l).set x.toNat true := by simp [mark]
theorem mark_take (m : List Bool) (l : List Int) (k : Nat) (x : Int) (h : l[k]? = some x) : mark m (l.take (k + 1)) = (mark m (l.take k)).set x.toNat true := by
  rw [List.take_add_one, h]; exact mark_snoc _ _ _
theorem mark_get : ∀ (l : List Int) (m : List Bool) (i : Nat), (∀ x ∈ l, 0 ≤ x ∧ x.toNat < m.length) → ((mark m l).getD i false = true ↔ m.getD i false = true ∨ (i : Int) ∈ l)
  | [], m, i, _ => by simp [mark]
  | x :: l, m, i, h => by
    have hx := h x (by simp)
    have := mark_get l (m.set x.toNat true) i (fun y hy => by simpa using h y (by simp [hy]))
    rw [mark, List.foldl_cons]
    refine Iff.trans this ?_
    have hset : (m.set x.toNat true).getD i false = true ↔ m.getD i false = true ∨ (i : Int) = x := by
      simp only [List.getD_eq_getElem?_getD, List.getElem?_set]
      by_cases hi : x.toNat = i
      · subst hi
        simp [hx.2]
        exact .inr (by omega)
      · rw [if_neg hi]
        constructor
        · exact .inl
        · rintro (h | h)
          · exact h
          · omega
    rw [hset, List.mem_cons, or_assoc]
/-- A place of a right program. -/
structure Place (p : Prog) (f pc : Int) : Prop where
  right : (check p).1 = 0
  f0 : 0 ≤ f
  f1 : f.toNat < p.funcs.length
  pc0 : 0 ≤ pc
  pc1 : pc.toNat < (p.funcs.getD f.toNat default).code.length
/-- What is wrong with a program, a function and a place. -/
def askE (p : Prog) (f pc : Int) : Int :=
  if (check p).1 ≠ 0 then 3 else if f < 0 ∨ (p.funcs.length : Int) ≤ f ∨ pc < 0 ∨ ((p.funcs.getD f.toNat default).code.length : Int) ≤ pc then 1 else 0
theorem ask_zero {p : Prog} {f pc : Int} (h : askE p f pc = 0) : Place p f pc := by
  unfold askE at h
  split at h
  · cases h
  · rename_i hc
    split at h
    · cases h
    · rename_i hn
      simp only [not_or] at hn
      exact ⟨by omega, by omega, by omega, by omega, by omega⟩
theorem Place.ask {p : Prog} {f pc : Int} (h : Place p f pc) : askE p f pc = 0 := by
  have h1 := h.f0; have h2 := h.f1; have h3 := h.pc0; have h4 := h.pc1
  rw [askE, if_neg (by simp [h.right]), if_neg (by omega)]
/-- A function whose places come behind places of its own. -/
structure Fine (f : Func) : Prop where
  len : f.code.length ≤ 64
  behind : ∀ pc, pc < f.code.length → ∀ x ∈ behindL f pc, 0 ≤ x ∧ x < f.code.length
  sel : ∀ pc, pc < f.code.length → (f.code.getD pc default).op = 61 → 0 ≤ (f.code.getD pc default).a ∧ (f.code.getD pc default).a < f.selects.length
/-- May a place be come to? -/
inductive Come (T : Nat → Bool) (f : Func) (m : List Bool) : Nat → Prop
  | start (i : Nat) : m.getD i false = true → Come T f m i
  | step (i : Nat) (x : Int) : Come T f m i → i < f.code.length → T i = true → x ∈ behindL f i → Come T f m x.toNat
open Classical in
/-- All that may be come to. -/
noncomputable def reachM (T : Nat → Bool) (f : Func) (m : List Bool) : List Bool := (List.range 64).map fun i => decide (Come T f m i)
@[simp] theorem reachM_length (T : Nat → Bool) (f : Func) (m : List Bool) : (reachM T f m).length = 64 := by simp [reachM]
theorem reachM_get {T : Nat → Bool} {f : Func} {m : List Bool} {i : Nat} (hi : i < 64) : (reachM T f m).getD i false = true ↔ Come T f m i := by
  simp [reachM, List.getD_eq_getElem?_getD, hi]
/-- The first places gone through once. -/
def passTo (T : Nat → Bool) (f : Func) (m : List Bool) : Nat → List Bool
  | 0 => m
  | i + 1 => if (passTo T f m i).getD i false && T i then mark (passTo T f m i) (behindL f i) else passTo T f m i
section
variable {T : Nat → Bool} {f : Func} {m m0 : List Bool}
@[simp] theorem passTo_length (i : Nat) : (passTo T f m i).length = m.length := by
  induction i with
  | zero => rfl
  | succ i ih => rw [passTo]; split <;> simp [ih]
theorem getD_lt {m : List Bool} {i : Nat} (h : m.getD i false = true) : i < m.length := by
  apply Nat.lt_of_not_le
  intro hc
  rw [List.getD_eq_getElem?_getD, List.getElem?_eq_none hc] at h
  cases h
theorem mark_monoG (hf : Fine f) (hm : f.code.length ≤ m.length) {pc : Nat} (hpc : pc < f.code.length) {i : Nat} (h : m.getD i false = true) : (mark m (behindL f pc)).getD i false = true := by
  have hb := hf.behind pc hpc
  exact (mark_get _ m i fun x hx => ⟨(hb x hx).1, by have := hb x hx; omega⟩).2 (.inl h)
theorem mark_ofG (hf : Fine f) (hm : f.code.length ≤ m.length) {pc : Nat} (hpc : pc < f.code.length) {i : Nat} (h : (mark m (behindL f pc)).getD i false = true) : m.getD i false = true ∨ (i : Int) ∈ behindL f pc := by
  have hb := hf.behind pc hpc
  exact (mark_get _ m i fun x hx => ⟨(hb x hx).1, by have := hb x hx; omega⟩).1 h
theorem mark_inG (hf : Fine f) (hm : f.code.length ≤ m.length) {pc : Nat} (hpc : pc < f.code.length) {x : Int} (h : x ∈ behindL f pc) : (mark m (behindL f pc)).getD x.toNat false = true := by
  have hb := hf.behind pc hpc
  have h0 := (hb x h).1
  exact (mark_get _ m x.toNat fun x hx => ⟨(hb x hx).1, by have := hb x hx; omega⟩).2 (.inr (by rw [show ((x.toNat : Nat) : Int) = x by omega]; exact h))
theorem pass_monoG (hf : Fine f) (hm : f.code.length ≤ m.length) {i k : Nat} : ∀ n, n ≤ f.code.length → k ≤ n → (passTo T f m k).getD i false = true → (passTo T f m n).getD i false = true
  | 0, _, hk, h => by obtain rfl : k = 0 := by omega
                      exact h
  | n + 1, hn, hk, h => by
    by_cases hkn : k = n + 1
    · rw [hkn] at h; exact h
    · have ih := pass_monoG hf hm n (by omega) (by omega) h
      rw [passTo]
      split
      · exact mark_monoG hf (by simpa using hm) (by omega) ih
      · exact ih
theorem pass_comeG (hf : Fine f) (hm : f.code.length ≤ m.length) (hc : ∀ i, m.getD i false = true → Come T f m0 i) : ∀ n, n ≤ f.code.length → ∀ i, (passTo T f m n).getD i false = true → Come T f m0 i
  | 0, _, i, h => hc i h
  | n + 1, hn, i, h => by
    have ih := pass_comeG hf hm hc n (by omega)
    rw [passTo] at h
    split at h
    · rename_i hb
      simp only [Bool.and_eq_true] at hb
      rcases mark_ofG hf (by simpa using hm) (by omega : n < f.code.length) h with h | h
      · exact ih i h
      · have := Come.step n (i : Int) (ih n hb.1) (by omega) hb.2 h
        simpa using this
    · exact ih i h
theorem pass_fixG (hf : Fine f) (hm : f.code.length ≤ m.length) (h : passTo T f m f.code.length = m) {pc : Nat} (hpc : pc < f.code.length) (h1 : m.getD pc false = true) (h2 : T pc = true) {x : Int} (hx : x ∈ behindL f pc) : m.getD x.toNat false = true := by
  have k1 := pass_monoG (T := T) (k := 0) hf hm pc (by omega) (Nat.zero_le _) (by rw [passTo]; exact h1)
  have k2 : (passTo T f m (pc + 1)).getD x.toNat false = true := by
    rw [passTo, if_pos (by simp only [Bool.and_eq_true]; exact ⟨k1, h2⟩)]
    exact mark_inG hf (by simpa using hm) hpc hx
  have := pass_monoG (k := pc + 1) hf hm f.code.length (Nat.le_refl _) (by omega) k2
  rwa [h] at this
theorem len64 (hf : Fine f) (hm : m.length = 64) : f.code.length ≤ m.length := by rw [hm]; exact hf.len
theorem mark_mono (hf : Fine f) (hm : m.length = 64) {pc : Nat} (hpc : pc < f.code.length) {i : Nat} (h : m.getD i false = true) : (mark m (behindL f pc)).getD i false = true := mark_monoG hf (len64 hf hm) hpc h
theorem mark_of (hf : Fine f) (hm : m.length = 64) {pc : Nat} (hpc : pc < f.code.length) {i : Nat} (h : (mark m (behindL f pc)).getD i false = true) : m.getD i false = true ∨ (i : Int) ∈ behindL f pc := mark_ofG hf (len64 hf hm) hpc h
theorem mark_in (hf : Fine f) (hm : m.length = 64) {pc : Nat} (hpc : pc < f.code.length) {x : Int} (h : x ∈ behindL f pc) : (mark m (behindL f pc)).getD x.toNat false = true := mark_inG hf (len64 hf hm) hpc h
theorem pass_mono (hf : Fine f) (hm : m.length = 64) {i k : Nat} (n : Nat) (h1 : n ≤ f.code.length) (h2 : k ≤ n) (h : (passTo T f m k).getD i false = true) : (passTo T f m n).getD i false = true := pass_monoG hf (len64 hf hm) n h1 h2 h
theorem pass_come (hf : Fine f) (hm : m.length = 64) (hc : ∀ i, m.getD i false = true → Come T f m0 i) (n : Nat) (h : n ≤ f.code.length) (i : Nat) (h2 : (passTo T f m n).getD i false = true) : Come T f m0 i := pass_comeG hf (len64 hf hm) hc n h i h2
theorem pass_fix (hf : Fine f) (hm : m.length = 64) (h : passTo T f m f.code.length = m) {pc : Nat} (hpc : pc < f.code.length) (h1 : m.getD pc false = true) (h2 : T pc = true) {x : Int} (hx : x ∈ behindL f pc) : m.getD x.toNat false = true := pass_fixG hf (len64 hf hm) h hpc h1 h2 hx
/-- Gone through until nothing comes new. -/
theorem pass_end (hf : Fine f) (hm : m.length = 64) (h0 : ∀ i, m0.getD i false = true → m.getD i false = true) (hc : ∀ i, m.getD i false = true → Come T f m0 i) (h : passTo T f m f.code.length = m) : m = reachM T f m0 := by
  refine List.ext_getElem (by simp [hm]) fun i h1 h2 => ?_
  have key : m.getD i false = true ↔ (reachM T f m0).getD i false = true := by
    rw [reachM_get (by omega)]
    refine ⟨hc i, fun hcome => ?_⟩
    clear h1 h2
    induction hcome with
    | start i hi => exact h0 i hi
    | step i x _ hi hT hx ih => exact pass_fix hf hm h hi ih hT hx
  have g1 : m.getD i false = m[i] := by rw [List.getD_eq_getElem?_getD, List.getElem?_eq_getElem h1]; rfl
  have g2 : (reachM T f m0).getD i false = (reachM T f m0)[i] := by rw [List.getD_eq_getElem?_getD, List.getElem?_eq_getElem h2]; rfl
  rw [g1, g2] at key
  cases hx : m[i] <;> cases hy : (reachM T f m0)[i] <;> simp_all
end
theorem filter_lt {α : Type} {p q : α → Bool} : ∀ {l : List α}, (∀ x ∈ l, p x = true → q x = true) → (l.filter p).length ≤ (l.filter q).length ∧ ((∃ x ∈ l, q x = true ∧ p x = false) → (l.filter p).length < (l.filter q).length)
  | [], _ => by simp
  | y :: l, h => by
    have ih := filter_lt (p := p) (q := q) (l := l) fun x hx => h x (by simp [hx])
    have hy := h y (by simp)
    refine ⟨?_, ?_⟩
    · simp only [List.filter_cons]
      cases hp : p y <;> cases hq : q y <;> simp_all
      omega
    · rintro ⟨x, hx, h1, h2⟩
      simp only [List.filter_cons]
      rcases List.mem_cons.1 hx with rfl | hx
      · simp [h1, h2]; omega
      · have := ih.2 ⟨x, hx, h1, h2⟩
        cases hp : p y <;> cases hq : q y <;> simp_all
        omega
/-- More marks. -/
theorem ones_ltG {m m' : List Bool} (hl : m'.length = m.length) {N : Nat} (hm : m.length = N) (h : ∀ i, m.getD i false = true → m'.getD i false = true) (hne : m' ≠ m) : (ones m N).length < (ones m' N).length := by
  refine (filter_lt fun i _ hi => h i hi).2 ?_
  apply Classical.byContradiction
  intro hc
  apply hne
  refine List.ext_getElem hl fun i h1 h2 => ?_
  have hc' : ¬ (m'.getD i false = true ∧ m.getD i false = false) := fun hh => hc ⟨i, by simp; omega, hh.1, hh.2⟩
  have hi := h i
  have g1 : m.getD i false = m[i] := by rw [List.getD_eq_getElem?_getD, List.getElem?_eq_getElem h2]; rfl
  have g2 : m'.getD i false = m'[i] := by rw [List.getD_eq_getElem?_getD, List.getElem?_eq_getElem h1]; rfl
  rw [g1, g2] at hi hc'
  cases hx : m[i] <;> cases hy : m'[i] <;> simp_all
theorem ones_lt {m m' : List Bool} (hl : m'.length = m.length) (hm : m.length = 64) (h : ∀ i, m.getD i false = true → m'.getD i false = true) (hne : m' ≠ m) : (ones m 64).length < (ones m' 64).length := ones_ltG hl hm h hne
/-- All places that may be come to from a place. -/
noncomputable def reachL (f : Func) (pc : Nat) : List Int := ints (ones (reachM (fun _ => true) f ((reps 64 false).set pc true)) f.code.length)
/-- Is a place's instruction a local one? -/
def loc (f : Func) (pc : Nat) : Bool := isLocal (f.code.getD pc default).op
/-- Does a local way lead from a place back to it? -/
noncomputable def spin (f : Func) (pc : Nat) : Bool := loc f pc && (reachM (loc f) f (mark (reps 64 false) (behindL f pc))).getD pc false
noncomputable def spinM (f : Func) (n : Nat) : List Bool := (List.range 64).map fun pc => decide (pc < n) && spin f pc
@[simp] theorem spinM_length (f : Func) (n : Nat) : (spinM f n).length = 64 := by simp [spinM]
theorem spinM_zero (f : Func) : spinM f 0 = reps 64 false := by
  refine List.ext_getElem (by simp) fun i h1 h2 => ?_
  simp [spinM]
theorem spinM_succ (f : Func) (n : Nat) (_hn : n < 64) : spinM f (n + 1) = (spinM f n).set n (spin f n) := by
  refine List.ext_getElem (by simp) fun i h1 h2 => ?_
  simp only [spinM, List.getElem_map, List.getElem_range, List.getElem_set]
  by_cases hi : n = i
  · subst hi; simp
  · rw [if_neg hi]
    congr 1
    rw [decide_eq_decide]; omega
theorem spinM_skip (f : Func) (n : Nat) (hn : n < 64) (h : loc f n = false) : spinM f (n + 1) = spinM f n := by
  rw [spinM_succ f n hn, show spin f n = false by simp [spin, h]]
  refine List.ext_getElem (by simp) fun i h1 h2 => ?_
  simp only [spinM, List.getElem_map, List.getElem_range, List.getElem_set]
  by_cases hi : n = i
  · subst hi; simp
  · rw [if_neg hi]
/-- The places that may come behind a place. -/
def nextL (f : Func) (pc : Nat) : List Int := ints (ones (mark (reps 64 false) (behindL f pc)) f.code.length)
end Go.Sc.Fl
/- Chapter 06, in plain words: how long it runs along. No condition. -/
set_option linter.constructorNameAsVariable false
namespace Go.Sc.Fl
open Go Go.Av Go.Sc
set_option linter.unusedSimpArgs false
set_option linter.unusedVariables false
/-- The greatest, at least nought. -/
def maxL (g : Int → Nat) (l : List Int) : Nat := l.foldl (fun a x => max a (g x)) 0
theorem maxL_le {g : Int → Nat} {N : Nat} : ∀ {l : List Int} {a : Nat}, (l.foldl (fun a x => max a (g x)) a ≤ N ↔ a ≤ N ∧ ∀ x ∈ l, g x ≤ N)
  | [], a => by simp
  | x :: l, a => by
    rw [List.foldl_cons, maxL_le]
    simp only [List.forall_mem_cons, Nat.max_le, and_assoc]
theorem maxL_iff {g : Int → Nat} {N : Nat} {l : List Int} : maxL g l ≤ N ↔ ∀ x ∈ l, g x ≤ N := by rw [maxL, maxL_le]; simp
theorem maxL_same {g g' : Int → Nat} {l l' : List Int} (h : ∀ x, x ∈ l ↔ x ∈ l') (hg : ∀ x ∈ l, g x = g' x) : maxL g l = maxL g' l' := by
  refine Nat.le_antisymm (maxL_iff.2 fun x hx => ?_) (maxL_iff.2 fun x hx => ?_)
  · rw [hg x hx]; exact maxL_iff.1 (Nat.le_refl _) x ((h x).1 hx)
  · rw [← hg x ((h x).2 hx)]; exact maxL_iff.1 (Nat.le_refl _) x ((h x).2 hx)
theorem maxL_take {g : Int → Nat} {l : List Int} {k : Nat} {x : Int} (h : l[k]? = some x) : maxL g (l.take (k + 1)) = max (maxL g (l.take k)) (g x) := by
  rw [List.take_add_one, h]; simp [maxL]
/-- How long the ways of at most so many instructions can be. -/
def lgN (f : Func) : Nat → Nat → Nat
  | 0, _ => 0
  | n + 1, pc => if loc f pc then maxL (fun x => lgN f n x.toNat) (behindL f pc) + 1 else 0
theorem lgN_le (f : Func) : ∀ (n pc : Nat), lgN f n pc ≤ n
  | 0, _ => Nat.le_refl _
  | n + 1, pc => by
    rw [lgN]
    split
    · have := (maxL_iff (g := fun x => lgN f n x.toNat) (N := n) (l := behindL f pc)).2 fun x _ => lgN_le f n x.toNat
      omega
    · omega
def one64 (pc : Nat) : List Bool := (reps 64 false).set pc true
@[simp] theorem one64_length (pc : Nat) : (one64 pc).length = 64 := by simp [one64]
theorem one64_get {pc i : Nat} (h : pc < 64) : (one64 pc).getD i false = true ↔ i = pc := by
  simp only [one64, List.getD_eq_getElem?_getD, List.getElem?_set]
  split
  · rename_i hi; subst hi; simp [h]
  · rename_i hi
    constructor
    · intro hh
      by_cases hl : i < 64
      · rw [List.getElem?_eq_getElem (by simpa using hl), Option.getD_some, reps_get] at hh
        cases hh
      · rw [List.getElem?_eq_none (by simp; omega)] at hh
        cases hh
    · intro hh; exact absurd hh.symm hi
/-- A local way leads from one place to another. -/
def Way (f : Func) (pc i : Nat) : Prop := Come (loc f) f (one64 pc) i
/-- No way from a place on comes to a ring. -/
def Acyc (f : Func) (pc : Nat) : Prop := ∀ i, Way f pc i → spin f i = false
section
variable {f : Func} (hf : Fine f)
include hf
theorem way_lt {pc i : Nat} (hpc : pc < f.code.length) (h : Way f pc i) : i < f.code.length := by
  have hl := hf.len
  induction h with
  | start i hi => rw [one64_get (by omega)] at hi; omega
  | step i x _ hi _ hx _ => have := hf.behind i hi x hx; omega
theorem way_self {pc : Nat} (hpc : pc < f.code.length) : Way f pc pc := .start _ ((one64_get (by have := hf.len; omega)).2 rfl)
theorem way_step {pc i : Nat} (hpc : pc < f.code.length) (hl : loc f pc = true) {y : Int} (hy : y ∈ behindL f pc) (h : Way f y.toNat i) : Way f pc i := by
  have hlen := hf.len
  have hb := hf.behind pc hpc y hy
  induction h with
  | start i hi =>
    rw [one64_get (by omega)] at hi
    subst hi
    exact .step pc y (way_self hf hpc) hpc hl hy
  | step i x _ hi hT hx ih => exact .step i x ih hi hT hx
theorem way_back {pc : Nat} (hpc : pc < f.code.length) (hl : loc f pc = true) (hs : spin f pc = false) {y : Int} (hy : y ∈ behindL f pc) : ¬ Way f y.toNat pc := by
  intro h
  have hlen := hf.len
  have hb := hf.behind pc hpc y hy
  have key : ∀ i, Way f y.toNat i → Come (loc f) f (mark (reps 64 false) (behindL f pc)) i := by
    intro i h
    induction h with
    | start i hi =>
      rw [one64_get (by omega)] at hi
      subst hi
      exact .start _ (mark_in hf (by simp) hpc hy)
    | step i x _ hi hT hx ih => exact .step i x ih hi hT hx
  have := key pc h
  rw [← reachM_get (by omega)] at this
  rw [spin, hl, Bool.true_and, this] at hs
  cases hs
/-- How many places may be come to. -/
noncomputable def rho (f : Func) (pc : Nat) : Nat := (ones (reachM (loc f) f (one64 pc)) 64).length
theorem rho_step {pc : Nat} (hpc : pc < f.code.length) (hl : loc f pc = true) (hs : spin f pc = false) {y : Int} (hy : y ∈ behindL f pc) : rho f y.toNat < rho f pc := by
  have hlen := hf.len
  refine ones_lt (by simp) (by simp) (fun i hi => ?_) fun he => ?_
  · have h64 := getD_lt hi
    simp only [reachM_length] at h64
    rw [reachM_get h64] at hi ⊢
    exact way_step hf hpc hl hy hi
  · have h1 := (reachM_get (T := loc f) (f := f) (m := one64 pc) (i := pc) (by omega)).2 (way_self hf hpc)
    rw [he] at h1
    exact way_back hf hpc hl hs hy ((reachM_get (by omega)).1 h1)
theorem rho_pos {pc : Nat} (hpc : pc < f.code.length) : 0 < rho f pc := by
  have hlen := hf.len
  have h1 := (reachM_get (T := loc f) (f := f) (m := one64 pc) (i := pc) (by omega)).2 (way_self hf hpc)
  refine List.length_pos_of_mem (a := pc) ?_
  simp only [ones, List.mem_filter, List.mem_range]
  exact ⟨by omega, h1⟩
omit hf in
theorem range_low (n : Nat) : ∀ N, ((List.range N).filter fun i => decide (i < n)).length ≤ n
  | 0 => by simp
  | N + 1 => by
    have ih := range_low n N
    rw [List.range_succ, List.filter_append, List.length_append]
    by_cases h : N < n
    · have : ((List.range N).filter fun i => decide (i < n)).length ≤ N := by simpa using List.length_filter_le (fun i => decide (i < n)) (List.range N)
      simp [h]; omega
    · simp [h]; exact ih
theorem rho_le {pc : Nat} (hpc : pc < f.code.length) : rho f pc ≤ f.code.length := by
  refine Nat.le_trans (filter_lt (q := fun i => decide (i < f.code.length)) fun i hi h => ?_).1 (range_low f.code.length 64)
  simp only [List.mem_range] at hi
  have := way_lt hf hpc ((reachM_get hi).1 h)
  simpa using this
theorem acyc_step {pc : Nat} (hpc : pc < f.code.length) (ha : Acyc f pc) (hl : loc f pc = true) {y : Int} (hy : y ∈ behindL f pc) : Acyc f y.toNat := fun i hi => ha i (way_step hf hpc hl hy hi)
theorem lgN_more : ∀ (r pc : Nat), pc < f.code.length → Acyc f pc → rho f pc ≤ r → ∀ k, rho f pc ≤ k → lgN f (k + 1) pc = lgN f k pc
  | 0, pc, hpc, _, hr, _, _ => by have := rho_pos hf hpc; omega
  | r + 1, pc, hpc, ha, hr, k, hk => by
    have hp := rho_pos hf hpc
    obtain ⟨k, rfl⟩ : ∃ k', k = k' + 1 := ⟨k - 1, by omega⟩
    rw [lgN, lgN]
    split
    · rename_i hl
      congr 1
      refine maxL_same (fun _ => Iff.rfl) fun y hy => ?_
      have hs := ha pc (way_self hf hpc)
      have hb := hf.behind pc hpc y hy
      have hlt := rho_step hf hpc hl hs hy
      exact lgN_more r y.toNat (by omega) (acyc_step hf hpc ha hl hy) (by omega) k (by omega)
    · rfl
/-- How long the longest way is. -/
theorem lg_eq {pc : Nat} (hpc : pc < f.code.length) (ha : Acyc f pc) (hl : loc f pc = true) : lgN f f.code.length pc = maxL (fun x => lgN f f.code.length x.toNat) (behindL f pc) + 1 := by
  have h := lgN_more hf _ pc hpc ha (Nat.le_refl _) f.code.length (rho_le hf hpc)
  rw [← h, lgN, if_pos hl]
omit hf in
theorem lg_zero {pc : Nat} (hl : loc f pc = false) (n : Nat) : lgN f n pc = 0 := by
  cases n with
  | zero => rfl
  | succ n => rw [lgN, if_neg (by simp [hl])]
end
open Classical in
/-- How long it may run along; -1: there is no end. -/
noncomputable def longV (f : Func) (pc : Nat) : Int := if ∃ i, Way f pc i ∧ spin f i = true then -1 else (lgN f f.code.length pc : Int)
theorem longV_ring {f : Func} {pc i : Nat} (h1 : Way f pc i) (h2 : spin f i = true) : longV f pc = -1 := if_pos ⟨i, h1, h2⟩
theorem longV_acyc {f : Func} {pc : Nat} (h : Acyc f pc) : longV f pc = (lgN f f.code.length pc : Int) := if_neg fun ⟨i, h1, h2⟩ => by rw [h i h1] at h2; cases h2
theorem reps_getD' {n k : Nat} : (reps n (0 : Int)).getD k 0 = 0 := reps_getD
end Go.Sc.Fl
/- Chapter 06, in plain words: the document's own answers. No condition. -/
set_option linter.constructorNameAsVariable false
namespace Go.Sc.Fl
open Go Go.Av Go.Sc
set_option linter.unusedSimpArgs false
set_option linter.unusedVariables false
/-- A number put into a list, once. -/
def ins (n : Int) : List Int → List Int
  | [] => [n]
  | x :: l => if x < n then x :: ins n l else if x = n then x :: l else n :: x :: l
theorem ins_mem (n : Int) : ∀ (l : List Int) (y : Int), y ∈ ins n l ↔ y = n ∨ y ∈ l
  | [], y => by simp [ins]
  | x :: l, y => by
    rw [ins]
    split
    · simp only [List.mem_cons, ins_mem n l y]; exact ⟨fun h => by rcases h with h | h | h <;> simp [h], fun h => by rcases h with h | h | h <;> simp [h]⟩
    · split
      · rename_i h; subst h
        simp only [List.mem_cons]
        exact ⟨.inr, fun h => h.elim .inl id⟩
      · simp
theorem ins_rise (n : Int) : ∀ (l : List Int), l.Pairwise (· < ·) → (ins n l).Pairwise (· < ·)
  | [], _ => by simp [ins]
  | x :: l, h => by
    rw [List.pairwise_cons] at h
    rw [ins]
    split
    · rename_i hx
      rw [List.pairwise_cons]
      exact ⟨fun y hy => ((ins_mem n l y).1 hy).elim (fun e => by rw [e]; exact hx) (h.1 y), ins_rise n l h.2⟩
    · split
      · rw [List.pairwise_cons]; exact h
      · rename_i h1 h2
        rw [List.pairwise_cons, List.pairwise_cons]
        refine ⟨fun y hy => ?_, h⟩
        rcases List.mem_cons.1 hy with rfl | hy
        · omega
        · have := h.1 y hy; omega
/-- One item looked at, as the document's put does. -/
def insStep (n : Int) (s : List Int × Bool) (x : Int) : List Int × Bool :=
  let d := s.2 || x == n
  if n < x ∧ d = false then (s.1 ++ [n, x], true) else (s.1 ++ [x], d)
theorem insStep_done (n : Int) : ∀ (l o : List Int), l.foldl (insStep n) (o, true) = (o ++ l, true)
  | [], o => by simp
  | x :: l, o => by
    rw [List.foldl_cons, show insStep n (o, true) x = (o ++ [x], true) by simp [insStep], insStep_done]
    simp
theorem insStep_all (n : Int) : ∀ (l o : List Int), (if (l.foldl (insStep n) (o, false)).2 then (l.foldl (insStep n) (o, false)).1 else (l.foldl (insStep n) (o, false)).1 ++ [n]) = o ++ ins n l
  | [], o => by simp [ins]
  | x :: l, o => by
    rw [List.foldl_cons, ins]
    by_cases h1 : x < n
    · rw [if_pos h1, show insStep n (o, false) x = (o ++ [x], false) by
        have : ¬ n < x := by omega
        have h2 : ¬ x = n := by omega
        simp [insStep, this, h2], insStep_all n l]
      simp
    · rw [if_neg h1]
      by_cases h2 : x = n
      · rw [if_pos h2, show insStep n (o, false) x = (o ++ [x], true) by simp [insStep, h2], insStep_done]
        simp
      · rw [if_neg h2, show insStep n (o, false) x = (o ++ [n, x], true) by
          have : n < x := by omega
          simp [insStep, this, h2], insStep_done]
        simp
theorem foldl_take {α β : Type} (g : β → α → β) (b : β) {l : List α} {i : Nat} {x : α} (h : l[i]? = some x) : (l.take (i + 1)).foldl g b = g ((l.take i).foldl g b) x := by
  rw [List.take_add_one, h]; simp
/-- What may come behind a place, as the document lays it. -/
def insAll (l : List Int) : List Int := l.foldl (fun l x => ins x l) []
theorem insAll_go : ∀ (l o : List Int), o.Pairwise (· < ·) → (l.foldl (fun l x => ins x l) o).Pairwise (· < ·) ∧ ∀ y, y ∈ l.foldl (fun l x => ins x l) o ↔ y ∈ l ∨ y ∈ o
  | [], o, h => ⟨h, fun y => by simp⟩
  | x :: l, o, h => by
    have := insAll_go l (ins x o) (ins_rise x o h)
    rw [List.foldl_cons]
    refine ⟨this.1, fun y => ?_⟩
    rw [this.2 y, ins_mem, List.mem_cons]
    exact ⟨fun h => by rcases h with h | h | h <;> simp [h], fun h => by rcases h with (h | h) | h <;> simp [h]⟩
theorem ints_rise (m : List Bool) : ∀ n, (ints (ones m n)).Pairwise (· < ·)
  | 0 => by simp [ints, ones]
  | n + 1 => by
    have ih := ints_rise m n
    rw [ones_succ, ints, List.map_append, List.pairwise_append]
    refine ⟨ih, by split <;> simp, fun a ha b hb => ?_⟩
    split at hb
    · simp only [List.map_cons, List.map_nil, List.mem_singleton] at hb
      subst hb
      obtain ⟨k, hk, rfl⟩ := List.mem_map.1 ha
      simp only [ones, List.mem_filter, List.mem_range] at hk
      omega
    · simp at hb
theorem ints_mem {m : List Bool} {n : Nat} {y : Int} : y ∈ ints (ones m n) ↔ 0 ≤ y ∧ y.toNat < n ∧ m.getD y.toNat false = true := by
  simp only [ints, ones, List.mem_map, List.mem_filter, List.mem_range]
  constructor
  · rintro ⟨k, ⟨h1, h2⟩, rfl⟩
    exact ⟨by omega, by simpa using h1, by simpa using h2⟩
  · rintro ⟨h0, h1, h2⟩
    exact ⟨y.toNat, ⟨h1, h2⟩, by omega⟩
theorem next_mem {f : Func} (hf : Fine f) {pc : Nat} (hpc : pc < f.code.length) {y : Int} : y ∈ nextL f pc ↔ y ∈ behindL f pc := by
  have hl := hf.len
  have hb := hf.behind pc hpc
  rw [nextL, ints_mem]
  constructor
  · rintro ⟨h0, h1, h2⟩
    rcases (mark_get (behindL f pc) (reps 64 false) y.toNat fun x hx => ⟨(hb x hx).1, by have := hb x hx; simp; omega⟩).1 h2 with h | h
    · rw [List.getD_eq_getElem?_getD, List.getElem?_eq_getElem (by simp; omega), Option.getD_some, reps_get] at h; cases h
    · rwa [show ((y.toNat : Nat) : Int) = y by omega] at h
  · intro h
    have hy := hb y h
    exact ⟨hy.1, by omega, mark_in hf (by simp) hpc h⟩
theorem nextR_eq {f : Func} (hf : Fine f) {pc : Nat} (hpc : pc < f.code.length) : insAll (behindL f pc) = nextL f pc := by
  have h := insAll_go (behindL f pc) [] .nil
  exact Srt.rise_eq h.1 (ints_rise _ _) fun y => by rw [next_mem hf hpc]; exact (h.2 y).trans (by simp)
/-- A truth, as a row. -/
def brw (b : Bool) : List AV := [.b b]
@[simp] theorem brw_length (b : Bool) : (brw b).length = 1 := rfl
open Classical in
/-- All that may be come to, among the places alone. -/
noncomputable def reachN (T : Nat → Bool) (f : Func) (m : List Bool) : List Bool := (List.range f.code.length).map fun i => decide (Come T f m i)
@[simp] theorem reachN_length (T : Nat → Bool) (f : Func) (m : List Bool) : (reachN T f m).length = f.code.length := by simp [reachN]
theorem reachN_get {T : Nat → Bool} {f : Func} {m : List Bool} {i : Nat} (hi : i < f.code.length) : (reachN T f m).getD i false = true ↔ Come T f m i := by
  simp [reachN, List.getD_eq_getElem?_getD, List.getElem?_map, hi]
theorem pass_endN {T : Nat → Bool} {f : Func} {m m0 : List Bool} (hf : Fine f) (hm : m.length = f.code.length) (h0 : ∀ i, m0.getD i false = true → m.getD i false = true) (hc : ∀ i, m.getD i false = true → Come T f m0 i) (h : passTo T f m f.code.length = m) : m = reachN T f m0 := by
  refine List.ext_getElem (by simp [hm]) fun i h1 h2 => ?_
  have key : m.getD i false = true ↔ (reachN T f m0).getD i false = true := by
    rw [reachN_get (by omega)]
    refine ⟨hc i, fun hcome => ?_⟩
    clear h1 h2
    induction hcome with
    | start i hi => exact h0 i hi
    | step i x _ hi hT hx ih => exact pass_fixG hf (by omega) h hi ih hT hx
  have g1 : m.getD i false = m[i] := by rw [List.getD_eq_getElem?_getD, List.getElem?_eq_getElem h1]; rfl
  have g2 : (reachN T f m0).getD i false = (reachN T f m0)[i] := by rw [List.getD_eq_getElem?_getD, List.getElem?_eq_getElem h2]; rfl
  rw [g1, g2] at key
  cases hx : m[i] <;> cases hy : (reachN T f m0)[i] <;> simp_all
/-- Marks set by one list or by another one of the same members. -/
theorem mark_same {m : List Bool} {l l' : List Int} (h : ∀ x, x ∈ l ↔ x ∈ l') (hl : ∀ x ∈ l, 0 ≤ x ∧ x.toNat < m.length) : mark m l = mark m l' := by
  refine List.ext_getElem (by simp) fun i h1 h2 => ?_
  have k1 := mark_get l m i hl
  have k2 := mark_get l' m i fun x hx => hl x ((h x).2 hx)
  have g1 : (mark m l).getD i false = (mark m l)[i] := by rw [List.getD_eq_getElem?_getD, List.getElem?_eq_getElem h1]; rfl
  have g2 : (mark m l').getD i false = (mark m l')[i] := by rw [List.getD_eq_getElem?_getD, List.getElem?_eq_getElem h2]; rfl
  rw [g1] at k1; rw [g2] at k2
  rw [h] at k1
  cases hx : (mark m l)[i] <;> cases hy : (mark m l')[i] <;> simp_all
theorem come_same {T T' : Nat → Bool} {f : Func} {m m' : List Bool} (hT : ∀ i, i < f.code.length → T i = T' i) (hm : ∀ i, m.getD i false = true → m'.getD i false = true) {i : Nat} (h : Come T f m i) : Come T' f m' i := by
  induction h with
  | start i hi => exact .start i (hm i hi)
  | step i x _ hi hTi hx ih => exact .step i x ih hi (by rw [← hT i hi]; exact hTi) hx
theorem ones_same {m m' : List Bool} : ∀ {n : Nat}, (∀ i, i < n → m.getD i false = m'.getD i false) → ones m n = ones m' n
  | 0, _ => rfl
  | n + 1, h => by rw [ones_succ, ones_succ, ones_same fun i hi => h i (by omega), h n (by omega)]
theorem bool_same {a b : Bool} (h : a = true ↔ b = true) : a = b := by cases a <;> cases b <;> simp_all
theorem oneN_get {n pc i : Nat} (h : pc < n) : ((reps n false).set pc true).getD i false = true ↔ i = pc := by
  simp only [List.getD_eq_getElem?_getD, List.getElem?_set]
  split
  · rename_i hi; subst hi; simp [h]
  · rename_i hi
    constructor
    · intro hh
      by_cases hl : i < n
      · rw [List.getElem?_eq_getElem (by simpa using hl), Option.getD_some, reps_get] at hh
        cases hh
      · rw [List.getElem?_eq_none (by simp; omega)] at hh
        cases hh
    · intro hh; exact absurd hh.symm hi
/-- The document's reach is the program's. -/
theorem reachN_same {T T' : Nat → Bool} {f : Func} (hf : Fine f) {m m' : List Bool} (hT : ∀ i, i < f.code.length → T i = T' i) (hm : ∀ i, m.getD i false = true ↔ m'.getD i false = true) {i : Nat} (hi : i < f.code.length) : (reachN T f m).getD i false = (reachM T' f m').getD i false := by
  have hl := hf.len
  refine bool_same ?_
  rw [reachN_get hi, reachM_get (by omega)]
  exact ⟨come_same hT fun i => (hm i).1, come_same (fun i h => (hT i h).symm) fun i => (hm i).2⟩
theorem reachN_list {f : Func} (hf : Fine f) {pc : Nat} (hpc : pc < f.code.length) : ints (ones (reachN (fun i => !false || loc f i) f ((reps f.code.length false).set pc true)) f.code.length) = reachL f pc := by
  rw [reachL]
  congr 1
  refine ones_same fun i hi => reachN_same hf (fun i _ => by simp) (fun i => ?_) hi
  rw [oneN_get hpc]
  exact (one64_get (by have := hf.len; omega)).symm
theorem reachN_one {f : Func} (hf : Fine f) {pc i : Nat} (hpc : pc < f.code.length) (hi : i < f.code.length) : (reachN (fun i => !true || loc f i) f ((reps f.code.length false).set pc true)).getD i false = true ↔ Way f pc i := by
  have hl := hf.len
  rw [reachN_same (T' := loc f) (m' := one64 pc) hf (fun i _ => by simp) (fun i => by rw [oneN_get hpc, one64_get (by omega)]) hi, Way, ← reachM_get (by omega)]
theorem zero_getD {n i : Nat} : (reps n false).getD i false = false := reps_getD
theorem reachN_spin {f : Func} (hf : Fine f) {pc : Nat} (hpc : pc < f.code.length) (hl : loc f pc = true) : (reachN (fun i => !true || loc f i) f (mark (reps f.code.length false) (nextL f pc))).getD pc false = spin f pc := by
  have hln := hf.len
  have hb := hf.behind pc hpc
  rw [spin, hl, Bool.true_and]
  refine reachN_same hf (fun i _ => by simp) (fun i => ?_) hpc
  rw [mark_get _ _ i fun x hx => ⟨(hb x ((next_mem hf hpc).1 hx)).1, by have := hb x ((next_mem hf hpc).1 hx); simp; omega⟩, mark_get _ _ i fun x hx => ⟨(hb x hx).1, by have := hb x hx; simp; omega⟩, next_mem hf hpc, zero_getD, zero_getD]
end Go.Sc.Fl
/- Chapter 06, in plain words: in a right program what may come behind a place is one. No condition. -/
set_option linter.constructorNameAsVariable false
namespace Go.Sc.Fl
open Go Go.Av Go.Sc
set_option linter.unusedSimpArgs false
set_option linter.unusedVariables false
theorem tgtE_zero {f : Func} {n : Int} (h : tgtE f n = 0) : 0 ≤ n ∧ n < f.code.length := by
  unfold tgtE at h
  split at h
  · rename_i h'; exact within_iff.1 h'
  · cases h
theorem insE_split {p : Prog} {f : Func} {i : Instr} {l0 l1 l2 l3 : UInt8} (h : insE p f i = 0) (hf : form i.op = [l0, l1, l2, l3]) : opE p f l0.toNat i.a i.b = 0 ∧ opE p f l1.toNat i.b i.b = 0 := by
  rw [insE, hf] at h
  simp only at h
  split at h
  · cases h
  · split at h
    · rename_i h1; exact absurd h h1
    · split at h
      · rename_i h1; exact absurd h h1
      · rename_i h1 h2; exact ⟨by omega, by omega⟩
theorem case_to {p : Prog} {f : Func} {c : Case} (h : caseE p f c = 0) : tgtE f c.to = 0 := by
  unfold caseE at h
  split at h
  · cases h
  · split at h
    · cases h
    · split at h
      · cases h
      · exact h
theorem right_fine {p : Prog} (hp : RightP p) {f : Func} (hm : f ∈ p.funcs) : Fine f := by
  have hf := hp.func f hm
  have hat : ∀ pc, pc < f.code.length → insE p f (f.code.getD pc default) = 0 := fun pc h => hf.ins _ (by
    rw [List.getD_eq_getElem?_getD, List.getElem?_eq_getElem h]; exact List.getElem_mem h)
  have hnext : ∀ pc, pc < f.code.length → (f.code.getD pc default).op ≠ 42 → (f.code.getD pc default).op ≠ 45 → (f.code.getD pc default).op ≠ 61 → (0 : Int) ≤ (pc : Int) + 1 ∧ (pc : Int) + 1 < f.code.length := fun pc h h1 h2 h3 => by
    have hl := hf.last
    unfold lastOp at hl
    by_cases hpc : pc = f.code.length - 1
    · rw [← hpc] at hl; omega
    · omega
  have hsel : ∀ pc, pc < f.code.length → (f.code.getD pc default).op = 61 → 0 ≤ (f.code.getD pc default).a ∧ (f.code.getD pc default).a < f.selects.length := fun pc h h61 => by
    have := (insE_split (l0 := 115) (l1 := 45) (l2 := 45) (l3 := 45) (hat pc h) (by rw [h61]; rfl)).1
    exact objE_zero.1 this
  refine ⟨hf.code.2, fun pc h x hx => ?_, hsel⟩
  unfold behindL at hx
  generalize hi : f.code.getD pc default = i at *
  have hatp := hat pc h
  have hnp := hnext pc h
  have hsp := hsel pc h
  rw [hi] at hatp hnp hsp
  simp only at hx
  split at hx
  · simp at hx
  · rename_i h45
    split at hx
    · rename_i h42
      simp only [List.mem_singleton] at hx
      subst hx
      have := (insE_split (l0 := 116) (l1 := 45) (l2 := 45) (l3 := 45) hatp (by rw [h42]; rfl)).1
      exact tgtE_zero this
    · rename_i h42
      split at hx
      · rename_i h43
        simp only [List.mem_cons, List.not_mem_nil, or_false] at hx
        rcases hx with rfl | rfl
        · have := (insE_split (l0 := 114) (l1 := 116) (l2 := 45) (l3 := 45) hatp (by rw [h43]; rfl)).2
          exact tgtE_zero this
        · exact hnp h42 h45 (by omega)
      · split at hx
        · rename_i h61
          obtain ⟨ha0, ha1⟩ := hsp h61
          have hlt : i.a.toNat < f.selects.length := by omega
          have hsd : f.selects.getD i.a.toNat default = f.selects[i.a.toNat] := by rw [List.getD_eq_getElem?_getD, List.getElem?_eq_getElem hlt]; rfl
          rw [hsd] at hx
          have hs := (hf.sel _ (List.getElem_mem hlt)).2
          generalize f.selects[i.a.toNat] = s at hs hx
          unfold selE at hs
          split at hs
          · rename_i h1; exact absurd hs h1
          · rename_i h1
            rcases List.mem_append.1 hx with hx | hx
            · obtain ⟨c, hc, rfl⟩ := List.mem_map.1 hx
              exact tgtE_zero (case_to (firstE_zero (Decidable.byContradiction h1) c hc))
            · split at hx
              · simp at hx
              · rename_i he
                simp only [List.mem_singleton] at hx
                subst hx
                rw [if_pos he] at hs
                exact tgtE_zero hs
        · rename_i h43 h61
          simp only [List.mem_singleton] at hx
          subst hx
          exact hnp h42 h45 h61
theorem right_fines {p : Prog} (h : (check p).1 = 0) : ∀ f ∈ p.funcs, Fine f := fun f hf => right_fine (right_of h) hf
theorem right_cases {p : Prog} (h : (check p).1 = 0) {f : Func} (hf : f ∈ p.funcs) : ∀ s ∈ f.selects, s.cases.length ≤ 64 := fun s hs => by
  have := (((right_of h).func f hf).sel s hs).1.2; omega
/-- How long the ways of at most r instructions can be, from each place on. -/
def longL (f : Func) (r : Nat) : List Int := (List.range f.code.length).map fun i => (lgN f r i : Int)
@[simp] theorem longL_length (f : Func) (r : Nat) : (longL f r).length = f.code.length := by simp [longL]
theorem longL_get (f : Func) (r i : Nat) (h : i < (longL f r).length) : (longL f r)[i] = (lgN f r i : Int) := by simp [longL]
theorem longL_zero (f : Func) : longL f 0 = List.replicate f.code.length 0 := by
  refine List.ext_getElem (by simp) fun i h1 h2 => ?_
  simp [longL, lgN]
/-- The same of the first places; nought of the others. -/
def partL (f : Func) (r k : Nat) : List Int := (List.range f.code.length).map fun i => if i < k then (lgN f r i : Int) else 0
@[simp] theorem partL_length (f : Func) (r k : Nat) : (partL f r k).length = f.code.length := by simp [partL]
theorem partL_zero (f : Func) (r : Nat) : partL f r 0 = List.replicate f.code.length 0 := by
  refine List.ext_getElem (by simp) fun i h1 h2 => ?_
  simp [partL]
theorem partL_succ (f : Func) (r k : Nat) (hk : k < f.code.length) : partL f r (k + 1) = (partL f r k).set k (lgN f r k : Int) := by
  refine List.ext_getElem (by simp) fun i h1 h2 => ?_
  simp only [partL, List.getElem_map, List.getElem_range, List.getElem_set]
  by_cases hi : k = i
  · subst hi; simp
  · rw [if_neg hi]
    by_cases h : i < k
    · rw [if_pos h, if_pos (by omega)]
    · rw [if_neg h, if_neg (by omega)]
theorem partL_skip (f : Func) (r k : Nat) (hk : k < f.code.length) (h : lgN f r k = 0) : partL f r (k + 1) = partL f r k := by
  rw [partL_succ f r k hk, h]
  refine List.ext_getElem (by simp) fun i h1 h2 => ?_
  rw [List.getElem_set]
  split
  · rename_i hi; subst hi; simp [partL]
  · rfl
theorem partL_all (f : Func) (r : Nat) : partL f r f.code.length = longL f r := by
  refine List.ext_getElem (by simp) fun i h1 h2 => ?_
  have : i < f.code.length := by simpa using h1
  simp [partL, longL, this]
end Go.Sc.Fl
/- Chapter 06, in plain words: the document's example; what may be come to holds together. No condition. -/
set_option linter.constructorNameAsVariable false
namespace Go.Sc.Fl
open Go Go.Av Go.Sc
set_option linter.unusedSimpArgs false
set_option linter.unusedVariables false
def F0 : Func := ⟨0, 0, [⟨64, 0, 0, 0, 0⟩, ⟨45, 0, 0, 0, 0⟩], []⟩
def p0 : Prog := ⟨[], 0, [], [F0]⟩
theorem p0_ok : p0.Ok := by
  refine ⟨by decide, fun v hv => by simp [p0] at hv, ⟨by decide, by decide⟩, by decide, fun v hv => by simp [p0] at hv, by decide, fun f hf => ?_⟩
  simp only [p0, List.mem_singleton] at hf
  subst hf
  refine ⟨⟨by decide, by decide⟩, ⟨by decide, by decide⟩, by decide, by decide, fun i hi => ?_, fun s hs => by simp [F0] at hs⟩
  simp only [F0, List.mem_cons, List.not_mem_nil, or_false] at hi
  rcases hi with rfl | rfl <;> exact ⟨⟨by decide, by decide⟩, ⟨by decide, by decide⟩, ⟨by decide, by decide⟩, ⟨by decide, by decide⟩, ⟨by decide, by decide⟩⟩
theorem p0_right : (check p0).1 = 0 := by decide +kernel
theorem p0_ask0 : askE p0 0 0 = 0 := by decide +kernel
theorem p0_ask1 : askE p0 0 1 = 0 := by decide +kernel
theorem p0_ask2 : askE p0 0 2 = 1 := by decide +kernel
theorem F0_fine : Fine F0 := right_fines p0_right F0 (by simp [p0])
theorem F0_next : nextL F0 0 = [1] := by decide +kernel
theorem reach_mem {f : Func} (hf : Fine f) {pc : Nat} {y : Int} : y ∈ reachL f pc ↔ 0 ≤ y ∧ y.toNat < f.code.length ∧ Come (fun _ => true) f (one64 pc) y.toNat := by
  rw [reachL, ints_mem]
  constructor
  · rintro ⟨h0, h1, h2⟩
    exact ⟨h0, h1, (reachM_get (by have := hf.len; omega)).1 h2⟩
  · rintro ⟨h0, h1, h2⟩
    exact ⟨h0, h1, (reachM_get (by have := hf.len; omega)).2 h2⟩
theorem reach_rise (f : Func) (pc : Nat) : (reachL f pc).Pairwise (· < ·) := ints_rise _ _
theorem reach_self {f : Func} (hf : Fine f) {pc : Nat} (hpc : pc < f.code.length) : (pc : Int) ∈ reachL f pc := by
  rw [reach_mem hf]
  exact ⟨by omega, by simpa using hpc, .start _ (by have := (one64_get (pc := pc) (i := pc) (by have := hf.len; omega)).2 rfl; simpa using this)⟩
theorem reach_step {f : Func} (hf : Fine f) {pc : Nat} {i y : Int} (hi : i ∈ reachL f pc) (hy : y ∈ nextL f i.toNat) : y ∈ reachL f pc := by
  rw [reach_mem hf] at hi ⊢
  obtain ⟨h0, h1, h2⟩ := hi
  rw [next_mem hf h1] at hy
  have hb := hf.behind _ h1 y hy
  exact ⟨hb.1, by omega, .step _ y h2 h1 rfl hy⟩
theorem reach_trans {f : Func} (hf : Fine f) {pc : Nat} (hpc : pc < f.code.length) {i y : Int} (hi : i ∈ reachL f pc) (hy : y ∈ reachL f i.toNat) : y ∈ reachL f pc := by
  have h64 := hf.len
  rw [reach_mem hf] at hi hy ⊢
  obtain ⟨h0, h1, h2⟩ := hi
  obtain ⟨k0, k1, k2⟩ := hy
  refine ⟨k0, k1, ?_⟩
  clear k0 k1
  generalize y.toNat = k at k2 ⊢
  induction k2 with
  | start j hj =>
    rw [one64_get (by omega)] at hj
    subst hj
    exact h2
  | step j x _ hj hT hx ih => exact .step j x ih hj hT hx
theorem F0_behind0 : behindL F0 0 = [1] := by decide +kernel
theorem F0_behind1 : behindL F0 1 = [] := by decide +kernel
theorem F0_reach : reachL F0 0 = [0, 1] := by
  refine Srt.rise_eq (reach_rise _ _) (by decide) fun y => ?_
  have hs := reach_self F0_fine (pc := 0) (by decide)
  have h1 : (1 : Int) ∈ reachL F0 0 := reach_step F0_fine hs (by rw [show ((0 : Nat) : Int).toNat = 0 by rfl, F0_next]; simp)
  constructor
  · intro h
    have h2 := ((reach_mem F0_fine).1 h)
    have : F0.code.length = 2 := rfl
    simp only [List.mem_cons, List.not_mem_nil, or_false]
    omega
  · intro h
    simp only [List.mem_cons, List.not_mem_nil, or_false] at h
    rcases h with rfl | rfl
    · exact hs
    · exact h1
theorem F0_long : longV F0 1 = 1 := by
  have hac : Acyc F0 1 := fun i hi => by
    have hi1 : i = 1 := by
      induction hi with
      | start i hi => exact (one64_get (by decide)).1 hi
      | step i x _ _ _ hx ih => subst ih; rw [F0_behind1] at hx; cases hx
    subst hi1
    have hn : ¬ Come (loc F0) F0 (mark (reps 64 false) (behindL F0 1)) 1 := by
      have key : ∀ j, ¬ Come (loc F0) F0 (mark (reps 64 false) (behindL F0 1)) j := fun j h => by
        induction h with
        | start j hj => rw [F0_behind1, mark, List.foldl_nil, zero_getD] at hj; cases hj
        | step j x _ _ _ _ ih => exact ih
      exact key 1
    have h2 : ¬ (reachM (loc F0) F0 (mark (reps 64 false) (behindL F0 1))).getD 1 false = true := fun h => hn ((reachM_get (by decide)).1 h)
    rw [spin]
    cases h3 : (reachM (loc F0) F0 (mark (reps 64 false) (behindL F0 1))).getD 1 false with
    | true => exact absurd h3 h2
    | false => simp
  rw [longV_acyc hac]
  decide +kernel
end Go.Sc.Fl
/- Chapter 06, in plain words: what may be run, where stretches begin. No condition. -/
set_option linter.constructorNameAsVariable false
namespace Go.Sc.Fl
open Go Go.Av Go.Sc
set_option linter.unusedSimpArgs false
set_option linter.unusedVariables false
open Classical in
/-- All that may be come to, as marks of a length. -/
noncomputable def reachK (K : Nat) (T : Nat → Bool) (f : Func) (m : List Bool) : List Bool := (List.range K).map fun i => decide (Come T f m i)
@[simp] theorem reachK_length (K : Nat) (T : Nat → Bool) (f : Func) (m : List Bool) : (reachK K T f m).length = K := by simp [reachK]
theorem reachK_get {K : Nat} {T : Nat → Bool} {f : Func} {m : List Bool} {i : Nat} (hi : i < K) : (reachK K T f m).getD i false = true ↔ Come T f m i := by
  simp [reachK, List.getD_eq_getElem?_getD, hi]
theorem marks_eq {a b : List Bool} (hl : a.length = b.length) (h : ∀ i, i < a.length → (a.getD i false = true ↔ b.getD i false = true)) : a = b := by
  refine List.ext_getElem hl fun i h1 h2 => ?_
  have key := h i h1
  have g1 : a.getD i false = a[i] := by rw [List.getD_eq_getElem?_getD, List.getElem?_eq_getElem h1]; rfl
  have g2 : b.getD i false = b[i] := by rw [List.getD_eq_getElem?_getD, List.getElem?_eq_getElem h2]; rfl
  rw [g1, g2] at key
  exact bool_same key
theorem pass_endK {K : Nat} {T : Nat → Bool} {f : Func} {m m0 : List Bool} (hf : Fine f) (hm : m.length = K) (hK : f.code.length ≤ K) (h0 : ∀ i, m0.getD i false = true → m.getD i false = true) (hc : ∀ i, m.getD i false = true → Come T f m0 i) (h : passTo T f m f.code.length = m) : m = reachK K T f m0 := by
  refine marks_eq (by simp [hm]) fun i h1 => ?_
  rw [reachK_get (by omega)]
  refine ⟨hc i, fun hcome => ?_⟩
  clear h1
  induction hcome with
  | start i hi => exact h0 i hi
  | step i x _ hi hT hx ih => exact pass_fixG hf (by omega) h hi ih hT hx
/-- What the spawn at a place runs. -/
def spB (f : Func) (pc : Nat) : List Int := if (f.code.getD pc default).op = 62 then [(f.code.getD pc default).b] else []
def spL (f : Func) (l : List Nat) : List Int := l.flatMap (spB f)
theorem spL_ones (f : Func) (m : List Bool) (n : Nat) : spL f (ones m (n + 1)) = spL f (ones m n) ++ if m.getD n false then spB f n else [] := by
  rw [ones_succ, spL, List.flatMap_append]
  congr 1
  split <;> simp
/-- All places marked that may be come to from the function's beginning. -/
noncomputable def allM (f : Func) : List Bool := reachM (fun _ => true) f ((reps 64 false).set 0 true)
@[simp] theorem allM_length (f : Func) : (allM f).length = 64 := by simp [allM]
/-- The functions that a function may run. -/
noncomputable def calls (f : Func) : List Int := spL f (ones (allM f) f.code.length)
/-- The functions as places of one function: what each may run may come behind it. -/
noncomputable def fake (p : Prog) : Func := ⟨0, 0, (List.range p.funcs.length).map fun (i : Nat) => ⟨61, (i : Int), 0, 0, 0⟩, p.funcs.map fun f => ⟨(calls f).map fun g => ⟨false, 0, 0, g⟩, -1⟩⟩
@[simp] theorem fake_len (p : Prog) : (fake p).code.length = p.funcs.length := by simp [fake]
theorem fake_behind (p : Prog) {i : Nat} (hi : i < p.funcs.length) : behindL (fake p) i = calls p.funcs[i] := by
  have h1 : (fake p).code.getD i default = ⟨61, (i : Int), 0, 0, 0⟩ := by
    rw [List.getD_eq_getElem?_getD, fake]; simp [hi]
  have h2 : (fake p).selects.getD i default = ⟨(calls p.funcs[i]).map fun g => ⟨false, 0, 0, g⟩, -1⟩ := by
    rw [List.getD_eq_getElem?_getD, fake]; simp [hi]
  unfold behindL
  rw [h1]
  simp only [Int.toNat_natCast, h2]
  simp [List.map_map, Function.comp_def]
/-- A program whose spawns run functions of its own. -/
structure Whole (p : Prog) : Prop where
  one : 1 ≤ p.funcs.length
  few : p.funcs.length ≤ 8
  spawn : ∀ f ∈ p.funcs, ∀ pc, pc < f.code.length → (f.code.getD pc default).op = 62 → 0 ≤ (f.code.getD pc default).b ∧ (f.code.getD pc default).b < p.funcs.length
theorem right_whole {p : Prog} (h : (check p).1 = 0) : Whole p := by
  have hr := right_of h
  refine ⟨hr.funcs.1, hr.funcs.2, fun f hf pc hpc h62 => ?_⟩
  · have hat : insE p f (f.code.getD pc default) = 0 := (hr.func f hf).ins _ (by
      rw [List.getD_eq_getElem?_getD, List.getElem?_eq_getElem hpc]; exact List.getElem_mem hpc)
    have := (insE_split (l0 := 111) (l1 := 102) (l2 := 112) (l3 := 45) hat (by rw [h62]; rfl)).2
    exact objE_zero.1 this
theorem spB_in {p : Prog} (hw : Whole p) {f : Func} (hf : f ∈ p.funcs) {pc : Nat} (hpc : pc < f.code.length) : ∀ x ∈ spB f pc, 0 ≤ x ∧ x < p.funcs.length := fun x hx => by
  unfold spB at hx
  split at hx
  · rename_i h
    simp only [List.mem_singleton] at hx
    subst hx
    exact hw.spawn f hf pc hpc h
  · simp at hx
theorem spL_in {p : Prog} (hw : Whole p) {f : Func} (hf : f ∈ p.funcs) {l : List Nat} (hl : ∀ pc ∈ l, pc < f.code.length) : ∀ x ∈ spL f l, 0 ≤ x ∧ x < p.funcs.length := fun x hx => by
  obtain ⟨pc, h1, h2⟩ := List.mem_flatMap.1 hx
  exact spB_in hw hf (hl pc h1) x h2
theorem ones_in {m : List Bool} {n : Nat} : ∀ i ∈ ones m n, i < n := fun i hi => by
  simp only [ones, List.mem_filter, List.mem_range] at hi; exact hi.1
theorem calls_in {p : Prog} (hw : Whole p) {f : Func} (hf : f ∈ p.funcs) : ∀ x ∈ calls f, 0 ≤ x ∧ x < p.funcs.length := spL_in hw hf ones_in
theorem fake_fine {p : Prog} (hw : Whole p) : Fine (fake p) := by
  have h8 := hw.few
  refine ⟨by simp; omega, fun pc hpc x hx => ?_, fun pc hpc _ => ?_⟩
  · have hpc' : pc < p.funcs.length := by simpa using hpc
    rw [fake_behind p hpc'] at hx
    rw [fake_len]
    exact calls_in hw (List.getElem_mem hpc') x hx
  · have hpc' : pc < p.funcs.length := by simpa using hpc
    have h1 : (fake p).code.getD pc default = ⟨61, (pc : Int), 0, 0, 0⟩ := by
      rw [List.getD_eq_getElem?_getD, fake]; simp [hpc']
    rw [h1]
    refine ⟨by simp, ?_⟩
    simp [fake, hpc']
/-- The functions that may be run, where some are: eight marks. -/
noncomputable def runM (p : Prog) (m : List Bool) : List Bool := reachK 8 (fun _ => true) (fake p) m
@[simp] theorem runM_length (p : Prog) (m : List Bool) : (runM p m).length = 8 := by simp [runM]
/-- Those that may be run from the first one on. -/
noncomputable def goesM (p : Prog) : List Bool := runM p ((reps 8 false).set 0 true)
@[simp] theorem goesM_length (p : Prog) : (goesM p).length = 8 := by simp [goesM]
noncomputable def goesL (p : Prog) : List Int := ints (ones (goesM p) 8)
/-- A list of marks laid over marks. -/
theorem mark_over {m s : List Bool} {l : List Int} (hl : ∀ x ∈ l, 0 ≤ x ∧ x.toNat < m.length) (hs : s = mark (reps m.length false) l) : mark m (ints (ones s m.length)) = mark m l := by
  refine mark_same (fun x => ?_) fun x hx => ?_
  · rw [ints_mem]
    constructor
    · rintro ⟨h0, h1, h2⟩
      rw [hs] at h2
      rcases (mark_get l (reps m.length false) x.toNat fun x hx => by simpa using hl x hx).1 h2 with h | h
      · rw [zero_getD] at h; cases h
      · rwa [show ((x.toNat : Nat) : Int) = x by omega] at h
    · intro h
      have := hl x h
      refine ⟨this.1, this.2, ?_⟩
      rw [hs]
      exact (mark_get l (reps m.length false) x.toNat fun x hx => by simpa using hl x hx).2 (.inr (by rw [show ((x.toNat : Nat) : Int) = x by omega]; exact h))
  · rw [ints_mem] at hx
    exact ⟨hx.1, hx.2.1⟩
/-- One mark more of those laid over. -/
theorem mark_ones (m s : List Bool) (g : Nat) (hg : g < m.length) : mark m (ints (ones s (g + 1))) = (mark m (ints (ones s g))).set g ((mark m (ints (ones s g))).getD g false || s.getD g false) := by
  rw [ones_succ, ints, List.map_append]
  cases h : s.getD g false with
  | true =>
    simp only [if_true, List.map_cons, List.map_nil, Bool.or_true]
    exact mark_snoc _ _ _
  | false =>
    simp only [Bool.or_false]
    rw [if_neg (by simp)]
    simp only [List.map_nil, List.append_nil]
    refine List.ext_getElem (by simp) fun i h1 h2 => ?_
    rw [List.getElem_set]
    split
    · rename_i hi
      subst hi
      rw [List.getD_eq_getElem?_getD]
      unfold ints
      rw [List.getElem?_eq_getElem h1]; rfl
    · rfl
/-- The numbers that are in, of two lengths of marks. -/
theorem goes_mem {p : Prog} (hw : Whole p) {y : Int} : y ∈ goesL p ↔ 0 ≤ y ∧ y.toNat < p.funcs.length ∧ Come (fun _ => true) (fake p) ((reps 8 false).set 0 true) y.toNat := by
  have h8 := hw.few
  have h1 := hw.one
  rw [goesL, ints_mem]
  constructor
  · rintro ⟨h0, h1', h2⟩
    have hc := (reachK_get h1').1 h2
    refine ⟨h0, ?_, hc⟩
    generalize y.toNat = k at hc
    cases hc with
    | start _ hi => 
      have := (oneN_get (n := 8) (by omega)).1 hi
      omega
    | step i x hc hi hT hx =>
      have := (fake_fine hw).behind i hi _ hx
      rw [fake_len] at this
      omega
  · rintro ⟨h0, h1', h2⟩
    exact ⟨h0, by omega, (reachK_get (by omega)).2 h2⟩
theorem goes_rise (p : Prog) : (goesL p).Pairwise (· < ·) := ints_rise _ _
/-- The document's marks of the functions that may be run. -/
noncomputable def goesN (p : Prog) : List Bool := reachK p.funcs.length (fun _ => true) (fake p) ((reps p.funcs.length false).set 0 true)
theorem goesN_list {p : Prog} (hw : Whole p) : ints (ones (goesN p) p.funcs.length) = goesL p := by
  have h1 := hw.one
  refine Srt.rise_eq (ints_rise _ _) (goes_rise p) fun y => ?_
  rw [goes_mem hw, ints_mem]
  refine and_congr Iff.rfl ⟨?_, ?_⟩
  · rintro ⟨h, h2⟩
    refine ⟨h, come_same (fun _ _ => rfl) (fun i hi => ?_) ((reachK_get h).1 h2)⟩
    rw [oneN_get (by omega)] at hi ⊢
    exact hi
  · rintro ⟨h, h2⟩
    refine ⟨h, (reachK_get h).2 (come_same (fun _ _ => rfl) (fun i hi => ?_) h2)⟩
    rw [oneN_get (by omega)] at hi ⊢
    exact hi
theorem goesN_mark {p : Prog} (hw : Whole p) : mark (reps p.funcs.length false) (goesL p) = goesN p := by
  rw [← goesN_list hw]
  refine marks_eq (by simp [goesN]) fun i hi => ?_
  have hi' : i < p.funcs.length := by simpa using hi
  rw [mark_get _ _ i fun x hx => by
    rw [ints_mem] at hx; simp; exact ⟨hx.1, hx.2.1⟩, zero_getD, ints_mem]
  simp [hi']
theorem goes_get {p : Prog} (hw : Whole p) {f : Nat} (hf : f < p.funcs.length) : (goesN p).getD f false = (goesM p).getD f false := by
  have h8 := hw.few
  have h1 := hw.one
  refine bool_same ?_
  rw [goesN, goesM, runM, reachK_get hf, reachK_get (by omega)]
  refine ⟨come_same (fun _ _ => rfl) fun i hi => ?_, come_same (fun _ _ => rfl) fun i hi => ?_⟩
  · rw [oneN_get (by omega)] at hi ⊢; exact hi
  · rw [oneN_get (by omega)] at hi ⊢; exact hi
/-- The places of a function that no run comes to. -/
noncomputable def idleF (p : Prog) (f n : Nat) : List (List AV) := ((List.range n).filter fun pc => !((goesM p).getD f false && (allM (p.funcs.getD f default)).getD pc false)).map fun (pc : Nat) => [.i .i64 (f : Int), .i .i64 (pc : Int)]
noncomputable def idleL (p : Prog) (k : Nat) : List (List AV) := (List.range k).flatMap fun f => idleF p f (p.funcs.getD f default).code.length
theorem idleF_succ (p : Prog) (f n : Nat) : idleF p f (n + 1) = idleF p f n ++ if !((goesM p).getD f false && (allM (p.funcs.getD f default)).getD n false) then [[.i .i64 (f : Int), .i .i64 (n : Int)]] else [] := by
  simp only [idleF, List.range_succ, List.filter_append, List.filter_cons, List.filter_nil, List.map_append]
  congr 1
  split <;> simp
theorem idleL_succ (p : Prog) (k : Nat) : idleL p (k + 1) = idleL p k ++ idleF p k (p.funcs.getD k default).code.length := by
  simp only [idleL, List.range_succ, List.flatMap_append, List.flatMap_cons, List.flatMap_nil, List.append_nil]
theorem idleF_len (p : Prog) (f n : Nat) : (idleF p f n).length ≤ n := by
  simp only [idleF, List.length_map]
  have := List.length_filter_le (fun pc => !((goesM p).getD f false && (allM (p.funcs.getD f default)).getD pc false)) (List.range n)
  simpa using this
theorem idleL_len {p : Prog} (h : ∀ f ∈ p.funcs, f.code.length ≤ 64) : ∀ k, k ≤ p.funcs.length → (idleL p k).length ≤ 64 * k
  | 0, _ => by simp [idleL]
  | k + 1, hk => by
    have ih := idleL_len h k (by omega)
    have h1 := idleF_len p k (p.funcs.getD k default).code.length
    have hkl : k < p.funcs.length := by omega
    have h2 := h (p.funcs.getD k default) (by rw [List.getD_eq_getElem?_getD, List.getElem?_eq_getElem hkl]; exact List.getElem_mem hkl)
    rw [idleL_succ, List.length_append]
    omega
/-- Does a stretch end at a place? -/
def endsAt (f : Func) (pc : Nat) : Bool := let o := (f.code.getD pc default).op; o == 42 || o == 43 || o == 61 || o == 45
/-- The places at which stretches begin, as they are told. -/
def headB (f : Func) (pc : Nat) : List Int := if endsAt f pc then behindL f pc ++ (if pc + 1 < f.code.length then [(pc : Int) + 1] else []) else []
def headsX (f : Func) (n : Nat) : List Int := (List.range n).flatMap (headB f)
theorem headsX_succ (f : Func) (n : Nat) : headsX f (n + 1) = headsX f n ++ headB f n := by simp [headsX, List.range_succ]
theorem headB_in {f : Func} (hf : Fine f) {pc : Nat} (hpc : pc < f.code.length) : ∀ x ∈ headB f pc, 0 ≤ x ∧ x < f.code.length := fun x hx => by
  unfold headB at hx
  split at hx
  · rcases List.mem_append.1 hx with h | h
    · exact hf.behind pc hpc x h
    · split at h
      · simp only [List.mem_singleton] at h; omega
      · simp at h
  · simp at hx
theorem headsX_in {f : Func} (hf : Fine f) {n : Nat} (hn : n ≤ f.code.length) : ∀ x ∈ headsX f n, 0 ≤ x ∧ x < f.code.length := fun x hx => by
  obtain ⟨pc, h1, h2⟩ := List.mem_flatMap.1 hx
  rw [List.mem_range] at h1
  exact headB_in hf (by omega) x h2
/-- The places at which stretches begin. -/
def headsL (f : Func) : List Int := ints (ones (mark ((reps 64 false).set 0 true) (headsX f f.code.length)) f.code.length)
theorem heads_mem {f : Func} (hf : Fine f) (h1 : 0 < f.code.length) {y : Int} : y ∈ headsL f ↔ y = 0 ∨ y ∈ headsX f f.code.length := by
  have hl := hf.len
  have hin : ∀ x ∈ headsX f f.code.length, 0 ≤ x ∧ x.toNat < ((reps 64 false).set 0 true).length := fun x hx => by
    have := headsX_in hf (Nat.le_refl _) x hx
    simp; omega
  rw [headsL, ints_mem]
  constructor
  · rintro ⟨h0, h2, h3⟩
    rcases (mark_get _ _ y.toNat hin).1 h3 with h | h
    · have := (oneN_get (n := 64) (by omega)).1 h
      exact .inl (by omega)
    · rw [show ((y.toNat : Nat) : Int) = y by omega] at h
      exact .inr h
  · rintro (rfl | h)
    · exact ⟨by omega, by simpa using h1, (mark_get _ _ 0 hin).2 (.inl ((oneN_get (n := 64) (by omega)).2 rfl))⟩
    · have := headsX_in hf (Nat.le_refl _) y h
      exact ⟨this.1, by omega, (mark_get _ _ y.toNat hin).2 (.inr (by rw [show ((y.toNat : Nat) : Int) = y by omega]; exact h))⟩
/-- Numbers put into a list, one after another. -/
def insOn (o l : List Int) : List Int := l.foldl (fun l x => ins x l) o
theorem insOn_app (o a b : List Int) : insOn o (a ++ b) = insOn (insOn o a) b := by simp [insOn]
theorem insOn_take (o : List Int) {l : List Int} {i : Nat} {x : Int} (h : l[i]? = some x) : insOn o (l.take (i + 1)) = ins x (insOn o (l.take i)) := foldl_take (fun l x => ins x l) o h
/-- What the document puts for a place. -/
def headD (f : Func) (pc : Nat) : List Int := if endsAt f pc then (if pc + 1 < f.code.length then [(pc : Int) + 1] else []) ++ nextL f pc else []
def headsD (f : Func) (n : Nat) : List Int := (List.range n).flatMap (headD f)
theorem headsD_succ (f : Func) (n : Nat) : headsD f (n + 1) = headsD f n ++ headD f n := by simp [headsD, List.range_succ]
theorem headsD_mem {f : Func} (hf : Fine f) {y : Int} : y ∈ headsD f f.code.length ↔ y ∈ headsX f f.code.length := by
  simp only [headsD, headsX, List.mem_flatMap, List.mem_range]
  refine exists_congr fun pc => and_congr_right fun hpc => ?_
  unfold headD headB
  split
  · rw [List.mem_append, List.mem_append, next_mem hf hpc]
    exact Or.comm
  · exact Iff.rfl
theorem headsD_eq {f : Func} (hf : Fine f) (h1 : 0 < f.code.length) : insOn [0] (headsD f f.code.length) = headsL f := by
  have h := insAll_go (headsD f f.code.length) [0] (List.pairwise_singleton _ _)
  refine Srt.rise_eq h.1 (ints_rise _ _) fun y => ?_
  rw [heads_mem hf h1, ← headsD_mem hf]
  refine (h.2 y).trans ?_
  rw [List.mem_singleton]
  exact Or.comm
theorem insOn_len (o l : List Int) : (insOn o l).length ≤ o.length + l.length := by
  induction l generalizing o with
  | nil => simp [insOn]
  | cons x l ih =>
    have h1 := ih (ins x o)
    have h2 : (ins x o).length ≤ o.length + 1 := by
      clear h1 ih
      induction o with
      | nil => simp [ins]
      | cons y o ih2 =>
        rw [ins]
        split
        · simp; omega
        · split <;> simp
    simp only [insOn, List.foldl_cons, List.length_cons] at h1 ⊢
    omega
theorem nextL_len' (f : Func) (pc : Nat) : (nextL f pc).length ≤ f.code.length := by simp only [nextL, ints, List.length_map]; exact ones_len _ _
theorem headD_len (f : Func) (n : Nat) : (headD f n).length ≤ 1 + f.code.length := by
  have h1 := nextL_len' f n
  unfold headD
  split
  · rw [List.length_append]; split <;> simp <;> omega
  · simp
theorem headsD_len {f : Func} (hf : f.code.length ≤ 64) : ∀ n, (headsD f n).length ≤ 65 * n
  | 0 => by simp [headsD]
  | n + 1 => by
    have := headD_len f n
    have := headsD_len hf n
    rw [headsD_succ, List.length_append]; omega
end Go.Sc.Fl
/- Chapter 06, in plain words: what may be touched. No condition. -/
set_option linter.constructorNameAsVariable false
namespace Go.Sc.Fl
open Go Go.Av Go.Sc
set_option linter.unusedSimpArgs false
set_option linter.unusedVariables false
/-- An access: kind, number, written. -/
structure Acc where
  k : Int
  n : Int
  w : Bool
  deriving DecidableEq, Inhabited
def Acc.row (a : Acc) : List AV := [.i .i64 a.k, .i .i64 a.n, .b a.w]
@[simp] theorem Acc.row_length (a : Acc) : a.row.length = 3 := rfl
@[simp] theorem Acc.row_take (a : Acc) : a.row.take 3 = a.row := rfl
/-- Of one place. -/
def Acc.at (x a : Acc) : Prop := x.k = a.k ∧ x.n = a.n
instance (x a : Acc) : Decidable (x.at a) := inferInstanceAs (Decidable (_ ∧ _))
def Acc.lt (x a : Acc) : Prop := x.k < a.k ∨ x.k = a.k ∧ x.n < a.n
instance (x a : Acc) : Decidable (x.lt a) := inferInstanceAs (Decidable (_ ∨ _))
/-- An access put into a list that is in order. -/
def addA (a : Acc) : List Acc → List Acc
  | [] => [a]
  | x :: l => if x.at a then ⟨x.k, x.n, x.w || a.w⟩ :: l else if a.lt x then a :: x :: l else x :: addA a l
/-- One item looked at, as the document's Add does. -/
def addStep (a : Acc) (s : List Acc × Bool) (x : Acc) : List Acc × Bool :=
  if s.2 = false ∧ x.at a then (s.1 ++ [⟨x.k, x.n, x.w || a.w⟩], true)
  else if s.2 = false ∧ a.lt x then (s.1 ++ [a, x], true) else (s.1 ++ [x], s.2)
theorem addStep_done (a : Acc) : ∀ (l o : List Acc), l.foldl (addStep a) (o, true) = (o ++ l, true)
  | [], o => by simp
  | x :: l, o => by
    rw [List.foldl_cons, show addStep a (o, true) x = (o ++ [x], true) by simp [addStep], addStep_done]
    simp
theorem addStep_all (a : Acc) : ∀ (l o : List Acc), (if (l.foldl (addStep a) (o, false)).2 then (l.foldl (addStep a) (o, false)).1 else (l.foldl (addStep a) (o, false)).1 ++ [a]) = o ++ addA a l
  | [], o => by simp [addA]
  | x :: l, o => by
    rw [List.foldl_cons, addA]
    by_cases h1 : x.at a
    · rw [if_pos h1, show addStep a (o, false) x = (o ++ [⟨x.k, x.n, x.w || a.w⟩], true) by simp [addStep, h1], addStep_done]
      simp
    · rw [if_neg h1]
      by_cases h2 : a.lt x
      · rw [if_pos h2, show addStep a (o, false) x = (o ++ [a, x], true) by simp [addStep, h1, h2], addStep_done]
        simp
      · rw [if_neg h2, show addStep a (o, false) x = (o ++ [x], false) by simp [addStep, h1, h2], addStep_all a l]
        simp
theorem addA_len (a : Acc) : ∀ l : List Acc, (addA a l).length ≤ l.length + 1
  | [] => by simp [addA]
  | x :: l => by
    have := addA_len a l
    rw [addA]
    split
    · simp
    · split <;> simp; omega
theorem addA_lt (a : Acc) : ∀ (l1 l2 : List Acc), (∀ x ∈ l1, x.lt a) → addA a (l1 ++ l2) = l1 ++ addA a l2
  | [], l2, _ => rfl
  | x :: l1, l2, h => by
    have hx := h x (by simp)
    have ih := addA_lt a l1 l2 fun y hy => h y (by simp [hy])
    rw [List.cons_append, addA, if_neg (fun e => by unfold Acc.at at e; unfold Acc.lt at hx; omega), if_neg (fun e => by unfold Acc.lt at e hx; omega), ih]
    rfl
theorem addA_gt (a : Acc) (l : List Acc) (h : ∀ x ∈ l, a.lt x) : addA a l = a :: l := by
  cases l with
  | nil => rfl
  | cons x l =>
    have hx := h x (by simp)
    rw [addA, if_neg (fun e => by unfold Acc.at at e; unfold Acc.lt at hx; omega), if_pos hx]
/-- A bag: how each of 56 is touched. -/
def Bag (b : List Int) : Prop := b.length = 56 ∧ ∀ x ∈ b, 0 ≤ x ∧ x ≤ 2
def bag0 : List Int := reps 56 0
theorem bag0_ok : Bag bag0 := ⟨by simp [bag0], fun x hx => by simp [bag0] at hx; omega⟩
/-- A touch: kind, number, how. -/
abbrev Tch := Int × Int × Int
def InB (t : Tch) : Prop := 0 ≤ t.1 ∧ t.1 < 7 ∧ 0 ≤ t.2.1 ∧ t.2.1 < 8 ∧ 1 ≤ t.2.2 ∧ t.2.2 ≤ 2
def cell (t : Tch) : Nat := 8 * t.1.toNat + t.2.1.toNat
theorem cell_lt {t : Tch} (h : InB t) : cell t < 56 := by unfold InB at h; unfold cell; omega
def putB (b : List Int) (t : Tch) : List Int := b.set (cell t) (max (b.getD (cell t) 0) t.2.2)
def putsB (b : List Int) (l : List Tch) : List Int := l.foldl putB b
theorem putsB_app (b : List Int) (l l' : List Tch) : putsB b (l ++ l') = putsB (putsB b l) l' := by simp [putsB]
theorem putsB_snoc (b : List Int) (l : List Tch) (t : Tch) : putsB b (l ++ [t]) = putB (putsB b l) t := by simp [putsB]
theorem putsB_take (b : List Int) {l : List Tch} {i : Nat} {x : Tch} (h : l[i]? = some x) : putsB b (l.take (i + 1)) = putB (putsB b (l.take i)) x := foldl_take putB b h
@[simp] theorem putB_length (b : List Int) (t : Tch) : (putB b t).length = b.length := by simp [putB]
@[simp] theorem putsB_length : ∀ (l : List Tch) (b : List Int), (putsB b l).length = b.length
  | [], b => rfl
  | t :: l, b => by rw [putsB, List.foldl_cons]; exact (putsB_length l _).trans (by simp)
theorem getD_set (b : List Int) (c i : Nat) (x : Int) (hc : c < b.length) : (b.set c x).getD i 0 = if c = i then x else b.getD i 0 := by
  simp only [List.getD_eq_getElem?_getD, List.getElem?_set]
  by_cases h : c = i
  · subst h; simp [hc]
  · simp [h]
theorem bag_get {b : List Int} (hb : Bag b) (i : Nat) : 0 ≤ b.getD i 0 ∧ b.getD i 0 ≤ 2 := by
  by_cases h : i < b.length
  · have := hb.2 b[i] (List.getElem_mem h)
    rw [List.getD_eq_getElem?_getD, List.getElem?_eq_getElem h]
    exact this
  · rw [List.getD_eq_getElem?_getD, List.getElem?_eq_none (by omega)]
    simp
theorem putB_ok {b : List Int} (hb : Bag b) {t : Tch} (ht : InB t) : Bag (putB b t) := by
  refine ⟨by simp [hb.1], fun x hx => ?_⟩
  rcases List.mem_or_eq_of_mem_set hx with h | h
  · exact hb.2 x h
  · have := bag_get hb (cell t)
    unfold InB at ht
    subst h
    omega
theorem putsB_ok : ∀ {l : List Tch} {b : List Int}, Bag b → (∀ t ∈ l, InB t) → Bag (putsB b l)
  | [], b, hb, _ => hb
  | t :: l, b, hb, h => by
    rw [putsB, List.foldl_cons]
    exact putsB_ok (putB_ok hb (h t (by simp))) fun x hx => h x (by simp [hx])
/-- How a cell is touched: at most as the bag has it, and some touch does it. -/
theorem putsB_get : ∀ {l : List Tch} {b : List Int} {i : Nat} {z : Int}, b.length = 56 → (∀ t ∈ l, InB t) → ((putsB b l).getD i 0 ≤ z ↔ b.getD i 0 ≤ z ∧ ∀ t ∈ l, cell t = i → t.2.2 ≤ z)
  | [], b, i, z, _, _ => by simp [putsB]
  | t :: l, b, i, z, hb, h => by
    rw [putsB, List.foldl_cons]
    have ih := putsB_get (l := l) (b := putB b t) (i := i) (z := z) (by simp [hb]) fun x hx => h x (by simp [hx])
    refine Iff.trans ih ?_
    rw [putB, getD_set _ _ _ _ (by rw [hb]; exact cell_lt (h t (by simp)))]
    constructor
    · rintro ⟨h1, h2⟩
      split at h1
      · rename_i hc
        subst hc
        refine ⟨by omega, fun x hx hxc => ?_⟩
        rcases List.mem_cons.1 hx with rfl | hx
        · omega
        · exact h2 x hx hxc
      · rename_i hc
        refine ⟨h1, fun x hx hxc => ?_⟩
        rcases List.mem_cons.1 hx with rfl | hx
        · exact absurd hxc hc
        · exact h2 x hx hxc
    · rintro ⟨h1, h2⟩
      refine ⟨?_, fun x hx => h2 x (by simp [hx])⟩
      split
      · rename_i hc
        have := h2 t (by simp) hc
        rw [hc]
        omega
      · exact h1
/-- Bags of the same touches are the same. -/
theorem putsB_same {l l' : List Tch} {b : List Int} (hb : b.length = 56) (h : ∀ t, t ∈ l ↔ t ∈ l') (hl : ∀ t ∈ l, InB t) : putsB b l = putsB b l' := by
  refine List.ext_getElem (by simp) fun i h1 h2 => ?_
  have hl' : ∀ t ∈ l', InB t := fun t ht => hl t ((h t).2 ht)
  have key : ∀ z, (putsB b l).getD i 0 ≤ z ↔ (putsB b l').getD i 0 ≤ z := fun z => by
    rw [putsB_get hb hl, putsB_get hb hl']
    refine and_congr Iff.rfl (forall_congr' fun t => ?_)
    rw [h]
  have g1 : (putsB b l).getD i 0 = (putsB b l)[i] := by rw [List.getD_eq_getElem?_getD, List.getElem?_eq_getElem h1]; rfl
  have g2 : (putsB b l').getD i 0 = (putsB b l')[i] := by rw [List.getD_eq_getElem?_getD, List.getElem?_eq_getElem h2]; rfl
  rw [g1, g2] at key
  have a1 := (key (putsB b l)[i]).1 (Int.le_refl _)
  have a2 := (key (putsB b l')[i]).2 (Int.le_refl _)
  omega
/-- The access that a bag has in a cell. -/
def accOf (b : List Int) (c : Nat) : Acc := ⟨((c / 8 : Nat) : Int), ((c % 8 : Nat) : Int), decide (b.getD c 0 = 2)⟩
def accR (b : List Int) (l : List Nat) : List Acc := (l.filter fun c => decide (0 < b.getD c 0)).map (accOf b)
/-- A bag's accesses, in their order. -/
def accs (b : List Int) : List Acc := accR b (List.range 56)
theorem accR_app (b : List Int) (l l' : List Nat) : accR b (l ++ l') = accR b l ++ accR b l' := by simp [accR]
theorem accR_same {b b' : List Int} : ∀ {l : List Nat}, (∀ c ∈ l, b.getD c 0 = b'.getD c 0) → accR b l = accR b' l
  | [], _ => rfl
  | c :: l, h => by
    have ih := accR_same (b := b) (b' := b') (l := l) fun x hx => h x (by simp [hx])
    have hc := h c (by simp)
    have e1 : accOf b c = accOf b' c := by unfold accOf; rw [hc]
    rw [show c :: l = [c] ++ l from rfl, accR_app, accR_app, ih]
    congr 1
    simp only [accR, List.filter_cons, List.filter_nil, hc]
    split <;> simp [e1]
theorem accR_mem {b : List Int} {l : List Nat} {x : Acc} (h : x ∈ accR b l) : ∃ c ∈ l, 0 < b.getD c 0 ∧ x = accOf b c := by
  simp only [accR, List.mem_map, List.mem_filter, decide_eq_true_eq] at h
  obtain ⟨c, ⟨h1, h2⟩, rfl⟩ := h
  exact ⟨c, h1, h2, rfl⟩
theorem accOf_lt {b b' : List Int} {c d : Nat} (h : c < d) : (accOf b c).lt (accOf b' d) := by
  unfold Acc.lt accOf
  simp only
  omega
theorem range_split {c n : Nat} (h : c < n) : List.range n = List.range c ++ c :: (List.range (n - c - 1)).map fun i => c + 1 + i := by
  have h1 : List.range n = List.range (c + (1 + (n - c - 1))) := by congr 1; omega
  rw [h1, List.range_add, List.range_add]
  simp [Function.comp_def, Nat.add_assoc]
/-- An access added to those of a bag. -/
theorem addA_accs {b : List Int} (hb : Bag b) {t : Tch} (ht : InB t) : addA ⟨t.1, t.2.1, decide (t.2.2 = 2)⟩ (accs b) = accs (putB b t) := by
  have hc := cell_lt ht
  have ha : (⟨t.1, t.2.1, decide (t.2.2 = 2)⟩ : Acc) = ⟨((cell t / 8 : Nat) : Int), ((cell t % 8 : Nat) : Int), decide (t.2.2 = 2)⟩ := by
    unfold InB at ht
    unfold cell
    congr 1 <;> omega
  rw [ha]
  have hlo : ∀ c ∈ List.range (cell t), b.getD c 0 = (putB b t).getD c 0 := fun c h => by
    rw [List.mem_range] at h
    rw [putB, getD_set _ _ _ _ (by rw [hb.1]; exact hc), if_neg (by omega)]
  have hhi : ∀ c ∈ (List.range (56 - cell t - 1)).map (fun i => cell t + 1 + i), b.getD c 0 = (putB b t).getD c 0 := fun c h => by
    obtain ⟨i, _, rfl⟩ := List.mem_map.1 h
    rw [putB, getD_set _ _ _ _ (by rw [hb.1]; exact hc), if_neg (by omega)]
  have hmid : (putB b t).getD (cell t) 0 = max (b.getD (cell t) 0) t.2.2 := by
    rw [putB, getD_set _ _ _ _ (by rw [hb.1]; exact hc), if_pos rfl]
  unfold accs
  rw [range_split hc, show List.range (cell t) ++ cell t :: (List.range (56 - cell t - 1)).map (fun i => cell t + 1 + i) = List.range (cell t) ++ ([cell t] ++ (List.range (56 - cell t - 1)).map (fun i => cell t + 1 + i)) by simp]
  rw [accR_app, accR_app, accR_app, accR_app, accR_same hlo, accR_same hhi]
  generalize hH : accR (putB b t) ((List.range (56 - cell t - 1)).map (fun i => cell t + 1 + i)) = H
  have hHgt : ∀ x ∈ H, (⟨((cell t / 8 : Nat) : Int), ((cell t % 8 : Nat) : Int), decide (t.2.2 = 2)⟩ : Acc).lt x := fun x hx => by
    rw [← hH] at hx
    obtain ⟨c, h1, _, rfl⟩ := accR_mem hx
    obtain ⟨i, _, rfl⟩ := List.mem_map.1 h1
    exact accOf_lt (b := putB b t) (b' := putB b t) (c := cell t) (d := cell t + 1 + i) (by omega)
  rw [addA_lt _ _ _ fun x hx => by
    obtain ⟨c, h1, _, rfl⟩ := accR_mem hx
    rw [List.mem_range] at h1
    exact accOf_lt (b := putB b t) (b' := putB b t) h1]
  congr 1
  have hb2 := bag_get hb (cell t)
  have ht2 := ht.2.2.2.2
  simp only [accR, List.filter_cons, List.filter_nil, hmid]
  by_cases h0 : 0 < b.getD (cell t) 0
  · rw [if_pos (decide_eq_true h0), if_pos (decide_eq_true (by omega))]
    simp only [List.map_cons, List.map_nil, List.cons_append, List.nil_append]
    rw [addA, if_pos (by unfold Acc.at accOf; simp)]
    congr 1
    unfold accOf
    rw [hmid]
    congr 1
    rw [Bool.eq_iff_iff]
    simp only [Bool.or_eq_true, decide_eq_true_eq]
    omega
  · rw [if_neg (by rw [decide_eq_true_eq]; exact h0), if_pos (decide_eq_true (by omega))]
    simp only [List.map_cons, List.map_nil, List.cons_append, List.nil_append]
    rw [addA_gt _ _ hHgt]
    congr 1
    unfold accOf
    rw [hmid]
    congr 1
    rw [decide_eq_decide]
    omega
theorem accs_zero : accs bag0 = [] := by decide +kernel
theorem accs_len (b : List Int) : (accs b).length ≤ 56 := by
  simp only [accs, accR, List.length_map]
  have := List.length_filter_le (fun c => decide (0 < b.getD c 0)) (List.range 56)
  simpa using this
/-- What an instruction may touch. -/
def tcI (f : Func) (i : Instr) : List Tch :=
  if i.op = 50 then [(1, i.b, 1)] else if i.op = 54 then [(1, i.a, 1)] else if i.op = 51 then [(1, i.a, 2)]
  else if i.op = 52 ∨ i.op = 53 then [(1, i.b, 2)] else if i.op = 55 ∨ i.op = 56 then [(2, i.a, 2)] else if i.op = 57 then [(2, i.b, 2)]
  else if i.op = 58 ∨ i.op = 60 then [(3, i.a, 2)] else if i.op = 59 then [(3, i.b, 2)]
  else if i.op = 61 then (f.selects.getD i.a.toNat default).cases.map fun c => (3, c.chan, 2)
  else if i.op = 62 then [(4, 0, 2), (5, 1, 2), (5, 2, 2), (5, 3, 2), (5, 4, 2), (5, 5, 2)]
  else if i.op = 63 then [(4, 0, 1), (5, 0, 1), (5, 1, 1), (5, 2, 1), (5, 3, 1), (5, 4, 1), (5, 5, 1)]
  else if i.op = 65 then [(6, 0, 2)] else []
def tcAt (f : Func) (pc : Nat) : List Tch := tcI f (f.code.getD pc default)
def tcL (f : Func) (l : List Nat) : List Tch := l.flatMap (tcAt f)
/-- A program whose instructions touch what there is. -/
def Neat (p : Prog) : Prop := ∀ f ∈ p.funcs, ∀ pc, pc < f.code.length → ∀ t ∈ tcAt f pc, InB t
theorem right_neat {p : Prog} (h : (check p).1 = 0) : Neat p := by
  have hr := right_of h
  have hv := hr.vars
  have hlk := hr.locks
  have hch := hr.chans
  intro f hf pc hpc t ht
  have hF := hr.func f hf
  have hat : insE p f (f.code.getD pc default) = 0 := hF.ins _ (by
    rw [List.getD_eq_getElem?_getD, List.getElem?_eq_getElem hpc]; exact List.getElem_mem hpc)
  unfold tcAt at ht
  generalize f.code.getD pc default = i at hat ht
  have vo : ∀ {n : Int}, objE n p.vars.length = 0 → 0 ≤ n ∧ n < 8 := fun h => by have := objE_zero.1 h; omega
  have lo : ∀ {n : Int}, objE n p.locks = 0 → 0 ≤ n ∧ n < 8 := fun h => by have := objE_zero.1 h; omega
  have co : ∀ {n : Int}, objE n p.chans.length = 0 → 0 ≤ n ∧ n < 8 := fun h => by have := objE_zero.1 h; omega
  have ao : ∀ {n b : Int}, opE p f (97 : UInt8).toNat n b = 0 → 0 ≤ n ∧ n < 8 := fun {n b} h => by
    have h' : (if within n p.vars.length then (if (p.vars.getD n.toNat default).atomic then 0 else 37) else 36 : Int) = 0 := h
    split at h'
    · rename_i hw; have := within_iff.1 hw; omega
    · cases h'
  unfold tcI at ht
  by_cases e : i.op = 50
  · rw [if_pos e] at ht
    have := vo (insE_split (l0 := 114) (l1 := 118) (l2 := 45) (l3 := 45) hat (by rw [e]; rfl)).2
    simp only [List.mem_singleton] at ht; subst ht; unfold InB; simp only; omega
  rw [if_neg e] at ht; clear e
  by_cases e : i.op = 54
  · rw [if_pos e] at ht
    have := ao (insE_split (l0 := 97) (l1 := 114) (l2 := 45) (l3 := 45) hat (by rw [e]; rfl)).1
    simp only [List.mem_singleton] at ht; subst ht; unfold InB; simp only; omega
  rw [if_neg e] at ht; clear e
  by_cases e : i.op = 51
  · rw [if_pos e] at ht
    have := vo (insE_split (l0 := 118) (l1 := 114) (l2 := 45) (l3 := 45) hat (by rw [e]; rfl)).1
    simp only [List.mem_singleton] at ht; subst ht; unfold InB; simp only; omega
  rw [if_neg e] at ht; clear e
  by_cases e : i.op = 52 ∨ i.op = 53
  · rw [if_pos e] at ht
    have : 0 ≤ i.b ∧ i.b < 8 := by
      rcases e with e | e
      · exact ao (insE_split (l0 := 111) (l1 := 97) (l2 := 114) (l3 := 45) hat (by rw [e]; rfl)).2
      · exact ao (insE_split (l0 := 114) (l1 := 97) (l2 := 114) (l3 := 119) hat (by rw [e]; rfl)).2
    simp only [List.mem_singleton] at ht; subst ht; unfold InB; simp only; omega
  rw [if_neg e] at ht; clear e
  by_cases e : i.op = 55 ∨ i.op = 56
  · rw [if_pos e] at ht
    have : 0 ≤ i.a ∧ i.a < 8 := by
      rcases e with e | e
      · exact lo (insE_split (l0 := 108) (l1 := 45) (l2 := 45) (l3 := 45) hat (by rw [e]; rfl)).1
      · exact lo (insE_split (l0 := 108) (l1 := 45) (l2 := 45) (l3 := 45) hat (by rw [e]; rfl)).1
    simp only [List.mem_singleton] at ht; subst ht; unfold InB; simp only; omega
  rw [if_neg e] at ht; clear e
  by_cases e : i.op = 57
  · rw [if_pos e] at ht
    have := lo (insE_split (l0 := 114) (l1 := 108) (l2 := 45) (l3 := 45) hat (by rw [e]; rfl)).2
    simp only [List.mem_singleton] at ht; subst ht; unfold InB; simp only; omega
  rw [if_neg e] at ht; clear e
  by_cases e : i.op = 58 ∨ i.op = 60
  · rw [if_pos e] at ht
    have : 0 ≤ i.a ∧ i.a < 8 := by
      rcases e with e | e
      · exact co (insE_split (l0 := 99) (l1 := 114) (l2 := 45) (l3 := 45) hat (by rw [e]; rfl)).1
      · exact co (insE_split (l0 := 99) (l1 := 45) (l2 := 45) (l3 := 45) hat (by rw [e]; rfl)).1
    simp only [List.mem_singleton] at ht; subst ht; unfold InB; simp only; omega
  rw [if_neg e] at ht; clear e
  by_cases e : i.op = 59
  · rw [if_pos e] at ht
    have := co (insE_split (l0 := 111) (l1 := 99) (l2 := 111) (l3 := 45) hat (by rw [e]; rfl)).2
    simp only [List.mem_singleton] at ht; subst ht; unfold InB; simp only; omega
  rw [if_neg e] at ht; clear e
  by_cases e : i.op = 61
  · rw [if_pos e] at ht
    obtain ⟨c, hc, rfl⟩ := List.mem_map.1 ht
    have h1 := objE_zero.1 (insE_split (l0 := 115) (l1 := 45) (l2 := 45) (l3 := 45) hat (by rw [e]; rfl)).1
    have hlt : i.a.toNat < f.selects.length := by omega
    have hsd : f.selects.getD i.a.toNat default = f.selects[i.a.toNat] := by rw [List.getD_eq_getElem?_getD, List.getElem?_eq_getElem hlt]; rfl
    rw [hsd] at hc
    have hs := (hF.sel _ (List.getElem_mem hlt)).2
    generalize f.selects[i.a.toNat] = s at hs hc
    have hcE : caseE p f c = 0 := by
      unfold selE at hs
      by_cases h1 : firstE (caseE p f) s.cases = 0
      · exact firstE_zero h1 c hc
      · exfalso
        rw [if_pos h1] at hs
        exact h1 hs
    have hcc : 0 ≤ c.chan ∧ c.chan < 8 := by
      unfold caseE at hcE
      by_cases h1 : objE c.chan p.chans.length = 0
      · exact co h1
      · rw [if_pos h1] at hcE; cases hcE
    unfold InB; simp only; omega
  rw [if_neg e] at ht; clear e
  by_cases e : i.op = 62
  · rw [if_pos e] at ht
    simp only [List.mem_cons, List.not_mem_nil, or_false] at ht
    rcases ht with rfl | rfl | rfl | rfl | rfl | rfl <;> (unfold InB; decide)
  rw [if_neg e] at ht; clear e
  by_cases e : i.op = 63
  · rw [if_pos e] at ht
    simp only [List.mem_cons, List.not_mem_nil, or_false] at ht
    rcases ht with rfl | rfl | rfl | rfl | rfl | rfl | rfl <;> (unfold InB; decide)
  rw [if_neg e] at ht; clear e
  by_cases e : i.op = 65
  · rw [if_pos e] at ht
    simp only [List.mem_singleton] at ht; subst ht; unfold InB; decide
  rw [if_neg e] at ht; clear e
  simp at ht
/-- The marks of the functions that a function's marked places run. -/
noncomputable def runsM (p : Prog) (f : Func) (m : List Bool) : List Bool := runM p (mark (reps 8 false) (spL f (ones m f.code.length)))
@[simp] theorem runsM_length (p : Prog) (f : Func) (m : List Bool) : (runsM p f m).length = 8 := by simp [runsM]
/-- All that some functions touch. -/
noncomputable def tcG (p : Prog) (l : List Nat) : List Tch := l.flatMap fun g => tcL (p.funcs.getD g default) (ones (allM (p.funcs.getD g default)) (p.funcs.getD g default).code.length)
/-- The places that may be come to from one, marked. -/
noncomputable def fromM (f : Func) (pc : Nat) : List Bool := reachM (fun _ => true) f ((reps 64 false).set pc true)
@[simp] theorem fromM_length (f : Func) (pc : Nat) : (fromM f pc).length = 64 := by simp [fromM]
/-- All that may be touched from a place on. -/
noncomputable def mayT (p : Prog) (f pc : Nat) : List Tch :=
  tcL (p.funcs.getD f default) (ones (fromM (p.funcs.getD f default) pc) (p.funcs.getD f default).code.length) ++ tcG p (ones (runsM p (p.funcs.getD f default) (fromM (p.funcs.getD f default) pc)) 8)
theorem run_in {p : Prog} (hw : Whole p) {m : List Bool} (hm : ∀ i, m.getD i false = true → i < p.funcs.length) {i : Nat} (h : Come (fun _ => true) (fake p) m i) : i < p.funcs.length := by
  cases h with
  | start _ hi => exact hm _ hi
  | step i x hc hi hT hx =>
    have := (fake_fine hw).behind i hi _ hx
    rw [fake_len] at this
    omega
theorem mark_in8 {p : Prog} (hw : Whole p) {l : List Int} (hl : ∀ x ∈ l, 0 ≤ x ∧ x < p.funcs.length) {i : Nat} (h : (mark (reps 8 false) l).getD i false = true) : i < p.funcs.length := by
  have h8 := hw.few
  rcases (mark_get l (reps 8 false) i fun x hx => by have := hl x hx; simp; omega).1 h with h | h
  · rw [zero_getD] at h; cases h
  · have := hl _ h; omega
theorem runs_in {p : Prog} (hw : Whole p) {f : Func} (hf : f ∈ p.funcs) {m : List Bool} {g : Nat} (hg : g < 8) (h : (runsM p f m).getD g false = true) : g < p.funcs.length :=
  run_in hw (fun _ h => mark_in8 hw (spL_in hw hf ones_in) h) ((reachK_get hg).1 h)
theorem tcG_ones (p : Prog) (m : List Bool) (n : Nat) : tcG p (ones m (n + 1)) = tcG p (ones m n) ++ if m.getD n false then tcL (p.funcs.getD n default) (ones (allM (p.funcs.getD n default)) (p.funcs.getD n default).code.length) else [] := by
  rw [ones_succ, tcG, List.flatMap_append]
  congr 1
  split <;> simp
theorem tcL_in {p : Prog} (h : Neat p) {f : Func} (hf : f ∈ p.funcs) {l : List Nat} (hl : ∀ pc ∈ l, pc < f.code.length) : ∀ t ∈ tcL f l, InB t := fun t ht => by
  obtain ⟨pc, h1, h2⟩ := List.mem_flatMap.1 ht
  exact h f hf pc (hl pc h1) t h2
theorem tcG_in {p : Prog} (h : Neat p) {l : List Nat} (hl : ∀ g ∈ l, g < p.funcs.length) : ∀ t ∈ tcG p l, InB t := fun t ht => by
  obtain ⟨g, h1, h2⟩ := List.mem_flatMap.1 ht
  have hg := hl g h1
  rw [List.getD_eq_getElem?_getD, List.getElem?_eq_getElem hg] at h2
  exact tcL_in h (List.getElem_mem hg) ones_in t h2
theorem ones_mem {m : List Bool} {n i : Nat} : i ∈ ones m n ↔ i < n ∧ m.getD i false = true := by
  simp only [ones, List.mem_filter, List.mem_range]
theorem mayT_in {p : Prog} (h : Neat p) (hw : Whole p) {f : Nat} (hf : f < p.funcs.length) (pc : Nat) : ∀ t ∈ mayT p f pc, InB t := fun t ht => by
  have hgd : p.funcs.getD f default = p.funcs[f] := by rw [List.getD_eq_getElem?_getD, List.getElem?_eq_getElem hf]; rfl
  rw [mayT, hgd] at ht
  rcases List.mem_append.1 ht with ht | ht
  · exact tcL_in h (List.getElem_mem hf) ones_in t ht
  · exact tcG_in h (fun g hg => by
      rw [ones_mem] at hg
      exact runs_in hw (List.getElem_mem hf) hg.1 hg.2) t ht
end Go.Sc.Fl
/- Chapter 06, in plain words: what may be touched, by the document. No condition. -/
set_option linter.constructorNameAsVariable false
namespace Go.Sc.Fl
open Go Go.Av Go.Sc
set_option linter.unusedSimpArgs false
set_option linter.unusedVariables false
/-- A bag's touches. -/
def bagT (b : List Int) : List Tch := ((List.range 56).filter fun c => decide (0 < b.getD c 0)).map fun c => (((c / 8 : Nat) : Int), ((c % 8 : Nat) : Int), b.getD c 0)
theorem bagT_mem {b : List Int} {t : Tch} (h : t ∈ bagT b) : ∃ c < 56, 0 < b.getD c 0 ∧ t = (((c / 8 : Nat) : Int), ((c % 8 : Nat) : Int), b.getD c 0) := by
  simp only [bagT, List.mem_map, List.mem_filter, List.mem_range, decide_eq_true_eq] at h
  obtain ⟨c, ⟨h1, h2⟩, rfl⟩ := h
  exact ⟨c, h1, h2, rfl⟩
theorem bagT_in {b : List Int} (hb : Bag b) : ∀ t ∈ bagT b, InB t := fun t h => by
  obtain ⟨c, h1, h2, rfl⟩ := bagT_mem h
  have := bag_get hb c
  unfold InB
  simp only
  omega
theorem bagT_len (b : List Int) : (bagT b).length = (accs b).length := by simp [bagT, accs, accR]
theorem bagT_accs (b : List Int) {i : Nat} (h : i < (accs b).length) : ∃ t, (bagT b)[i]? = some t ∧ (accs b)[i] = ⟨t.1, t.2.1, decide (t.2.2 = 2)⟩ := by
  have h2 : i < (bagT b).length := by rw [bagT_len]; exact h
  refine ⟨(bagT b)[i], List.getElem?_eq_getElem h2, ?_⟩
  simp only [bagT, accs, accR, List.getElem_map, accOf]
/-- A bag's touches put are all touches put that made it. -/
theorem puts_bagT {b : List Int} (hb : Bag b) {l : List Tch} (hl : ∀ t ∈ l, InB t) : putsB b (bagT (putsB bag0 l)) = putsB b l := by
  have hB := putsB_ok bag0_ok hl
  refine List.ext_getElem (by simp) fun i h1 h2 => ?_
  have hi : i < 56 := by simpa [hb.1] using h1
  have hb0 := bag_get hb i
  have h00 : bag0.getD i 0 = 0 := by simp only [bag0]; exact reps_getD
  have key : ∀ z, (putsB b (bagT (putsB bag0 l))).getD i 0 ≤ z ↔ (putsB b l).getD i 0 ≤ z := fun z => by
    rw [putsB_get hb.1 (bagT_in hB), putsB_get hb.1 hl]
    refine and_congr_right fun hz => ?_
    have h3 : (putsB bag0 l).getD i 0 ≤ z ↔ ∀ t ∈ l, cell t = i → t.2.2 ≤ z := by
      rw [putsB_get bag0_ok.1 hl, h00]
      exact ⟨fun h => h.2, fun h => ⟨by omega, h⟩⟩
    rw [← h3]
    constructor
    · intro h
      by_cases hp : 0 < (putsB bag0 l).getD i 0
      · refine h (((i / 8 : Nat) : Int), ((i % 8 : Nat) : Int), (putsB bag0 l).getD i 0) ?_ ?_
        · simp only [bagT, List.mem_map, List.mem_filter, List.mem_range, decide_eq_true_eq]
          exact ⟨i, ⟨hi, hp⟩, rfl⟩
        · unfold cell; simp only; omega
      · omega
    · intro h t ht hc
      obtain ⟨c, h4, h5, rfl⟩ := bagT_mem ht
      have : c = i := by unfold cell at hc; simp only at hc; omega
      subst this
      exact h
  have g1 : (putsB b (bagT (putsB bag0 l))).getD i 0 = (putsB b (bagT (putsB bag0 l)))[i] := by rw [List.getD_eq_getElem?_getD, List.getElem?_eq_getElem h1]; rfl
  have g2 : (putsB b l).getD i 0 = (putsB b l)[i] := by rw [List.getD_eq_getElem?_getD, List.getElem?_eq_getElem h2]; rfl
  rw [g1, g2] at key
  have a1 := (key (putsB b (bagT (putsB bag0 l)))[i]).1 (Int.le_refl _)
  have a2 := (key (putsB b l)[i]).2 (Int.le_refl _)
  omega
section
variable (p : Prog) (f pc : Nat)
/-- What is gone through: the first function from a place on, or one from its beginning on. -/
def fnC (c : Option Nat) : Func := p.funcs.getD (c.getD f) default
noncomputable def mkC (c : Option Nat) : List Bool := fromM (fnC p f c) (match c with | none => pc | some _ => 0)
noncomputable def onC (c : Option Nat) : List Nat := ones (mkC p f pc c) (fnC p f c).code.length
noncomputable def tcC (c : Option Nat) : List Tch := tcL (fnC p f c) (onC p f pc c)
noncomputable def spC (c : Option Nat) : List Int := spL (fnC p f c) (onC p f pc c)
/-- How far the document has come. -/
structure Work where
  S : List Tch
  todo : List Bool
  done : List Bool
  c : Option Nat
/-- Gone through, or being gone through. -/
def AllW (done : List Bool) (d : Option Nat) : Prop := d = none ∨ ∃ h, d = some h ∧ done.getD h false = true
structure WInv (w : Work) : Prop where
  lt : w.todo.length = p.funcs.length
  ld : w.done.length = p.funcs.length
  cur : ∀ g, w.c = some g → w.done.getD g false = true
  first : w.c = none → ∀ h, w.done.getD h false = false
  tch : ∀ t, t ∈ w.S ↔ ∃ d, AllW w.done d ∧ d ≠ w.c ∧ t ∈ tcC p f pc d
  spw : ∀ h : Nat, w.todo.getD h false = true ↔ ∃ d, AllW w.done d ∧ d ≠ w.c ∧ (h : Int) ∈ spC p f pc d
  come : ∀ h, w.done.getD h false = true → Come (fun _ => true) (fake p) (mark (reps 8 false) (spC p f pc none)) h
variable {p f pc}
theorem WInv.start : WInv p f pc ⟨[], reps p.funcs.length false, reps p.funcs.length false, none⟩ := by
  have key : ∀ d, AllW (reps p.funcs.length false) d → d ≠ none → False := fun d h hn => by
    rcases h with h | ⟨h, _, h2⟩
    · exact hn h
    · rw [zero_getD] at h2; cases h2
  exact ⟨by simp, by simp, fun g h => (by cases h), fun _ h => zero_getD, fun t => ⟨fun h => by simp at h, fun ⟨d, h1, h2, _⟩ => (key d h1 h2).elim⟩,
    fun h => ⟨fun h => (by rw [zero_getD] at h; cases h), fun ⟨d, h1, h2, _⟩ => (key d h1 h2).elim⟩, fun h hh => (by rw [zero_getD] at hh; cases hh)⟩
theorem WInv.all {w : Work} (h : WInv p f pc w) : AllW w.done w.c := by
  cases hc : w.c with
  | none => exact .inl rfl
  | some g => exact .inr ⟨g, rfl, h.cur g hc⟩
/-- Once it is gone through: all touches so far. -/
theorem WInv.tch' {w : Work} (h : WInv p f pc w) (t : Tch) : t ∈ w.S ++ tcC p f pc w.c ↔ ∃ d, AllW w.done d ∧ t ∈ tcC p f pc d := by
  rw [List.mem_append, h.tch]
  constructor
  · rintro (⟨d, h1, _, h3⟩ | h1)
    · exact ⟨d, h1, h3⟩
    · exact ⟨_, h.all, h1⟩
  · rintro ⟨d, h1, h2⟩
    by_cases e : d = w.c
    · subst e; exact .inr h2
    · exact .inl ⟨d, h1, e, h2⟩
theorem fnC_mem (hf : f < p.funcs.length) {c : Option Nat} (hc : ∀ g, c = some g → g < p.funcs.length) : fnC p f c ∈ p.funcs := by
  unfold fnC
  have : c.getD f < p.funcs.length := by
    cases c with
    | none => exact hf
    | some g => exact hc g rfl
  rw [List.getD_eq_getElem?_getD, List.getElem?_eq_getElem this]
  exact List.getElem_mem this
theorem AllW.lt {w : Work} (h : WInv p f pc w) {d : Option Nat} (ha : AllW w.done d) : ∀ g, d = some g → g < p.funcs.length := fun g hg => by
  rcases ha with ha | ⟨g', ha, hb⟩
  · rw [ha] at hg; cases hg
  · rw [ha] at hg; cases hg
    have := getD_lt hb
    rw [h.ld] at this
    exact this
theorem spC_in (hw : Whole p) (hf : f < p.funcs.length) {c : Option Nat} (hc : ∀ g, c = some g → g < p.funcs.length) : ∀ x ∈ spC p f pc c, 0 ≤ x ∧ x < p.funcs.length :=
  spL_in hw (fnC_mem hf hc) ones_in
theorem tcC_in (hn : Neat p) (hf : f < p.funcs.length) {c : Option Nat} (hc : ∀ g, c = some g → g < p.funcs.length) : ∀ t ∈ tcC p f pc c, InB t :=
  tcL_in hn (fnC_mem hf hc) ones_in
theorem WInv.inb {w : Work} (h : WInv p f pc w) (hn : Neat p) (hf : f < p.funcs.length) : ∀ t ∈ w.S, InB t := fun t ht => by
  obtain ⟨d, h1, _, h3⟩ := (h.tch t).1 ht
  exact tcC_in hn hf (h1.lt h) t h3
theorem WInv.spw' {w : Work} (h : WInv p f pc w) (hw : Whole p) (hf : f < p.funcs.length) (i : Nat) : (mark w.todo (spC p f pc w.c)).getD i false = true ↔ ∃ d, AllW w.done d ∧ (i : Int) ∈ spC p f pc d := by
  rw [mark_get _ _ _ fun x hx => by have := spC_in (pc := pc) hw hf (h.all.lt h) x hx; rw [h.lt]; omega, h.spw]
  constructor
  · rintro (⟨d, h1, _, h3⟩ | h1)
    · exact ⟨d, h1, h3⟩
    · exact ⟨_, h.all, h1⟩
  · rintro ⟨d, h1, h2⟩
    by_cases e : d = w.c
    · subst e; exact .inr h2
    · exact .inl ⟨d, h1, e, h2⟩
theorem calls_spC (g : Nat) : spC p f pc (some g) = calls (p.funcs.getD g default) := rfl
/-- What is to do may be run. -/
theorem WInv.come' {w : Work} (h : WInv p f pc w) (hw : Whole p) (hf : f < p.funcs.length) {i : Nat} (hi : (mark w.todo (spC p f pc w.c)).getD i false = true) : Come (fun _ => true) (fake p) (mark (reps 8 false) (spC p f pc none)) i := by
  have h8 := hw.few
  obtain ⟨d, h1, h2⟩ := (h.spw' hw hf i).1 hi
  cases d with
  | none =>
    refine .start i ((mark_get _ _ _ fun x hx => ?_).2 (.inr h2))
    have := spC_in (pc := pc) (c := none) hw hf (fun g h => by cases h) x hx
    simp; omega
  | some g =>
    have hg := h1.lt h g rfl
    rcases h1 with h1 | ⟨g', h1, h3⟩
    · cases h1
    · cases h1
      have := Come.step g (i : Int) (h.come g h3) (by simpa using hg) rfl (by
        rw [fake_behind p hg]
        rw [calls_spC, List.getD_eq_getElem?_getD, List.getElem?_eq_getElem hg] at h2
        exact h2)
      simpa using this
/-- The next one. -/
theorem WInv.next {w : Work} (h : WInv p f pc w) (hw : Whole p) (hf : f < p.funcs.length) {g : Nat} (hg : (mark w.todo (spC p f pc w.c)).getD g false = true) (hn : w.done.getD g false = false) (hgl : g < p.funcs.length) :
    WInv p f pc ⟨w.S ++ tcC p f pc w.c, mark w.todo (spC p f pc w.c), w.done.set g true, some g⟩ := by
  have hset : ∀ i, (w.done.set g true).getD i false = true ↔ w.done.getD i false = true ∨ i = g := fun i => by
    simp only [List.getD_eq_getElem?_getD, List.getElem?_set]
    by_cases e : g = i
    · subst e; simp [h.ld, hgl]
    · rw [if_neg e]
      exact ⟨.inl, fun hh => hh.elim id fun hh => absurd hh.symm e⟩
  have hall : ∀ d, (AllW (w.done.set g true) d ∧ d ≠ some g) ↔ AllW w.done d := fun d => by
    unfold AllW
    constructor
    · rintro ⟨h1 | ⟨i, h1, h2⟩, h3⟩
      · exact .inl h1
      · rcases (hset i).1 h2 with h2 | h2
        · exact .inr ⟨i, h1, h2⟩
        · subst h2; exact absurd h1 h3
    · rintro (h1 | ⟨i, h1, h2⟩)
      · exact ⟨.inl h1, by rw [h1]; simp⟩
      · refine ⟨.inr ⟨i, h1, (hset i).2 (.inl h2)⟩, fun e => ?_⟩
        rw [h1] at e; cases e
        rw [hn] at h2; cases h2
  refine ⟨by simp [h.lt], by simp [h.ld], fun g' e => ?_, fun e => (by cases e), fun t => ?_, fun i => ?_, fun i hi => ?_⟩
  · cases e; exact (hset g).2 (.inr rfl)
  · rw [h.tch' t]
    refine exists_congr fun d => ?_
    rw [← and_assoc, hall d]
  · rw [h.spw' hw hf i]
    refine exists_congr fun d => ?_
    rw [← and_assoc, hall d]
  · rcases (hset i).1 hi with hi | rfl
    · exact h.come i hi
    · exact h.come' hw hf hg
/-- Nothing left to do: all that may be run has been gone through. -/
theorem WInv.finish {w : Work} (h : WInv p f pc w) (hw : Whole p) (hne : Neat p) (hf : f < p.funcs.length) (hd : ∀ i, i < p.funcs.length → (mark w.todo (spC p f pc w.c)).getD i false = true → w.done.getD i false = true) :
    putsB bag0 (w.S ++ tcC p f pc w.c) = putsB bag0 (mayT p f pc) := by
  have h8 := hw.few
  have hsp0 := spC_in (p := p) (f := f) (pc := pc) (c := none) hw hf (fun g h => by cases h)
  have hcd : ∀ i, Come (fun _ => true) (fake p) (mark (reps 8 false) (spC p f pc none)) i → w.done.getD i false = true := fun i hi => by
    induction hi with
    | start i hi =>
      have hin : (i : Int) ∈ spC p f pc none := by
        rcases (mark_get _ _ _ fun x hx => by have := hsp0 x hx; simp; omega).1 hi with hh | hh
        · rw [zero_getD] at hh; cases hh
        · exact hh
      have := hsp0 _ hin
      exact hd i (by omega) ((h.spw' hw hf i).2 ⟨none, .inl rfl, hin⟩)
    | step i x hc hi hT hx ih =>
      have hi' : i < p.funcs.length := by simpa using hi
      have hb := (fake_fine hw).behind i hi x hx
      rw [fake_len] at hb
      rw [fake_behind p hi'] at hx
      refine hd x.toNat (by omega) ((h.spw' hw hf x.toNat).2 ⟨some i, .inr ⟨i, rfl, ih⟩, ?_⟩)
      rw [calls_spC, List.getD_eq_getElem?_getD, List.getElem?_eq_getElem hi', show ((x.toNat : Nat) : Int) = x by omega]
      exact hx
  refine putsB_same bag0_ok.1 (fun t => ?_) fun t ht => ?_
  · rw [h.tch' t, mayT, List.mem_append]
    constructor
    · rintro ⟨d, h1, h2⟩
      cases d with
      | none => exact .inl h2
      | some g =>
        have hg := h1.lt h g rfl
        rcases h1 with h1 | ⟨g', h1, h3⟩
        · cases h1
        · cases h1
          refine .inr (List.mem_flatMap.2 ⟨g, ones_mem.2 ⟨by omega, (reachK_get (by omega)).2 (h.come g h3)⟩, h2⟩)
    · rintro (h1 | h1)
      · exact ⟨none, .inl rfl, h1⟩
      · obtain ⟨g, h2, h3⟩ := List.mem_flatMap.1 h1
        rw [ones_mem] at h2
        exact ⟨some g, .inr ⟨g, rfl, hcd g ((reachK_get h2.1).1 h2.2)⟩, h3⟩
  · obtain ⟨d, h1, h2⟩ := (h.tch' t).1 ht
    exact tcC_in hne hf (h1.lt h) t h2
end
end Go.Sc.Fl
