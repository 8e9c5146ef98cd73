/- Chapter 06, in plain words: what may come behind an instruction. No condition. -/
import Derived.Test.YtinpjecafkdikaaXArr
import Derived.Test.YtinpjecafkdikaaXSc
import Derived.Test.YtinpjecafkdikaaXSrt
set_option linter.constructorNameAsVariable false
namespace Go.Sc.Fl
open Go Go.Av Go.Sc
/-- What may come behind a place, as the code names it. -/
def behindL (f : Func) (pc : Nat) : List Int :=
  let i := f.code.getD pc default
  if i.op = 45 then [] else if i.op = 42 then [i.a] else if i.op = 43 then [i.b, (pc : Int) + 1]
  else if i.op = 61 then (f.selects.getD i.a.toNat default).cases.map (·.to) ++ (if (f.selects.getD i.a.toNat default).els = -1 then [] else [(f.selects.getD i.a.toNat default).els])
  else [(pc : Int) + 1]
/-- Those that are marked. -/
def ones (m : List Bool) (n : Nat) : List Nat := (List.range n).filter fun i => m.getD i false
def ints (l : List Nat) : List Int := l.map fun (n : Nat) => (n : Int)
theorem ones_succ (m : List Bool) (n : Nat) : ones m (n + 1) = ones m n ++ if m.getD n false then [n] else [] := by
  simp only [ones, List.range_succ, List.filter_append, List.filter_cons, List.filter_nil]
theorem ones_len (m : List Bool) (n : Nat) : (ones m n).length ≤ n := by
  have := List.length_filter_le (fun i => m.getD i false) (List.range n)
  simpa [ones] using this
/-- Marks set. -/
def mark (m : List Bool) (l : List Int) : List Bool := l.foldl (fun m x => m.set x.toNat true) m
@[simp] theorem mark_length : ∀ (l : List Int) (m : List Bool), (mark m l).length = m.length
  | [], m => rfl
  | x :: l, m => by rw [mark, List.foldl_cons]; exact (mark_length l _).trans (by simp)
theorem mark_snoc (m : List Bool) (l : List Int) (x : Int) : mark m (l ++ [x]) = (mark m l).set x.toNat true := by simp [mark]
theorem mark_take (m : List Bool) (l : List Int) (k : Nat) (x : Int) (h : l[k]? = some x) : mark m (l.take (k + 1)) = (mark m (l.take k)).set x.toNat true := by
  rw [List.take_add_one, h]; exact mark_snoc _ _ _
theorem mark_get : ∀ (l : List Int) (m : List Bool) (i : Nat), (∀ x ∈ l, 0 ≤ x ∧ x.toNat < m.length) → ((mark m l).getD i false = true ↔ m.getD i false = true ∨ (i : Int) ∈ l)
  | [], m, i, _ => by simp [mark]
  | x :: l, m, i, h => by
    have hx := h x (by simp)
    have := mark_get l (m.set x.toNat true) i (fun y hy => by simpa using h y (by simp [hy]))
    rw [mark, List.foldl_cons]
    refine Iff.trans this ?_
    have hset : (m.set x.toNat true).getD i false = true ↔ m.getD i false = true ∨ (i : Int) = x := by
      simp only [List.getD_eq_getElem?_getD, List.getElem?_set]
      by_cases hi : x.toNat = i
      · subst hi
        simp [hx.2]
        exact .inr (by omega)
      · rw [if_neg hi]
        constructor
        · exact .inl
        · rintro (h | h)
          · exact h
          · omega
    rw [hset, List.mem_cons, or_assoc]
/-- A place of a right program. -/
structure Place (p : Prog) (f pc : Int) : Prop where
  right : (check p).1 = 0
  f0 : 0 ≤ f
  f1 : f.toNat < p.funcs.length
  pc0 : 0 ≤ pc
  pc1 : pc.toNat < (p.funcs.getD f.toNat default).code.length
/-- What is wrong with a program, a function and a place. -/
def askE (p : Prog) (f pc : Int) : Int :=
  if (check p).1 ≠ 0 then 3 else if f < 0 ∨ (p.funcs.length : Int) ≤ f ∨ pc < 0 ∨ ((p.funcs.getD f.toNat default).code.length : Int) ≤ pc then 1 else 0
theorem ask_zero {p : Prog} {f pc : Int} (h : askE p f pc = 0) : Place p f pc := by
  unfold askE at h
  split at h
  · cases h
  · rename_i hc
    split at h
    · cases h
    · rename_i hn
      simp only [not_or] at hn
      exact ⟨by omega, by omega, by omega, by omega, by omega⟩
theorem Place.ask {p : Prog} {f pc : Int} (h : Place p f pc) : askE p f pc = 0 := by
  have h1 := h.f0; have h2 := h.f1; have h3 := h.pc0; have h4 := h.pc1
  rw [askE, if_neg (by simp [h.right]), if_neg (by omega)]
/-- A function whose places come behind places of its own. -/
structure Fine (f : Func) : Prop where
  len : f.code.length ≤ 64
  behind : ∀ pc, pc < f.code.length → ∀ x ∈ behindL f pc, 0 ≤ x ∧ x < f.code.length
  sel : ∀ pc, pc < f.code.length → (f.code.getD pc default).op = 61 → 0 ≤ (f.code.getD pc default).a ∧ (f.code.getD pc default).a < f.selects.length
/-- May a place be come to? -/
inductive Come (T : Nat → Bool) (f : Func) (m : List Bool) : Nat → Prop
  | start (i : Nat) : m.getD i false = true → Come T f m i
  | step (i : Nat) (x : Int) : Come T f m i → i < f.code.length → T i = true → x ∈ behindL f i → Come T f m x.toNat
open Classical in
/-- All that may be come to. -/
noncomputable def reachM (T : Nat → Bool) (f : Func) (m : List Bool) : List Bool := (List.range 64).map fun i => decide (Come T f m i)
@[simp] theorem reachM_length (T : Nat → Bool) (f : Func) (m : List Bool) : (reachM T f m).length = 64 := by simp [reachM]
theorem reachM_get {T : Nat → Bool} {f : Func} {m : List Bool} {i : Nat} (hi : i < 64) : (reachM T f m).getD i false = true ↔ Come T f m i := by
  simp [reachM, List.getD_eq_getElem?_getD, hi]
/-- The first places gone through once. -/
def passTo (T : Nat → Bool) (f : Func) (m : List Bool) : Nat → List Bool
  | 0 => m
  | i + 1 => if (passTo T f m i).getD i false && T i then mark (passTo T f m i) (behindL f i) else passTo T f m i
section
variable {T : Nat → Bool} {f : Func} {m m0 : List Bool}
@[simp] theorem passTo_length (i : Nat) : (passTo T f m i).length = m.length := by
  induction i with
  | zero => rfl
  | succ i ih => rw [passTo]; split <;> simp [ih]
theorem getD_lt {m : List Bool} {i : Nat} (h : m.getD i false = true) : i < m.length := by
  apply Nat.lt_of_not_le
  intro hc
  rw [List.getD_eq_getElem?_getD, List.getElem?_eq_none hc] at h
  cases h
theorem mark_monoG (hf : Fine f) (hm : f.code.length ≤ m.length) {pc : Nat} (hpc : pc < f.code.length) {i : Nat} (h : m.getD i false = true) : (mark m (behindL f pc)).getD i false = true := by
  have hb := hf.behind pc hpc
  exact (mark_get _ m i fun x hx => ⟨(hb x hx).1, by have := hb x hx; omega⟩).2 (.inl h)
theorem mark_ofG (hf : Fine f) (hm : f.code.length ≤ m.length) {pc : Nat} (hpc : pc < f.code.length) {i : Nat} (h : (mark m (behindL f pc)).getD i false = true) : m.getD i false = true ∨ (i : Int) ∈ behindL f pc := by
  have hb := hf.behind pc hpc
  exact (mark_get _ m i fun x hx => ⟨(hb x hx).1, by have := hb x hx; omega⟩).1 h
theorem mark_inG (hf : Fine f) (hm : f.code.length ≤ m.length) {pc : Nat} (hpc : pc < f.code.length) {x : Int} (h : x ∈ behindL f pc) : (mark m (behindL f pc)).getD x.toNat false = true := by
  have hb := hf.behind pc hpc
  have h0 := (hb x h).1
  exact (mark_get _ m x.toNat fun x hx => ⟨(hb x hx).1, by have := hb x hx; omega⟩).2 (.inr (by rw [show ((x.toNat : Nat) : Int) = x by omega]; exact h))
theorem pass_monoG (hf : Fine f) (hm : f.code.length ≤ m.length) {i k : Nat} : ∀ n, n ≤ f.code.length → k ≤ n → (passTo T f m k).getD i false = true → (passTo T f m n).getD i false = true
  | 0, _, hk, h => by obtain rfl : k = 0 := by omega
                      exact h
  | n + 1, hn, hk, h => by
    by_cases hkn : k = n + 1
    · rw [hkn] at h; exact h
    · have ih := pass_monoG hf hm n (by omega) (by omega) h
      rw [passTo]
      split
      · exact mark_monoG hf (by simpa using hm) (by omega) ih
      · exact ih
theorem pass_comeG (hf : Fine f) (hm : f.code.length ≤ m.length) (hc : ∀ i, m.getD i false = true → Come T f m0 i) : ∀ n, n ≤ f.code.length → ∀ i, (passTo T f m n).getD i false = true → Come T f m0 i
  | 0, _, i, h => hc i h
  | n + 1, hn, i, h => by
    have ih := pass_comeG hf hm hc n (by omega)
    rw [passTo] at h
    split at h
    · rename_i hb
      simp only [Bool.and_eq_true] at hb
      rcases mark_ofG hf (by simpa using hm) (by omega : n < f.code.length) h with h | h
      · exact ih i h
      · have := Come.step n (i : Int) (ih n hb.1) (by omega) hb.2 h
        simpa using this
    · exact ih i h
theorem pass_fixG (hf : Fine f) (hm : f.code.length ≤ m.length) (h : passTo T f m f.code.length = m) {pc : Nat} (hpc : pc < f.code.length) (h1 : m.getD pc false = true) (h2 : T pc = true) {x : Int} (hx : x ∈ behindL f pc) : m.getD x.toNat false = true := by
  have k1 := pass_monoG (T := T) (k := 0) hf hm pc (by omega) (Nat.zero_le _) (by rw [passTo]; exact h1)
  have k2 : (passTo T f m (pc + 1)).getD x.toNat false = true := by
    rw [passTo, if_pos (by simp only [Bool.and_eq_true]; exact ⟨k1, h2⟩)]
    exact mark_inG hf (by simpa using hm) hpc hx
  have := pass_monoG (k := pc + 1) hf hm f.code.length (Nat.le_refl _) (by omega) k2
  rwa [h] at this
theorem len64 (hf : Fine f) (hm : m.length = 64) : f.code.length ≤ m.length := by rw [hm]; exact hf.len
theorem mark_mono (hf : Fine f) (hm : m.length = 64) {pc : Nat} (hpc : pc < f.code.length) {i : Nat} (h : m.getD i false = true) : (mark m (behindL f pc)).getD i false = true := mark_monoG hf (len64 hf hm) hpc h
theorem mark_of (hf : Fine f) (hm : m.length = 64) {pc : Nat} (hpc : pc < f.code.length) {i : Nat} (h : (mark m (behindL f pc)).getD i false = true) : m.getD i false = true ∨ (i : Int) ∈ behindL f pc := mark_ofG hf (len64 hf hm) hpc h
theorem mark_in (hf : Fine f) (hm : m.length = 64) {pc : Nat} (hpc : pc < f.code.length) {x : Int} (h : x ∈ behindL f pc) : (mark m (behindL f pc)).getD x.toNat false = true := mark_inG hf (len64 hf hm) hpc h
theorem pass_mono (hf : Fine f) (hm : m.length = 64) {i k : Nat} (n : Nat) (h1 : n ≤ f.code.length) (h2 : k ≤ n) (h : (passTo T f m k).getD i false = true) : (passTo T f m n).getD i false = true := pass_monoG hf (len64 hf hm) n h1 h2 h
theorem pass_come (hf : Fine f) (hm : m.length = 64) (hc : ∀ i, m.getD i false = true → Come T f m0 i) (n : Nat) (h : n ≤ f.code.length) (i : Nat) (h2 : (passTo T f m n).getD i false = true) : Come T f m0 i := pass_comeG hf (len64 hf hm) hc n h i h2
theorem pass_fix (hf : Fine f) (hm : m.length = 64) (h : passTo T f m f.code.length = m) {pc : Nat} (hpc : pc < f.code.length) (h1 : m.getD pc false = true) (h2 : T pc = true) {x : Int} (hx : x ∈ behindL f pc) : m.getD x.toNat false = true := pass_fixG hf (len64 hf hm) h hpc h1 h2 hx
/-- Gone through until nothing comes new. -/
theorem pass_end (hf : Fine f) (hm : m.length = 64) (h0 : ∀ i, m0.getD i false = true → m.getD i false = true) (hc : ∀ i, m.getD i false = true → Come T f m0 i) (h : passTo T f m f.code.length = m) : m = reachM T f m0 := by
  refine List.ext_getElem (by simp [hm]) fun i h1 h2 => ?_
  have key : m.getD i false = true ↔ (reachM T f m0).getD i false = true := by
    rw [reachM_get (by omega)]
    refine ⟨hc i, fun hcome => ?_⟩
    clear h1 h2
    induction hcome with
    | start i hi => exact h0 i hi
    | step i x _ hi hT hx ih => exact pass_fix hf hm h hi ih hT hx
  have g1 : m.getD i false = m[i] := by rw [List.getD_eq_getElem?_getD, List.getElem?_eq_getElem h1]; rfl
  have g2 : (reachM T f m0).getD i false = (reachM T f m0)[i] := by rw [List.getD_eq_getElem?_getD, List.getElem?_eq_getElem h2]; rfl
  rw [g1, g2] at key
  cases hx : m[i] <;> cases hy : (reachM T f m0)[i] <;> simp_all
end
theorem filter_lt {α : Type} {p q : α → Bool} : ∀ {l : List α}, (∀ x ∈ l, p x = true → q x = true) → (l.filter p).length ≤ (l.filter q).length ∧ ((∃ x ∈ l, q x = true ∧ p x = false) → (l.filter p).length < (l.filter q).length)
  | [], _ => by simp
  | y :: l, h => by
    have ih := filter_lt (p := p) (q := q) (l := l) fun x hx => h x (by simp [hx])
    have hy := h y (by simp)
    refine ⟨?_, ?_⟩
    · simp only [List.filter_cons]
      cases hp : p y <;> cases hq : q y <;> simp_all
      omega
    · rintro ⟨x, hx, h1, h2⟩
      simp only [List.filter_cons]
      rcases List.mem_cons.1 hx with rfl | hx
      · simp [h1, h2]; omega
      · have := ih.2 ⟨x, hx, h1, h2⟩
        cases hp : p y <;> cases hq : q y <;> simp_all
        omega
/-- More marks. -/
theorem ones_ltG {m m' : List Bool} (hl : m'.length = m.length) {N : Nat} (hm : m.length = N) (h : ∀ i, m.getD i false = true → m'.getD i false = true) (hne : m' ≠ m) : (ones m N).length < (ones m' N).length := by
  refine (filter_lt fun i _ hi => h i hi).2 ?_
  apply Classical.byContradiction
  intro hc
  apply hne
  refine List.ext_getElem hl fun i h1 h2 => ?_
  have hc' : ¬ (m'.getD i false = true ∧ m.getD i false = false) := fun hh => hc ⟨i, by simp; omega, hh.1, hh.2⟩
  have hi := h i
  have g1 : m.getD i false = m[i] := by rw [List.getD_eq_getElem?_getD, List.getElem?_eq_getElem h2]; rfl
  have g2 : m'.getD i false = m'[i] := by rw [List.getD_eq_getElem?_getD, List.getElem?_eq_getElem h1]; rfl
  rw [g1, g2] at hi hc'
  cases hx : m[i] <;> cases hy : m'[i] <;> simp_all
theorem ones_lt {m m' : List Bool} (hl : m'.length = m.length) (hm : m.length = 64) (h : ∀ i, m.getD i false = true → m'.getD i false = true) (hne : m' ≠ m) : (ones m 64).length < (ones m' 64).length := ones_ltG hl hm h hne
/-- All places that may be come to from a place. -/
noncomputable def reachL (f : Func) (pc : Nat) : List Int := ints (ones (reachM (fun _ => true) f ((reps 64 false).set pc true)) f.code.length)
/-- Is a place's instruction a local one? -/
def loc (f : Func) (pc : Nat) : Bool := isLocal (f.code.getD pc default).op
/-- Does a local way lead from a place back to it? -/
noncomputable def spin (f : Func) (pc : Nat) : Bool := loc f pc && (reachM (loc f) f (mark (reps 64 false) (behindL f pc))).getD pc false
noncomputable def spinM (f : Func) (n : Nat) : List Bool := (List.range 64).map fun pc => decide (pc < n) && spin f pc
@[simp] theorem spinM_length (f : Func) (n : Nat) : (spinM f n).length = 64 := by simp [spinM]
theorem spinM_zero (f : Func) : spinM f 0 = reps 64 false := by
  refine List.ext_getElem (by simp) fun i h1 h2 => ?_
  simp [spinM]
theorem spinM_succ (f : Func) (n : Nat) (_hn : n < 64) : spinM f (n + 1) = (spinM f n).set n (spin f n) := by
  refine List.ext_getElem (by simp) fun i h1 h2 => ?_
  simp only [spinM, List.getElem_map, List.getElem_range, List.getElem_set]
  by_cases hi : n = i
  · subst hi; simp
  · rw [if_neg hi]
    congr 1
    rw [decide_eq_decide]; omega
theorem spinM_skip (f : Func) (n : Nat) (hn : n < 64) (h : loc f n = false) : spinM f (n + 1) = spinM f n := by
  rw [spinM_succ f n hn, show spin f n = false by simp [spin, h]]
  refine List.ext_getElem (by simp) fun i h1 h2 => ?_
  simp only [spinM, List.getElem_map, List.getElem_range, List.getElem_set]
  by_cases hi : n = i
  · subst hi; simp
  · rw [if_neg hi]
/-- The places that may come behind a place. -/
def nextL (f : Func) (pc : Nat) : List Int := ints (ones (mark (reps 64 false) (behindL f pc)) f.code.length)
end Go.Sc.Fl
/- Chapter 06, in plain words: how long it runs along. No condition. -/
set_option linter.constructorNameAsVariable false
namespace Go.Sc.Fl
open Go Go.Av Go.Sc
set_option linter.unusedSimpArgs false
set_option linter.unusedVariables false
/-- The greatest, at least nought. -/
def maxL (g : Int → Nat) (l : List Int) : Nat := l.foldl (fun a x => max a (g x)) 0
theorem maxL_le {g : Int → Nat} {N : Nat} : ∀ {l : List Int} {a : Nat}, (l.foldl (fun a x => max a (g x)) a ≤ N ↔ a ≤ N ∧ ∀ x ∈ l, g x ≤ N)
  | [], a => by simp
  | x :: l, a => by
    rw [List.foldl_cons, maxL_le]
    simp only [List.forall_mem_cons, Nat.max_le, and_assoc]
theorem maxL_iff {g : Int → Nat} {N : Nat} {l : List Int} : maxL g l ≤ N ↔ ∀ x ∈ l, g x ≤ N := by rw [maxL, maxL_le]; simp
theorem maxL_same {g g' : Int → Nat} {l l' : List Int} (h : ∀ x, x ∈ l ↔ x ∈ l') (hg : ∀ x ∈ l, g x = g' x) : maxL g l = maxL g' l' := by
  refine Nat.le_antisymm (maxL_iff.2 fun x hx => ?_) (maxL_iff.2 fun x hx => ?_)
  · rw [hg x hx]; exact maxL_iff.1 (Nat.le_refl _) x ((h x).1 hx)
  · rw [← hg x ((h x).2 hx)]; exact maxL_iff.1 (Nat.le_refl _) x ((h x).2 hx)
theorem maxL_take {g : Int → Nat} {l : List Int} {k : Nat} {x : Int} (h : l[k]? = some x) : maxL g (l.take (k + 1)) = max (maxL g (l.take k)) (g x) := by
  rw [List.take_add_one, h]; simp [maxL]
/-- How long the ways of at most so many instructions can be. -/
def lgN (f : Func) : Nat → Nat → Nat
  | 0, _ => 0
  | n + 1, pc => if loc f pc then maxL (fun x => lgN f n x.toNat) (behindL f pc) + 1 else 0
theorem lgN_le (f : Func) : ∀ (n pc : Nat), lgN f n pc ≤ n
  | 0, _ => Nat.le_refl _
  | n + 1, pc => by
    rw [lgN]
    split
    · have := (maxL_iff (g := fun x => lgN f n x.toNat) (N := n) (l := behindL f pc)).2 fun x _ => lgN_le f n x.toNat
      omega
    · omega
def one64 (pc : Nat) : List Bool := (reps 64 false).set pc true
@[simp] theorem one64_length (pc : Nat) : (one64 pc).length = 64 := by simp [one64]
theorem one64_get {pc i : Nat} (h : pc < 64) : (one64 pc).getD i false = true ↔ i = pc := by
  simp only [one64, List.getD_eq_getElem?_getD, List.getElem?_set]
  split
  · rename_i hi; subst hi; simp [h]
  · rename_i hi
    constructor
    · intro hh
      by_cases hl : i < 64
      · rw [List.getElem?_eq_getElem (by simpa using hl), Option.getD_some, reps_get] at hh
        cases hh
      · rw [List.getElem?_eq_none (by simp; omega)] at hh
        cases hh
    · intro hh; exact absurd hh.symm hi
/-- A local way leads from one place to another. -/
def Way (f : Func) (pc i : Nat) : Prop := Come (loc f) f (one64 pc) i
/-- No way from a place on comes to a ring. -/
def Acyc (f : Func) (pc : Nat) : Prop := ∀ i, Way f pc i → spin f i = false
section
variable {f : Func} (hf : Fine f)
include hf
theorem way_lt {pc i : Nat} (hpc : pc < f.code.length) (h : Way f pc i) : i < f.code.length := by
  have hl := hf.len
  induction h with
  | start i hi => rw [one64_get (by omega)] at hi; omega
  | step i x _ hi _ hx _ => have := hf.behind i hi x hx; omega
theorem way_self {pc : Nat} (hpc : pc < f.code.length) : Way f pc pc := .start _ ((one64_get (by have := hf.len; omega)).2 rfl)
theorem way_step {pc i : Nat} (hpc : pc < f.code.length) (hl : loc f pc = true) {y : Int} (hy : y ∈ behindL f pc) (h : Way f y.toNat i) : Way f pc i := by
  have hlen := hf.len
  have hb := hf.behind pc hpc y hy
  induction h with
  | start i hi =>
    rw [one64_get (by omega)] at hi
    subst hi
    exact .step pc y (way_self hf hpc) hpc hl hy
  | step i x _ hi hT hx ih => exact .step i x ih hi hT hx
theorem way_back {pc : Nat} (hpc : pc < f.code.length) (hl : loc f pc = true) (hs : spin f pc = false) {y : Int} (hy : y ∈ behindL f pc) : ¬ Way f y.toNat pc := by
  intro h
  have hlen := hf.len
  have hb := hf.behind pc hpc y hy
  have key : ∀ i, Way f y.toNat i → Come (loc f) f (mark (reps 64 false) (behindL f pc)) i := by
    intro i h
    induction h with
    | start i hi =>
      rw [one64_get (by omega)] at hi
      subst hi
      exact .start _ (mark_in hf (by simp) hpc hy)
    | step i x _ hi hT hx ih => exact .step i x ih hi hT hx
  have := key pc h
  rw [← reachM_get (by omega)] at this
  rw [spin, hl, Bool.true_and, this] at hs
  cases hs
/-- How many places may be come to. -/
noncomputable def rho (f : Func) (pc : Nat) : Nat := (ones (reachM (loc f) f (one64 pc)) 64).length
theorem rho_step {pc : Nat} (hpc : pc < f.code.length) (hl : loc f pc = true) (hs : spin f pc = false) {y : Int} (hy : y ∈ behindL f pc) : rho f y.toNat < rho f pc := by
  have hlen := hf.len
  refine ones_lt (by simp) (by simp) (fun i hi => ?_) fun he => ?_
  · have h64 := getD_lt hi
    simp only [reachM_length] at h64
    rw [reachM_get h64] at hi ⊢
    exact way_step hf hpc hl hy hi
  · have h1 := (reachM_get (T := loc f) (f := f) (m := one64 pc) (i := pc) (by omega)).2 (way_self hf hpc)
    rw [he] at h1
    exact way_back hf hpc hl hs hy ((reachM_get (by omega)).1 h1)
theorem rho_pos {pc : Nat} (hpc : pc < f.code.length) : 0 < rho f pc := by
  have hlen := hf.len
  have h1 := (reachM_get (T := loc f) (f := f) (m := one64 pc) (i := pc) (by omega)).2 (way_self hf hpc)
  refine List.length_pos_of_mem (a := pc) ?_
  simp only [ones, List.mem_filter, List.mem_range]
  exact ⟨by omega, h1⟩
omit hf in
theorem range_low (n : Nat) : ∀ N, ((List.range N).filter fun i => decide (i < n)).length ≤ n
  | 0 => by simp
  | N + 1 => by
    have ih := range_low n N
    rw [List.range_succ, List.filter_append, List.length_append]
    by_cases h : N < n
    · have : ((List.range N).filter fun i => decide (i < n)).length ≤ N := by simpa using List.length_filter_le (fun i => decide (i < n)) (List.range N)
      simp [h]; omega
    · simp [h]; exact ih
theorem rho_le {pc : Nat} (hpc : pc < f.code.length) : rho f pc ≤ f.code.length := by
  refine Nat.le_trans (filter_lt (q := fun i => decide (i < f.code.length)) fun i hi h => ?_).1 (range_low f.code.length 64)
  simp only [List.mem_range] at hi
  have := way_lt hf hpc ((reachM_get hi).1 h)
  simpa using this
theorem acyc_step {pc : Nat} (hpc : pc < f.code.length) (ha : Acyc f pc) (hl : loc f pc = true) {y : Int} (hy : y ∈ behindL f pc) : Acyc f y.toNat := fun i hi => ha i (way_step hf hpc hl hy hi)
theorem lgN_more : ∀ (r pc : Nat), pc < f.code.length → Acyc f pc → rho f pc ≤ r → ∀ k, rho f pc ≤ k → lgN f (k + 1) pc = lgN f k pc
  | 0, pc, hpc, _, hr, _, _ => by have := rho_pos hf hpc; omega
  | r + 1, pc, hpc, ha, hr, k, hk => by
    have hp := rho_pos hf hpc
    obtain ⟨k, rfl⟩ : ∃ k', k = k' + 1 := ⟨k - 1, by omega⟩
    rw [lgN, lgN]
    split
    · rename_i hl
      congr 1
      refine maxL_same (fun _ => Iff.rfl) fun y hy => ?_
      have hs := ha pc (way_self hf hpc)
      have hb := hf.behind pc hpc y hy
      have hlt := rho_step hf hpc hl hs hy
      exact lgN_more r y.toNat (by omega) (acyc_step hf hpc ha hl hy) (by omega) k (by omega)
    · rfl
/-- How long the longest way is. -/
theorem lg_eq {pc : Nat} (hpc : pc < f.code.length) (ha : Acyc f pc) (hl : loc f pc = true) : lgN f f.code.length pc = maxL (fun x => lgN f f.code.length x.toNat) (behindL f pc) + 1 := by
  have h := lgN_more hf _ pc hpc ha (Nat.le_refl _) f.code.length (rho_le hf hpc)
  rw [← h, lgN, if_pos hl]
omit hf in
theorem lg_zero {pc : Nat} (hl : loc f pc = false) (n : Nat) : lgN f n pc = 0 := by
  cases n with
  | zero => rfl
  | succ n => rw [lgN, if_neg (by simp [hl])]
end
open Classical in
/-- How long it may run along; -1: there is no end. -/
noncomputable def longV (f : Func) (pc : Nat) : Int := if ∃ i, Way f pc i ∧ spin f i = true then -1 else (lgN f f.code.length pc : Int)
theorem longV_ring {f : Func} {pc i : Nat} (h1 : Way f pc i) (h2 : spin f i = true) : longV f pc = -1 := if_pos ⟨i, h1, h2⟩
theorem longV_acyc {f : Func} {pc : Nat} (h : Acyc f pc) : longV f pc = (lgN f f.code.length pc : Int) := if_neg fun ⟨i, h1, h2⟩ => by rw [h i h1] at h2; cases h2
theorem reps_getD' {n k : Nat} : (reps n (0 : Int)).getD k 0 = 0 := reps_getD
end Go.Sc.Fl
/- Chapter 06, in plain words: the document's own answers. No condition. -/
set_option linter.constructorNameAsVariable false
namespace Go.Sc.Fl
open Go Go.Av Go.Sc
set_option linter.unusedSimpArgs false
set_option linter.unusedVariables false
/-- A number put into a list, once. -/
def ins (n : Int) : List Int → List Int
  | [] => [n]
  | x :: l => if x < n then x :: ins n l else if x = n then x :: l else n :: x :: l
theorem ins_mem (n : Int) : ∀ (l : List Int) (y : Int), y ∈ ins n l ↔ y = n ∨ y ∈ l
  | [], y => by simp [ins]
  | x :: l, y => by
    rw [ins]
    split
    · simp only [List.mem_cons, ins_mem n l y]; exact ⟨fun h => by rcases h with h | h | h <;> simp [h], fun h => by rcases h with h | h | h <;> simp [h]⟩
    · split
      · rename_i h; subst h
        simp only [List.mem_cons]
        exact ⟨.inr, fun h => h.elim .inl id⟩
      · simp
theorem ins_rise (n : Int) : ∀ (l : List Int), l.Pairwise (· < ·) → (ins n l).Pairwise (· < ·)
  | [], _ => by simp [ins]
  | x :: l, h => by
    rw [List.pairwise_cons] at h
    rw [ins]
    split
    · rename_i hx
      rw [List.pairwise_cons]
      exact ⟨fun y hy => ((ins_mem n l y).1 hy).elim (fun e => by rw [e]; exact hx) (h.1 y), ins_rise n l h.2⟩
    · split
      · rw [List.pairwise_cons]; exact h
      · rename_i h1 h2
        rw [List.pairwise_cons, List.pairwise_cons]
        refine ⟨fun y hy => ?_, h⟩
        rcases List.mem_cons.1 hy with rfl | hy
        · omega
        · have := h.1 y hy; omega
/-- One item looked at, as the document's put does. -/
def insStep (n : Int) (s : List Int × Bool) (x : Int) : List Int × Bool :=
  let d := s.2 || x == n
  if n < x ∧ d = false then (s.1 ++ [n, x], true) else (s.1 ++ [x], d)
theorem insStep_done (n : Int) : ∀ (l o : List Int), l.foldl (insStep n) (o, true) = (o ++ l, true)
  | [], o => by simp
  | x :: l, o => by
    rw [List.foldl_cons, show insStep n (o, true) x = (o ++ [x], true) by simp [insStep], insStep_done]
    simp
theorem insStep_all (n : Int) : ∀ (l o : List Int), (if (l.foldl (insStep n) (o, false)).2 then (l.foldl (insStep n) (o, false)).1 else (l.foldl (insStep n) (o, false)).1 ++ [n]) = o ++ ins n l
  | [], o => by simp [ins]
  | x :: l, o => by
    rw [List.foldl_cons, ins]
    by_cases h1 : x < n
    · rw [if_pos h1, show insStep n (o, false) x = (o ++ [x], false) by
        have : ¬ n < x := by omega
        have h2 : ¬ x = n := by omega
        simp [insStep, this, h2], insStep_all n l]
      simp
    · rw [if_neg h1]
      by_cases h2 : x = n
      · rw [if_pos h2, show insStep n (o, false) x = (o ++ [x], true) by simp [insStep, h2], insStep_done]
        simp
      · rw [if_neg h2, show insStep n (o, false) x = (o ++ [n, x], true) by
          have : n < x := by omega
          simp [insStep, this, h2], insStep_done]
        simp
theorem foldl_take {α β : Type} (g : β → α → β) (b : β) {l : List α} {i : Nat} {x : α} (h : l[i]? = some x) : (l.take (i + 1)).foldl g b = g ((l.take i).foldl g b) x := by
  rw [List.take_add_one, h]; simp
/-- What may come behind a place, as the document lays it. -/
def insAll (l : List Int) : List Int := l.foldl (fun l x => ins x l) []
theorem insAll_go : ∀ (l o : List Int), o.Pairwise (· < ·) → (l.foldl (fun l x => ins x l) o).Pairwise (· < ·) ∧ ∀ y, y ∈ l.foldl (fun l x => ins x l) o ↔ y ∈ l ∨ y ∈ o
  | [], o, h => ⟨h, fun y => by simp⟩
  | x :: l, o, h => by
    have := insAll_go l (ins x o) (ins_rise x o h)
    rw [List.foldl_cons]
    refine ⟨this.1, fun y => ?_⟩
    rw [this.2 y, ins_mem, List.mem_cons]
    exact ⟨fun h => by rcases h with h | h | h <;> simp [h], fun h => by rcases h with (h | h) | h <;> simp [h]⟩
theorem ints_rise (m : List Bool) : ∀ n, (ints (ones m n)).Pairwise (· < ·)
  | 0 => by simp [ints, ones]
  | n + 1 => by
    have ih := ints_rise m n
    rw [ones_succ, ints, List.map_append, List.pairwise_append]
    refine ⟨ih, by split <;> simp, fun a ha b hb => ?_⟩
    split at hb
    · simp only [List.map_cons, List.map_nil, List.mem_singleton] at hb
      subst hb
      obtain ⟨k, hk, rfl⟩ := List.mem_map.1 ha
      simp only [ones, List.mem_filter, List.mem_range] at hk
      omega
    · simp at hb
theorem ints_mem {m : List Bool} {n : Nat} {y : Int} : y ∈ ints (ones m n) ↔ 0 ≤ y ∧ y.toNat < n ∧ m.getD y.toNat false = true := by
  simp only [ints, ones, List.mem_map, List.mem_filter, List.mem_range]
  constructor
  · rintro ⟨k, ⟨h1, h2⟩, rfl⟩
    exact ⟨by omega, by simpa using h1, by simpa using h2⟩
  · rintro ⟨h0, h1, h2⟩
    exact ⟨y.toNat, ⟨h1, h2⟩, by omega⟩
theorem next_mem {f : Func} (hf : Fine f) {pc : Nat} (hpc : pc < f.code.length) {y : Int} : y ∈ nextL f pc ↔ y ∈ behindL f pc := by
  have hl := hf.len
  have hb := hf.behind pc hpc
  rw [nextL, ints_mem]
  constructor
  · rintro ⟨h0, h1, h2⟩
    rcases (mark_get (behindL f pc) (reps 64 false) y.toNat fun x hx => ⟨(hb x hx).1, by have := hb x hx; simp; omega⟩).1 h2 with h | h
    · rw [List.getD_eq_getElem?_getD, List.getElem?_eq_getElem (by simp; omega), Option.getD_some, reps_get] at h; cases h
    · rwa [show ((y.toNat : Nat) : Int) = y by omega] at h
  · intro h
    have hy := hb y h
    exact ⟨hy.1, by omega, mark_in hf (by simp) hpc h⟩
theorem nextR_eq {f : Func} (hf : Fine f) {pc : Nat} (hpc : pc < f.code.length) : insAll (behindL f pc) = nextL f pc := by
  have h := insAll_go (behindL f pc) [] .nil
  exact Srt.rise_eq h.1 (ints_rise _ _) fun y => by rw [next_mem hf hpc]; exact (h.2 y).trans (by simp)
/-- A truth, as a row. -/
def brw (b : Bool) : List AV := [.b b]
@[simp] theorem brw_length (b : Bool) : (brw b).length = 1 := rfl
open Classical in
/-- All that may be come to, among the places alone. -/
noncomputable def reachN (T : Nat → Bool) (f : Func) (m : List Bool) : List Bool := (List.range f.code.length).map fun i => decide (Come T f m i)
@[simp] theorem reachN_length (T : Nat → Bool) (f : Func) (m : List Bool) : (reachN T f m).length = f.code.length := by simp [reachN]
theorem reachN_get {T : Nat → Bool} {f : Func} {m : List Bool} {i : Nat} (hi : i < f.code.length) : (reachN T f m).getD i false = true ↔ Come T f m i := by
  simp [reachN, List.getD_eq_getElem?_getD, List.getElem?_map, hi]
theorem pass_endN {T : Nat → Bool} {f : Func} {m m0 : List Bool} (hf : Fine f) (hm : m.length = f.code.length) (h0 : ∀ i, m0.getD i false = true → m.getD i false = true) (hc : ∀ i, m.getD i false = true → Come T f m0 i) (h : passTo T f m f.code.length = m) : m = reachN T f m0 := by
  refine List.ext_getElem (by simp [hm]) fun i h1 h2 => ?_
  have key : m.getD i false = true ↔ (reachN T f m0).getD i false = true := by
    rw [reachN_get (by omega)]
    refine ⟨hc i, fun hcome => ?_⟩
    clear h1 h2
    induction hcome with
    | start i hi => exact h0 i hi
    | step i x _ hi hT hx ih => exact pass_fixG hf (by omega) h hi ih hT hx
  have g1 : m.getD i false = m[i] := by rw [List.getD_eq_getElem?_getD, List.getElem?_eq_getElem h1]; rfl
  have g2 : (reachN T f m0).getD i false = (reachN T f m0)[i] := by rw [List.getD_eq_getElem?_getD, List.getElem?_eq_getElem h2]; rfl
  rw [g1, g2] at key
  cases hx : m[i] <;> cases hy : (reachN T f m0)[i] <;> simp_all
/-- Marks set by one list or by another one of the same members. -/
theorem mark_same {m : List Bool} {l l' : List Int} (h : ∀ x, x ∈ l ↔ x ∈ l') (hl : ∀ x ∈ l, 0 ≤ x ∧ x.toNat < m.length) : mark m l = mark m l' := by
  refine List.ext_getElem (by simp) fun i h1 h2 => ?_
  have k1 := mark_get l m i hl
  have k2 := mark_get l' m i fun x hx => hl x ((h x).2 hx)
  have g1 : (mark m l).getD i false = (mark m l)[i] := by rw [List.getD_eq_getElem?_getD, List.getElem?_eq_getElem h1]; rfl
  have g2 : (mark m l').getD i false = (mark m l')[i] := by rw [List.getD_eq_getElem?_getD, List.getElem?_eq_getElem h2]; rfl
  rw [g1] at k1; rw [g2] at k2
  rw [h] at k1
  cases hx : (mark m l)[i] <;> cases hy : (mark m l')[i] <;> simp_all
theorem come_same {T T' : Nat → Bool} {f : Func} {m m' : List Bool} (hT : ∀ i, i < f.code.length → T i = T' i) (hm : ∀ i, m.getD i false = true → m'.getD i false = true) {i : Nat} (h : Come T f m i) : Come T' f m' i := by
  induction h with
  | start i hi => exact .start i (hm i hi)
  | step i x _ hi hTi hx ih => exact .step i x ih hi (by rw [← hT i hi]; exact hTi) hx
theorem ones_same {m m' : List Bool} : ∀ {n : Nat}, (∀ i, i < n → m.getD i false = m'.getD i false) → ones m n = ones m' n
  | 0, _ => rfl
  | n + 1, h => by rw [ones_succ, ones_succ, ones_same fun i hi => h i (by omega), h n (by omega)]
theorem bool_same {a b : Bool} (h : a = true ↔ b = true) : a = b := by cases a <;> cases b <;> simp_all
theorem oneN_get {n pc i : Nat} (h : pc < n) : ((reps n false).set pc true).getD i false = true ↔ i = pc := by
  simp only [List.getD_eq_getElem?_getD, List.getElem?_set]
  split
  · rename_i hi; subst hi; simp [h]
  · rename_i hi
    constructor
    · intro hh
      by_cases hl : i < n
      · rw [List.getElem?_eq_getElem (by simpa using hl), Option.getD_some, reps_get] at hh
        cases hh
      · rw [List.getElem?_eq_none (by simp; omega)] at hh
        cases hh
    · intro hh; exact absurd hh.symm hi
/-- The document's reach is the program's. -/
theorem reachN_same {T T' : Nat → Bool} {f : Func} (hf : Fine f) {m m' : List Bool} (hT : ∀ i, i < f.code.length → T i = T' i) (hm : ∀ i, m.getD i false = true ↔ m'.getD i false = true) {i : Nat} (hi : i < f.code.length) : (reachN T f m).getD i false = (reachM T' f m').getD i false := by
  have hl := hf.len
  refine bool_same ?_
  rw [reachN_get hi, reachM_get (by omega)]
  exact ⟨come_same hT fun i => (hm i).1, come_same (fun i h => (hT i h).symm) fun i => (hm i).2⟩
theorem reachN_list {f : Func} (hf : Fine f) {pc : Nat} (hpc : pc < f.code.length) : ints (ones (reachN (fun i => !false || loc f i) f ((reps f.code.length false).set pc true)) f.code.length) = reachL f pc := by
  rw [reachL]
  congr 1
  refine ones_same fun i hi => reachN_same hf (fun i _ => by simp) (fun i => ?_) hi
  rw [oneN_get hpc]
  exact (one64_get (by have := hf.len; omega)).symm
theorem reachN_one {f : Func} (hf : Fine f) {pc i : Nat} (hpc : pc < f.code.length) (hi : i < f.code.length) : (reachN (fun i => !true || loc f i) f ((reps f.code.length false).set pc true)).getD i false = true ↔ Way f pc i := by
  have hl := hf.len
  rw [reachN_same (T' := loc f) (m' := one64 pc) hf (fun i _ => by simp) (fun i => by rw [oneN_get hpc, one64_get (by omega)]) hi, Way, ← reachM_get (by omega)]
theorem zero_getD {n i : Nat} : (reps n false).getD i false = false := reps_getD
theorem reachN_spin {f : Func} (hf : Fine f) {pc : Nat} (hpc : pc < f.code.length) (hl : loc f pc = true) : (reachN (fun i => !true || loc f i) f (mark (reps f.code.length false) (nextL f pc))).getD pc false = spin f pc := by
  have hln := hf.len
  have hb := hf.behind pc hpc
  rw [spin, hl, Bool.true_and]
  refine reachN_same hf (fun i _ => by simp) (fun i => ?_) hpc
  rw [mark_get _ _ i fun x hx => ⟨(hb x ((next_mem hf hpc).1 hx)).1, by have := hb x ((next_mem hf hpc).1 hx); simp; omega⟩, mark_get _ _ i fun x hx => ⟨(hb x hx).1, by have := hb x hx; simp; omega⟩, next_mem hf hpc, zero_getD, zero_getD]
end Go.Sc.Fl
/- Chapter 06, in plain words: in a right program what may come behind a place is one. No condition. -/
set_option linter.constructorNameAsVariable false
namespace Go.Sc.Fl
open Go Go.Av Go.Sc
set_option linter.unusedSimpArgs false
set_option linter.unusedVariables false
theorem tgtE_zero {f : Func} {n : Int} (h : tgtE f n = 0) : 0 ≤ n ∧ n < f.code.length := by
  unfold tgtE at h
  split at h
  · rename_i h'; exact within_iff.1 h'
  · cases h
theorem insE_split {p : Prog} {f : Func} {i : Instr} {l0 l1 l2 l3 : UInt8} (h : insE p f i = 0) (hf : form i.op = [l0, l1, l2, l3]) : opE p f l0.toNat i.a i.b = 0 ∧ opE p f l1.toNat i.b i.b = 0 := by
  rw [insE, hf] at h
  simp only at h
  split at h
  · cases h
  · split at h
    · rename_i h1; exact absurd h h1
    · split at h
      · rename_i h1; exact absurd h h1
      · rename_i h1 h2; exact ⟨by omega, by omega⟩
theorem case_to {p : Prog} {f : Func} {c : Case} (h : caseE p f c = 0) : tgtE f c.to = 0 := by
  unfold caseE at h
  split at h
  · cases h
  · split at h
    · cases h
    · split at h
      · cases h
      · exact h
theorem right_fine {p : Prog} (hp : RightP p) {f : Func} (hm : f ∈ p.funcs) : Fine f := by
  have hf := hp.func f hm
  have hat : ∀ pc, pc < f.code.length → insE p f (f.code.getD pc default) = 0 := fun pc h => hf.ins _ (by
    rw [List.getD_eq_getElem?_getD, List.getElem?_eq_getElem h]; exact List.getElem_mem h)
  have hnext : ∀ pc, pc < f.code.length → (f.code.getD pc default).op ≠ 42 → (f.code.getD pc default).op ≠ 45 → (f.code.getD pc default).op ≠ 61 → (0 : Int) ≤ (pc : Int) + 1 ∧ (pc : Int) + 1 < f.code.length := fun pc h h1 h2 h3 => by
    have hl := hf.last
    unfold lastOp at hl
    by_cases hpc : pc = f.code.length - 1
    · rw [← hpc] at hl; omega
    · omega
  have hsel : ∀ pc, pc < f.code.length → (f.code.getD pc default).op = 61 → 0 ≤ (f.code.getD pc default).a ∧ (f.code.getD pc default).a < f.selects.length := fun pc h h61 => by
    have := (insE_split (l0 := 115) (l1 := 45) (l2 := 45) (l3 := 45) (hat pc h) (by rw [h61]; rfl)).1
    exact objE_zero.1 this
  refine ⟨hf.code.2, fun pc h x hx => ?_, hsel⟩
  unfold behindL at hx
  generalize hi : f.code.getD pc default = i at *
  have hatp := hat pc h
  have hnp := hnext pc h
  have hsp := hsel pc h
  rw [hi] at hatp hnp hsp
  simp only at hx
  split at hx
  · simp at hx
  · rename_i h45
    split at hx
    · rename_i h42
      simp only [List.mem_singleton] at hx
      subst hx
      have := (insE_split (l0 := 116) (l1 := 45) (l2 := 45) (l3 := 45) hatp (by rw [h42]; rfl)).1
      exact tgtE_zero this
    · rename_i h42
      split at hx
      · rename_i h43
        simp only [List.mem_cons, List.not_mem_nil, or_false] at hx
        rcases hx with rfl | rfl
        · have := (insE_split (l0 := 114) (l1 := 116) (l2 := 45) (l3 := 45) hatp (by rw [h43]; rfl)).2
          exact tgtE_zero this
        · exact hnp h42 h45 (by omega)
      · split at hx
        · rename_i h61
          obtain ⟨ha0, ha1⟩ := hsp h61
          have hlt : i.a.toNat < f.selects.length := by omega
          have hsd : f.selects.getD i.a.toNat default = f.selects[i.a.toNat] := by rw [List.getD_eq_getElem?_getD, List.getElem?_eq_getElem hlt]; rfl
          rw [hsd] at hx
          have hs := (hf.sel _ (List.getElem_mem hlt)).2
          generalize f.selects[i.a.toNat] = s at hs hx
          unfold selE at hs
          split at hs
          · rename_i h1; exact absurd hs h1
          · rename_i h1
            rcases List.mem_append.1 hx with hx | hx
            · obtain ⟨c, hc, rfl⟩ := List.mem_map.1 hx
              exact tgtE_zero (case_to (firstE_zero (Decidable.byContradiction h1) c hc))
            · split at hx
              · simp at hx
              · rename_i he
                simp only [List.mem_singleton] at hx
                subst hx
                rw [if_pos he] at hs
                exact tgtE_zero hs
        · rename_i h43 h61
          simp only [List.mem_singleton] at hx
          subst hx
          exact hnp h42 h45 h61
theorem right_fines {p : Prog} (h : (check p).1 = 0) : ∀ f ∈ p.funcs, Fine f := fun f hf => right_fine (right_of h) hf
theorem right_cases {p : Prog} (h : (check p).1 = 0) {f : Func} (hf : f ∈ p.funcs) : ∀ s ∈ f.selects, s.cases.length ≤ 64 := fun s hs => by
  have := (((right_of h).func f hf).sel s hs).1.2; omega
/-- How long the ways of at most r instructions can be, from each place on. -/
def longL (f : Func) (r : Nat) : List Int := (List.range f.code.length).map fun i => (lgN f r i : Int)
@[simp] theorem longL_length (f : Func) (r : Nat) : (longL f r).length = f.code.length := by simp [longL]
theorem longL_get (f : Func) (r i : Nat) (h : i < (longL f r).length) : (longL f r)[i] = (lgN f r i : Int) := by simp [longL]
theorem longL_zero (f : Func) : longL f 0 = List.replicate f.code.length 0 := by
  refine List.ext_getElem (by simp) fun i h1 h2 => ?_
  simp [longL, lgN]
/-- The same of the first places; nought of the others. -/
def partL (f : Func) (r k : Nat) : List Int := (List.range f.code.length).map fun i => if i < k then (lgN f r i : Int) else 0
@[simp] theorem partL_length (f : Func) (r k : Nat) : (partL f r k).length = f.code.length := by simp [partL]
theorem partL_zero (f : Func) (r : Nat) : partL f r 0 = List.replicate f.code.length 0 := by
  refine List.ext_getElem (by simp) fun i h1 h2 => ?_
  simp [partL]
theorem partL_succ (f : Func) (r k : Nat) (hk : k < f.code.length) : partL f r (k + 1) = (partL f r k).set k (lgN f r k : Int) := by
  refine List.ext_getElem (by simp) fun i h1 h2 => ?_
  simp only [partL, List.getElem_map, List.getElem_range, List.getElem_set]
  by_cases hi : k = i
  · subst hi; simp
  · rw [if_neg hi]
    by_cases h : i < k
    · rw [if_pos h, if_pos (by omega)]
    · rw [if_neg h, if_neg (by omega)]
theorem partL_skip (f : Func) (r k : Nat) (hk : k < f.code.length) (h : lgN f r k = 0) : partL f r (k + 1) = partL f r k := by
  rw [partL_succ f r k hk, h]
  refine List.ext_getElem (by simp) fun i h1 h2 => ?_
  rw [List.getElem_set]
  split
  · rename_i hi; subst hi; simp [partL]
  · rfl
theorem partL_all (f : Func) (r : Nat) : partL f r f.code.length = longL f r := by
  refine List.ext_getElem (by simp) fun i h1 h2 => ?_
  have : i < f.code.length := by simpa using h1
  simp [partL, longL, this]
end Go.Sc.Fl
/- Chapter 06, in plain words: the document's example; what may be come to holds together. No condition. -/
set_option linter.constructorNameAsVariable false
namespace Go.Sc.Fl
open Go Go.Av Go.Sc
set_option linter.unusedSimpArgs false
set_option linter.unusedVariables false
def F0 : Func := ⟨0, 0, [⟨64, 0, 0, 0, 0⟩, ⟨45, 0, 0, 0, 0⟩], []⟩
def p0 : Prog := ⟨[], 0, [], [F0]⟩
theorem p0_ok : p0.Ok := by
  refine ⟨by decide, fun v hv => by simp [p0] at hv, ⟨by decide, by decide⟩, by decide, fun v hv => by simp [p0] at hv, by decide, fun f hf => ?_⟩
  simp only [p0, List.mem_singleton] at hf
  subst hf
  refine ⟨⟨by decide, by decide⟩, ⟨by decide, by decide⟩, by decide, by decide, fun i hi => ?_, fun s hs => by simp [F0] at hs⟩
  simp only [F0, List.mem_cons, List.not_mem_nil, or_false] at hi
  rcases hi with rfl | rfl <;> exact ⟨⟨by decide, by decide⟩, ⟨by decide, by decide⟩, ⟨by decide, by decide⟩, ⟨by decide, by decide⟩, ⟨by decide, by decide⟩⟩
theorem p0_right : (check p0).1 = 0 := by decide +kernel
theorem p0_ask0 : askE p0 0 0 = 0 := by decide +kernel
theorem p0_ask1 : askE p0 0 1 = 0 := by decide +kernel
theorem p0_ask2 : askE p0 0 2 = 1 := by decide +kernel
theorem F0_fine : Fine F0 := right_fines p0_right F0 (by simp [p0])
theorem F0_next : nextL F0 0 = [1] := by decide +kernel
theorem reach_mem {f : Func} (hf : Fine f) {pc : Nat} {y : Int} : y ∈ reachL f pc ↔ 0 ≤ y ∧ y.toNat < f.code.length ∧ Come (fun _ => true) f (one64 pc) y.toNat := by
  rw [reachL, ints_mem]
  constructor
  · rintro ⟨h0, h1, h2⟩
    exact ⟨h0, h1, (reachM_get (by have := hf.len; omega)).1 h2⟩
  · rintro ⟨h0, h1, h2⟩
    exact ⟨h0, h1, (reachM_get (by have := hf.len; omega)).2 h2⟩
theorem reach_rise (f : Func) (pc : Nat) : (reachL f pc).Pairwise (· < ·) := ints_rise _ _
theorem reach_self {f : Func} (hf : Fine f) {pc : Nat} (hpc : pc < f.code.length) : (pc : Int) ∈ reachL f pc := by
  rw [reach_mem hf]
  exact ⟨by omega, by simpa using hpc, .start _ (by have := (one64_get (pc := pc) (i := pc) (by have := hf.len; omega)).2 rfl; simpa using this)⟩
theorem reach_step {f : Func} (hf : Fine f) {pc : Nat} {i y : Int} (hi : i ∈ reachL f pc) (hy : y ∈ nextL f i.toNat) : y ∈ reachL f pc := by
  rw [reach_mem hf] at hi ⊢
  obtain ⟨h0, h1, h2⟩ := hi
  rw [next_mem hf h1] at hy
  have hb := hf.behind _ h1 y hy
  exact ⟨hb.1, by omega, .step _ y h2 h1 rfl hy⟩
theorem reach_trans {f : Func} (hf : Fine f) {pc : Nat} (hpc : pc < f.code.length) {i y : Int} (hi : i ∈ reachL f pc) (hy : y ∈ reachL f i.toNat) : y ∈ reachL f pc := by
  have h64 := hf.len
  rw [reach_mem hf] at hi hy ⊢
  obtain ⟨h0, h1, h2⟩ := hi
  obtain ⟨k0, k1, k2⟩ := hy
  refine ⟨k0, k1, ?_⟩
  clear k0 k1
  generalize y.toNat = k at k2 ⊢
  induction k2 with
  | start j hj =>
    rw [one64_get (by omega)] at hj
    subst hj
    exact h2
  | step j x _ hj hT hx ih => exact .step j x ih hj hT hx
theorem F0_behind0 : behindL F0 0 = [1] := by decide +kernel
theorem F0_behind1 : behindL F0 1 = [] := by decide +kernel
theorem F0_reach : reachL F0 0 = [0, 1] := by
  refine Srt.rise_eq (reach_rise _ _) (by decide) fun y => ?_
  have hs := reach_self F0_fine (pc := 0) (by decide)
  have h1 : (1 : Int) ∈ reachL F0 0 := reach_step F0_fine hs (by rw [show ((0 : Nat) : Int).toNat = 0 by rfl, F0_next]; simp)
  constructor
  · intro h
    have h2 := ((reach_mem F0_fine).1 h)
    have : F0.code.length = 2 := rfl
    simp only [List.mem_cons, List.not_mem_nil, or_false]
    omega
  · intro h
    simp only [List.mem_cons, List.not_mem_nil, or_false] at h
    rcases h with rfl | rfl
    · exact hs
    · exact h1
theorem F0_long : longV F0 1 = 1 := by
  have hac : Acyc F0 1 := fun i hi => by
    have hi1 : i = 1 := by
      induction hi with
      | start i hi => exact (one64_get (by decide)).1 hi
      | step i x _ _ _ hx ih => subst ih; rw [F0_behind1] at hx; cases hx
    subst hi1
    have hn : ¬ Come (loc F0) F0 (mark (reps 64 false) (behindL F0 1)) 1 := by
      have key : ∀ j, ¬ Come (loc F0) F0 (mark (reps 64 false) (behindL F0 1)) j := fun j h => by
        induction h with
        | start j hj => rw [F0_behind1, mark, List.foldl_nil, zero_getD] at hj; cases hj
        | step j x _ _ _ _ ih => exact ih
      exact key 1
    have h2 : ¬ (reachM (loc F0) F0 (mark (reps 64 false) (behindL F0 1))).getD 1 false = true := fun h => hn ((reachM_get (by decide)).1 h)
    rw [spin]
    cases h3 : (reachM (loc F0) F0 (mark (reps 64 false) (behindL F0 1))).getD 1 false with
    | true => exact absurd h3 h2
    | false => simp
  rw [longV_acyc hac]
  decide +kernel
end Go.Sc.Fl
