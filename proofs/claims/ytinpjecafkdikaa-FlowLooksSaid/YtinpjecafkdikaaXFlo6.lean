/- Chapter 06, in plain words: what may be run, where stretches begin. No condition. -/
import Derived.Test.YtinpjecafkdikaaXFlo
set_option linter.constructorNameAsVariable false
namespace Go.Sc.Fl
open Go Go.Av Go.Sc
set_option linter.unusedSimpArgs false
set_option linter.unusedVariables false
open Classical in
/-- All that may be come to, as marks of a length. -/
noncomputable def reachK (K : Nat) (T : Nat → Bool) (f : Func) (m : List Bool) : List Bool := (List.range K).map fun i => decide (Come T f m i)
@[simp] theorem reachK_length (K : Nat) (T : Nat → Bool) (f : Func) (m : List Bool) : (reachK K T f m).length = K := by simp [reachK]
theorem reachK_get {K : Nat} {T : Nat → Bool} {f : Func} {m : List Bool} {i : Nat} (hi : i < K) : (reachK K T f m).getD i false = true ↔ Come T f m i := by
  simp [reachK, List.getD_eq_getElem?_getD, hi]
theorem marks_eq {a b : List Bool} (hl : a.length = b.length) (h : ∀ i, i < a.length → (a.getD i false = true ↔ b.getD i false = true)) : a = b := by
  refine List.ext_getElem hl fun i h1 h2 => ?_
  have key := h i h1
  have g1 : a.getD i false = a[i] := by rw [List.getD_eq_getElem?_getD, List.getElem?_eq_getElem h1]; rfl
  have g2 : b.getD i false = b[i] := by rw [List.getD_eq_getElem?_getD, List.getElem?_eq_getElem h2]; rfl
  rw [g1, g2] at key
  exact bool_same key
theorem pass_endK {K : Nat} {T : Nat → Bool} {f : Func} {m m0 : List Bool} (hf : Fine f) (hm : m.length = K) (hK : f.code.length ≤ K) (h0 : ∀ i, m0.getD i false = true → m.getD i false = true) (hc : ∀ i, m.getD i false = true → Come T f m0 i) (h : passTo T f m f.code.length = m) : m = reachK K T f m0 := by
  refine marks_eq (by simp [hm]) fun i h1 => ?_
  rw [reachK_get (by omega)]
  refine ⟨hc i, fun hcome => ?_⟩
  clear h1
  induction hcome with
  | start i hi => exact h0 i hi
  | step i x _ hi hT hx ih => exact pass_fixG hf (by omega) h hi ih hT hx
/-- What the spawn at a place runs. -/
def spB (f : Func) (pc : Nat) : List Int := if (f.code.getD pc default).op = 62 then [(f.code.getD pc default).b] else []
def spL (f : Func) (l : List Nat) : List Int := l.flatMap (spB f)
theorem spL_ones (f : Func) (m : List Bool) (n : Nat) : spL f (ones m (n + 1)) = spL f (ones m n) ++ if m.getD n false then spB f n else [] := by
  rw [ones_succ, spL, List.flatMap_append]
  congr 1
  split <;> simp
/-- All places marked that may be come to from the function's beginning. -/
noncomputable def allM (f : Func) : List Bool := reachM (fun _ => true) f ((reps 64 false).set 0 true)
@[simp] theorem allM_length (f : Func) : (allM f).length = 64 := by simp [allM]
/-- The functions that a function may run. -/
noncomputable def calls (f : Func) : List Int := spL f (ones (allM f) f.code.length)
/-- The functions as places of one function: what each may run may come behind it. -/
noncomputable def fake (p : Prog) : Func := ⟨0, 0, (List.range p.funcs.length).map fun (i : Nat) => ⟨61, (i : Int), 0, 0, 0⟩, p.funcs.map fun f => ⟨(calls f).map fun g => ⟨false, 0, 0, g⟩, -1⟩⟩
@[simp] theorem fake_len (p : Prog) : (fake p).code.length = p.funcs.length := by simp [fake]
theorem fake_behind (p : Prog) {i : Nat} (hi : i < p.funcs.length) : behindL (fake p) i = calls p.funcs[i] := by
  have h1 : (fake p).code.getD i default = ⟨61, (i : Int), 0, 0, 0⟩ := by
    rw [List.getD_eq_getElem?_getD, fake]; simp [hi]
  have h2 : (fake p).selects.getD i default = ⟨(calls p.funcs[i]).map fun g => ⟨false, 0, 0, g⟩, -1⟩ := by
    rw [List.getD_eq_getElem?_getD, fake]; simp [hi]
  unfold behindL
  rw [h1]
  simp only [Int.toNat_natCast, h2]
  simp [List.map_map, Function.comp_def]
/-- A program whose spawns run functions of its own. -/
structure Whole (p : Prog) : Prop where
  one : 1 ≤ p.funcs.length
  few : p.funcs.length ≤ 8
  spawn : ∀ f ∈ p.funcs, ∀ pc, pc < f.code.length → (f.code.getD pc default).op = 62 → 0 ≤ (f.code.getD pc default).b ∧ (f.code.getD pc default).b < p.funcs.length
theorem right_whole {p : Prog} (h : (check p).1 = 0) : Whole p := by
  have hr := right_of h
  refine ⟨hr.funcs.1, hr.funcs.2, fun f hf pc hpc h62 => ?_⟩
  · have hat : insE p f (f.code.getD pc default) = 0 := (hr.func f hf).ins _ (by
      rw [List.getD_eq_getElem?_getD, List.getElem?_eq_getElem hpc]; exact List.getElem_mem hpc)
    have := (insE_split (l0 := 111) (l1 := 102) (l2 := 112) (l3 := 45) hat (by rw [h62]; rfl)).2
    exact objE_zero.1 this
theorem spB_in {p : Prog} (hw : Whole p) {f : Func} (hf : f ∈ p.funcs) {pc : Nat} (hpc : pc < f.code.length) : ∀ x ∈ spB f pc, 0 ≤ x ∧ x < p.funcs.length := fun x hx => by
  unfold spB at hx
  split at hx
  · rename_i h
    simp only [List.mem_singleton] at hx
    subst hx
    exact hw.spawn f hf pc hpc h
  · simp at hx
theorem spL_in {p : Prog} (hw : Whole p) {f : Func} (hf : f ∈ p.funcs) {l : List Nat} (hl : ∀ pc ∈ l, pc < f.code.length) : ∀ x ∈ spL f l, 0 ≤ x ∧ x < p.funcs.length := fun x hx => by
  obtain ⟨pc, h1, h2⟩ := List.mem_flatMap.1 hx
  exact spB_in hw hf (hl pc h1) x h2
theorem ones_in {m : List Bool} {n : Nat} : ∀ i ∈ ones m n, i < n := fun i hi => by
  simp only [ones, List.mem_filter, List.mem_range] at hi; exact hi.1
theorem calls_in {p : Prog} (hw : Whole p) {f : Func} (hf : f ∈ p.funcs) : ∀ x ∈ calls f, 0 ≤ x ∧ x < p.funcs.length := spL_in hw hf ones_in
theorem fake_fine {p : Prog} (hw : Whole p) : Fine (fake p) := by
  have h8 := hw.few
  refine ⟨by simp; omega, fun pc hpc x hx => ?_, fun pc hpc _ => ?_⟩
  · have hpc' : pc < p.funcs.length := by simpa using hpc
    rw [fake_behind p hpc'] at hx
    rw [fake_len]
    exact calls_in hw (List.getElem_mem hpc') x hx
  · have hpc' : pc < p.funcs.length := by simpa using hpc
    have h1 : (fake p).code.getD pc default = ⟨61, (pc : Int), 0, 0, 0⟩ := by
      rw [List.getD_eq_getElem?_getD, fake]; simp [hpc']
    rw [h1]
    refine ⟨by simp, ?_⟩
    simp [fake, hpc']
/-- The functions that may be run, where some are: eight marks. -/
noncomputable def runM (p : Prog) (m : List Bool) : List Bool := reachK 8 (fun _ => true) (fake p) m
@[simp] theorem runM_length (p : Prog) (m : List Bool) : (runM p m).length = 8 := by simp [runM]
/-- Those that may be run from the first one on. -/
noncomputable def goesM (p : Prog) : List Bool := runM p ((reps 8 false).set 0 true)
@[simp] theorem goesM_length (p : Prog) : (goesM p).length = 8 := by simp [goesM]
noncomputable def goesL (p : Prog) : List Int := ints (ones (goesM p) 8)
/-- A list of marks laid over marks. -/
theorem mark_over {m s : List Bool} {l : List Int} (hl : ∀ x ∈ l, 0 ≤ x ∧ x.toNat < m.length) (hs : s = mark (reps m.length false) l) : mark m (ints (ones s m.length)) = mark m l := by
  refine mark_same (fun x => ?_) fun x hx => ?_
  · rw [ints_mem]
    constructor
    · rintro ⟨h0, h1, h2⟩
      rw [hs] at h2
      rcases (mark_get l (reps m.length false) x.toNat fun x hx => by simpa using hl x hx).1 h2 with h | h
      · rw [zero_getD] at h; cases h
      · rwa [show ((x.toNat : Nat) : Int) = x by omega] at h
    · intro h
      have := hl x h
      refine ⟨this.1, this.2, ?_⟩
      rw [hs]
      exact (mark_get l (reps m.length false) x.toNat fun x hx => by simpa using hl x hx).2 (.inr (by rw [show ((x.toNat : Nat) : Int) = x by omega]; exact h))
  · rw [ints_mem] at hx
    exact ⟨hx.1, hx.2.1⟩
/-- One mark more of those laid over. -/
theorem mark_ones (m s : List Bool) (g : Nat) (hg : g < m.length) : mark m (ints (ones s (g + 1))) = (mark m (ints (ones s g))).set g ((mark m (ints (ones s g))).getD g false || s.getD g false) := by
  rw [ones_succ, ints, List.map_append]
  cases h : s.getD g false with
  | true =>
    simp only [if_true, List.map_cons, List.map_nil, Bool.or_true]
    exact mark_snoc _ _ _
  | false =>
    simp only [Bool.or_false]
    rw [if_neg (by simp)]
    simp only [List.map_nil, List.append_nil]
    refine List.ext_getElem (by simp) fun i h1 h2 => ?_
    rw [List.getElem_set]
    split
    · rename_i hi
      subst hi
      rw [List.getD_eq_getElem?_getD]
      unfold ints
      rw [List.getElem?_eq_getElem h1]; rfl
    · rfl
/-- The numbers that are in, of two lengths of marks. -/
theorem goes_mem {p : Prog} (hw : Whole p) {y : Int} : y ∈ goesL p ↔ 0 ≤ y ∧ y.toNat < p.funcs.length ∧ Come (fun _ => true) (fake p) ((reps 8 false).set 0 true) y.toNat := by
  have h8 := hw.few
  have h1 := hw.one
  rw [goesL, ints_mem]
  constructor
  · rintro ⟨h0, h1', h2⟩
    have hc := (reachK_get h1').1 h2
    refine ⟨h0, ?_, hc⟩
    generalize y.toNat = k at hc
    cases hc with
    | start _ hi => 
      have := (oneN_get (n := 8) (by omega)).1 hi
      omega
    | step i x hc hi hT hx =>
      have := (fake_fine hw).behind i hi _ hx
      rw [fake_len] at this
      omega
  · rintro ⟨h0, h1', h2⟩
    exact ⟨h0, by omega, (reachK_get (by omega)).2 h2⟩
theorem goes_rise (p : Prog) : (goesL p).Pairwise (· < ·) := ints_rise _ _
/-- The document's marks of the functions that may be run. -/
noncomputable def goesN (p : Prog) : List Bool := reachK p.funcs.length (fun _ => true) (fake p) ((reps p.funcs.length false).set 0 true)
theorem goesN_list {p : Prog} (hw : Whole p) : ints (ones (goesN p) p.funcs.length) = goesL p := by
  have h1 := hw.one
  refine Srt.rise_eq (ints_rise _ _) (goes_rise p) fun y => ?_
  rw [goes_mem hw, ints_mem]
  refine and_congr Iff.rfl ⟨?_, ?_⟩
  · rintro ⟨h, h2⟩
    refine ⟨h, come_same (fun _ _ => rfl) (fun i hi => ?_) ((reachK_get h).1 h2)⟩
    rw [oneN_get (by omega)] at hi ⊢
    exact hi
  · rintro ⟨h, h2⟩
    refine ⟨h, (reachK_get h).2 (come_same (fun _ _ => rfl) (fun i hi => ?_) h2)⟩
    rw [oneN_get (by omega)] at hi ⊢
    exact hi
theorem goesN_mark {p : Prog} (hw : Whole p) : mark (reps p.funcs.length false) (goesL p) = goesN p := by
  rw [← goesN_list hw]
  refine marks_eq (by simp [goesN]) fun i hi => ?_
  have hi' : i < p.funcs.length := by simpa using hi
  rw [mark_get _ _ i fun x hx => by
    rw [ints_mem] at hx; simp; exact ⟨hx.1, hx.2.1⟩, zero_getD, ints_mem]
  simp [hi']
theorem goes_get {p : Prog} (hw : Whole p) {f : Nat} (hf : f < p.funcs.length) : (goesN p).getD f false = (goesM p).getD f false := by
  have h8 := hw.few
  have h1 := hw.one
  refine bool_same ?_
  rw [goesN, goesM, runM, reachK_get hf, reachK_get (by omega)]
  refine ⟨come_same (fun _ _ => rfl) fun i hi => ?_, come_same (fun _ _ => rfl) fun i hi => ?_⟩
  · rw [oneN_get (by omega)] at hi ⊢; exact hi
  · rw [oneN_get (by omega)] at hi ⊢; exact hi
/-- The places of a function that no run comes to. -/
noncomputable def idleF (p : Prog) (f n : Nat) : List (List AV) := ((List.range n).filter fun pc => !((goesM p).getD f false && (allM (p.funcs.getD f default)).getD pc false)).map fun (pc : Nat) => [.i .i64 (f : Int), .i .i64 (pc : Int)]
noncomputable def idleL (p : Prog) (k : Nat) : List (List AV) := (List.range k).flatMap fun f => idleF p f (p.funcs.getD f default).code.length
theorem idleF_succ (p : Prog) (f n : Nat) : idleF p f (n + 1) = idleF p f n ++ if !((goesM p).getD f false && (allM (p.funcs.getD f default)).getD n false) then [[.i .i64 (f : Int), .i .i64 (n : Int)]] else [] := by
  simp only [idleF, List.range_succ, List.filter_append, List.filter_cons, List.filter_nil, List.map_append]
  congr 1
  split <;> simp
theorem idleL_succ (p : Prog) (k : Nat) : idleL p (k + 1) = idleL p k ++ idleF p k (p.funcs.getD k default).code.length := by
  simp only [idleL, List.range_succ, List.flatMap_append, List.flatMap_cons, List.flatMap_nil, List.append_nil]
theorem idleF_len (p : Prog) (f n : Nat) : (idleF p f n).length ≤ n := by
  simp only [idleF, List.length_map]
  have := List.length_filter_le (fun pc => !((goesM p).getD f false && (allM (p.funcs.getD f default)).getD pc false)) (List.range n)
  simpa using this
theorem idleL_len {p : Prog} (h : ∀ f ∈ p.funcs, f.code.length ≤ 64) : ∀ k, k ≤ p.funcs.length → (idleL p k).length ≤ 64 * k
  | 0, _ => by simp [idleL]
  | k + 1, hk => by
    have ih := idleL_len h k (by omega)
    have h1 := idleF_len p k (p.funcs.getD k default).code.length
    have hkl : k < p.funcs.length := by omega
    have h2 := h (p.funcs.getD k default) (by rw [List.getD_eq_getElem?_getD, List.getElem?_eq_getElem hkl]; exact List.getElem_mem hkl)
    rw [idleL_succ, List.length_append]
    omega
/-- Does a stretch end at a place? -/
def endsAt (f : Func) (pc : Nat) : Bool := let o := (f.code.getD pc default).op; o == 42 || o == 43 || o == 61 || o == 45
/-- The places at which stretches begin, as they are told. -/
def headB (f : Func) (pc : Nat) : List Int := if endsAt f pc then behindL f pc ++ (if pc + 1 < f.code.length then [(pc : Int) + 1] else []) else []
def headsX (f : Func) (n : Nat) : List Int := (List.range n).flatMap (headB f)
theorem headsX_succ (f : Func) (n : Nat) : headsX f (n + 1) = headsX f n ++ headB f n := by simp [headsX, List.range_succ]
theorem headB_in {f : Func} (hf : Fine f) {pc : Nat} (hpc : pc < f.code.length) : ∀ x ∈ headB f pc, 0 ≤ x ∧ x < f.code.length := fun x hx => by
  unfold headB at hx
  split at hx
  · rcases List.mem_append.1 hx with h | h
    · exact hf.behind pc hpc x h
    · split at h
      · simp only [List.mem_singleton] at h; omega
      · simp at h
  · simp at hx
theorem headsX_in {f : Func} (hf : Fine f) {n : Nat} (hn : n ≤ f.code.length) : ∀ x ∈ headsX f n, 0 ≤ x ∧ x < f.code.length := fun x hx => by
  obtain ⟨pc, h1, h2⟩ := List.mem_flatMap.1 hx
  rw [List.mem_range] at h1
  exact headB_in hf (by omega) x h2
/-- The places at which stretches begin. -/
def headsL (f : Func) : List Int := ints (ones (mark ((reps 64 false).set 0 true) (headsX f f.code.length)) f.code.length)
theorem heads_mem {f : Func} (hf : Fine f) (h1 : 0 < f.code.length) {y : Int} : y ∈ headsL f ↔ y = 0 ∨ y ∈ headsX f f.code.length := by
  have hl := hf.len
  have hin : ∀ x ∈ headsX f f.code.length, 0 ≤ x ∧ x.toNat < ((reps 64 false).set 0 true).length := fun x hx => by
    have := headsX_in hf (Nat.le_refl _) x hx
    simp; omega
  rw [headsL, ints_mem]
  constructor
  · rintro ⟨h0, h2, h3⟩
    rcases (mark_get _ _ y.toNat hin).1 h3 with h | h
    · have := (oneN_get (n := 64) (by omega)).1 h
      exact .inl (by omega)
    · rw [show ((y.toNat : Nat) : Int) = y by omega] at h
      exact .inr h
  · rintro (rfl | h)
    · exact ⟨by omega, by simpa using h1, (mark_get _ _ 0 hin).2 (.inl ((oneN_get (n := 64) (by omega)).2 rfl))⟩
    · have := headsX_in hf (Nat.le_refl _) y h
      exact ⟨this.1, by omega, (mark_get _ _ y.toNat hin).2 (.inr (by rw [show ((y.toNat : Nat) : Int) = y by omega]; exact h))⟩
/-- Numbers put into a list, one after another. -/
def insOn (o l : List Int) : List Int := l.foldl (fun l x => ins x l) o
theorem insOn_app (o a b : List Int) : insOn o (a ++ b) = insOn (insOn o a) b := by simp [insOn]
theorem insOn_take (o : List Int) {l : List Int} {i : Nat} {x : Int} (h : l[i]? = some x) : insOn o (l.take (i + 1)) = ins x (insOn o (l.take i)) := foldl_take (fun l x => ins x l) o h
/-- What the document puts for a place. -/
def headD (f : Func) (pc : Nat) : List Int := if endsAt f pc then (if pc + 1 < f.code.length then [(pc : Int) + 1] else []) ++ nextL f pc else []
def headsD (f : Func) (n : Nat) : List Int := (List.range n).flatMap (headD f)
theorem headsD_succ (f : Func) (n : Nat) : headsD f (n + 1) = headsD f n ++ headD f n := by simp [headsD, List.range_succ]
theorem headsD_mem {f : Func} (hf : Fine f) {y : Int} : y ∈ headsD f f.code.length ↔ y ∈ headsX f f.code.length := by
  simp only [headsD, headsX, List.mem_flatMap, List.mem_range]
  refine exists_congr fun pc => and_congr_right fun hpc => ?_
  unfold headD headB
  split
  · rw [List.mem_append, List.mem_append, next_mem hf hpc]
    exact Or.comm
  · exact Iff.rfl
theorem headsD_eq {f : Func} (hf : Fine f) (h1 : 0 < f.code.length) : insOn [0] (headsD f f.code.length) = headsL f := by
  have h := insAll_go (headsD f f.code.length) [0] (List.pairwise_singleton _ _)
  refine Srt.rise_eq h.1 (ints_rise _ _) fun y => ?_
  rw [heads_mem hf h1, ← headsD_mem hf]
  refine (h.2 y).trans ?_
  rw [List.mem_singleton]
  exact Or.comm
theorem insOn_len (o l : List Int) : (insOn o l).length ≤ o.length + l.length := by
  induction l generalizing o with
  | nil => simp [insOn]
  | cons x l ih =>
    have h1 := ih (ins x o)
    have h2 : (ins x o).length ≤ o.length + 1 := by
      clear h1 ih
      induction o with
      | nil => simp [ins]
      | cons y o ih2 =>
        rw [ins]
        split
        · simp; omega
        · split <;> simp
    simp only [insOn, List.foldl_cons, List.length_cons] at h1 ⊢
    omega
theorem nextL_len' (f : Func) (pc : Nat) : (nextL f pc).length ≤ f.code.length := by simp only [nextL, ints, List.length_map]; exact ones_len _ _
theorem headD_len (f : Func) (n : Nat) : (headD f n).length ≤ 1 + f.code.length := by
  have h1 := nextL_len' f n
  unfold headD
  split
  · rw [List.length_append]; split <;> simp <;> omega
  · simp
theorem headsD_len {f : Func} (hf : f.code.length ≤ 64) : ∀ n, (headsD f n).length ≤ 65 * n
  | 0 => by simp [headsD]
  | n + 1 => by
    have := headD_len f n
    have := headsD_len hf n
    rw [headsD_succ, List.length_append]; omega
end Go.Sc.Fl
