/- Chapters 10 to 13, in plain words: events, what depends on what, the clocks. No condition. -/
import Derived.Test.YtgipkikbefnokaaDoorXAv22
import Derived.Test.YtgipkikbefnokaaDoorXSrt
import Derived.Test.YtgipkikbefnokaaDoorXSc
set_option linter.constructorNameAsVariable false
namespace Go.Sc.Or
open Go Go.Av Go.Sc
set_option linter.unusedSimpArgs false
set_option linter.unusedVariables false
structure Acc where
  k : Int
  n : Int
  w : Bool
  deriving DecidableEq, Inhabited
def Acc.row (a : Acc) : List AV := [.i .i64 a.k, .i .i64 a.n, .b a.w]
@[simp] theorem Acc.row_length (a : Acc) : a.row.length = 3 := rfl
@[simp] theorem Acc.row_take (a : Acc) : a.row.take 3 = a.row := rfl
def Acc.Ok (a : Acc) : Prop := I64 a.k ∧ I64 a.n
structure Ev where
  go : Int
  fn : Int
  pc : Int
  op : Int
  alt : Int
  val : Int
  tag : Int
  t0 : Acc
  t1 : Acc
  t2 : Acc
  t3 : Acc
  t4 : Acc
  t5 : Acc
  n : Int
  deriving DecidableEq, Inhabited
def Ev.all (e : Ev) : List Acc := [e.t0, e.t1, e.t2, e.t3, e.t4, e.t5]
@[simp] theorem Ev.all_length (e : Ev) : e.all.length = 6 := rfl
def Ev.cells (e : Ev) : List AV := e.t0.row ++ e.t1.row ++ e.t2.row ++ e.t3.row ++ e.t4.row ++ e.t5.row
def Ev.row (e : Ev) : List AV := [.i .i64 e.go, .i .i64 e.fn, .i .i64 e.pc, .i .i64 e.op, .i .i64 e.alt, .i .i64 e.val, .i .i64 e.tag] ++ e.cells ++ [.i .i64 e.n]
@[simp] theorem Ev.row_length (e : Ev) : e.row.length = 26 := rfl
@[simp] theorem Ev.row_take (e : Ev) : e.row.take 26 = e.row := rfl
@[simp] theorem Ev.row_ne (e : Ev) : ¬ e.row = [] := by simp [Ev.row]
@[simp] theorem Ev.row_go (e : Ev) : e.row[0]?.getD AV.nil = .i .i64 e.go := rfl
structure Ev.Ok (e : Ev) : Prop where
  go : I64 e.go
  n : I64 e.n
  all : ∀ a ∈ e.all, a.Ok
def Ev.touched (e : Ev) : List Acc := e.all.take (max 0 (min 6 e.n)).toNat
def Acc.hits (x y : Acc) : Bool := decide (x.k = y.k) && decide (x.n = y.n) && (x.w || y.w)
def clash (a b : List Acc) : Bool := a.any fun x => b.any fun y => x.hits y
def dep (a b : Ev) : Bool := clash a.touched b.touched
theorem hits_comm (x y : Acc) : x.hits y = y.hits x := by
  unfold Acc.hits
  rw [Bool.or_comm, show decide (x.k = y.k) = decide (y.k = x.k) by rw [decide_eq_decide]; exact eq_comm, show decide (x.n = y.n) = decide (y.n = x.n) by rw [decide_eq_decide]; exact eq_comm]
theorem clash_iff {a b : List Acc} : clash a b = true ↔ ∃ x ∈ a, ∃ y ∈ b, x.hits y = true := by
  simp only [clash, List.any_eq_true]
theorem dep_comm (a b : Ev) : dep a b = dep b a := by
  rw [Bool.eq_iff_iff, dep, dep, clash_iff, clash_iff]
  constructor
  · rintro ⟨x, h1, y, h2, h3⟩; exact ⟨y, h2, x, h1, by rw [hits_comm]; exact h3⟩
  · rintro ⟨x, h1, y, h2, h3⟩; exact ⟨y, h2, x, h1, by rw [hits_comm]; exact h3⟩
def few (k : Int) : Int := if k = 1 then 8 else if k = 2 ∨ k = 3 then 4 else if k = 4 ∨ k = 6 then 1 else if k = 5 then 6 else 0
def Acc.zero : Acc := ⟨0, 0, false⟩
def Acc.lt (x a : Acc) : Prop := x.k < a.k ∨ x.k = a.k ∧ x.n < a.n
instance (x a : Acc) : Decidable (x.lt a) := inferInstanceAs (Decidable (_ ∨ _))
def rightAt (e : Ev) (i : Nat) : Bool :=
  if e.n ≤ (i : Int) then decide (e.all.getD i default = Acc.zero)
  else decide (0 ≤ (e.all.getD i default).n ∧ (e.all.getD i default).n < few (e.all.getD i default).k) && (i == 0 || decide ((e.all.getD (i - 1) default).lt (e.all.getD i default)))
def rightE (e : Ev) : Bool := decide (0 ≤ e.go ∧ e.go < 6 ∧ 1 ≤ e.n ∧ e.n ≤ 6) && (List.range 6).all (rightAt e) && e.touched.any fun a => decide (a = ⟨5, e.go, true⟩)
def checkT (t : List Ev) : Int := if 256 < t.length then 2 else if t.all rightE then 0 else 7
theorem check_zero {t : List Ev} (h : checkT t = 0) : t.length ≤ 256 ∧ ∀ e ∈ t, rightE e = true := by
  unfold checkT at h
  split at h
  · cases h
  · split at h
    · rename_i h1 h2; exact ⟨by omega, fun e he => List.all_eq_true.1 h2 e he⟩
    · cases h
theorem right_go {e : Ev} (h : rightE e = true) : 0 ≤ e.go ∧ e.go < 6 ∧ 1 ≤ e.n ∧ e.n ≤ 6 := by
  unfold rightE at h
  simp only [Bool.and_eq_true, decide_eq_true_eq] at h
  exact h.1.1
theorem right_own {e : Ev} (h : rightE e = true) : (⟨5, e.go, true⟩ : Acc) ∈ e.touched := by
  unfold rightE at h
  simp only [Bool.and_eq_true, List.any_eq_true, decide_eq_true_eq] at h
  obtain ⟨_, a, ha, rfl⟩ := h
  exact ha
theorem dep_own {a b : Ev} (ha : rightE a = true) (hb : rightE b = true) (h : a.go = b.go) : dep a b = true := by
  rw [dep, clash_iff]
  refine ⟨_, right_own ha, _, right_own hb, ?_⟩
  simp [Acc.hits, h]
abbrev Clk := List Int
def joinC (a b : Clk) : Clk := (List.range 6).map fun g => max (a.getD g 0) (b.getD g 0)
def tickC (a : Clk) (g : Nat) : Clk := a.set g (a.getD g 0 + 1)
def zeroC : Clk := reps 6 0
@[simp] theorem joinC_length (a b : Clk) : (joinC a b).length = 6 := by simp [joinC]
@[simp] theorem tickC_length (a : Clk) (g : Nat) : (tickC a g).length = a.length := by simp [tickC]
@[simp] theorem zeroC_length : zeroC.length = 6 := by simp [zeroC]
theorem joinC_get (a b : Clk) {g : Nat} (hg : g < 6) : (joinC a b).getD g 0 = max (a.getD g 0) (b.getD g 0) := by
  simp [joinC, List.getD_eq_getElem?_getD, hg]
theorem zeroC_get (g : Nat) : zeroC.getD g 0 = 0 := reps_getD
theorem tickC_get (a : Clk) {g i : Nat} (hg : g < a.length) : (tickC a g).getD i 0 = if g = i then a.getD g 0 + 1 else a.getD i 0 := by
  simp only [tickC, List.getD_eq_getElem?_getD, List.getElem?_set]
  by_cases h : g = i
  · subst h; simp [hg]
  · simp [h]
def joinTo (t : List Ev) (c : List Clk) (e : Ev) : Nat → Clk
  | 0 => zeroC
  | j + 1 => if dep (t.getD j default) e then joinC (joinTo t c e j) (c.getD j []) else joinTo t c e j
def clk (t : List Ev) : Nat → List Clk
  | 0 => []
  | i + 1 => clk t i ++ [tickC (joinTo t (clk t i) (t.getD i default) i) (t.getD i default).go.toNat]
@[simp] theorem clk_length (t : List Ev) : ∀ i, (clk t i).length = i
  | 0 => rfl
  | i + 1 => by rw [clk, List.length_append, clk_length t i]; rfl
@[simp] theorem joinTo_length (t : List Ev) (c : List Clk) (e : Ev) : ∀ j, (joinTo t c e j).length = 6
  | 0 => by simp [joinTo]
  | j + 1 => by rw [joinTo]; split
                · simp
                · exact joinTo_length t c e j
def clkAt (t : List Ev) (i : Nat) : Clk := (clk t (i + 1)).getD i []
theorem clk_get (t : List Ev) : ∀ {n i : Nat}, i < n → (clk t n).getD i [] = clkAt t i
  | n + 1, i, h => by
    by_cases e : i = n
    · subst e; rfl
    · have := clk_get t (n := n) (i := i) (by omega)
      rw [clk, List.getD_eq_getElem?_getD, List.getElem?_append_left (by simp; omega), ← List.getD_eq_getElem?_getD]
      exact this
theorem joinTo_same (t : List Ev) (e : Ev) {c c' : List Clk} : ∀ j, (∀ k, k < j → c.getD k [] = c'.getD k []) → joinTo t c e j = joinTo t c' e j
  | 0, _ => rfl
  | j + 1, h => by rw [joinTo, joinTo, joinTo_same t e j fun k hk => h k (by omega), h j (by omega)]
def base (t : List Ev) (i : Nat) : Clk := joinTo t (clk t i) (t.getD i default) i
theorem clkAt_eq (t : List Ev) (i : Nat) : clkAt t i = tickC (base t i) (t.getD i default).go.toNat := by
  rw [clkAt, clk, List.getD_eq_getElem?_getD, List.getElem?_append_right (by simp)]
  simp [base]
@[simp] theorem base_length (t : List Ev) (i : Nat) : (base t i).length = 6 := by simp [base]
@[simp] theorem clkAt_length (t : List Ev) (i : Nat) : (clkAt t i).length = 6 := by rw [clkAt_eq]; simp
theorem joinTo_le (t : List Ev) (c : List Clk) (e : Ev) {g : Nat} (hg : g < 6) {z : Int} : ∀ j, ((joinTo t c e j).getD g 0 ≤ z ↔ 0 ≤ z ∧ ∀ k, k < j → dep (t.getD k default) e = true → (c.getD k []).getD g 0 ≤ z)
  | 0 => by
    rw [joinTo, zeroC_get]
    exact ⟨fun h => ⟨h, fun k hk => absurd hk (by omega)⟩, fun h => h.1⟩
  | j + 1 => by
    have ih := joinTo_le t c e hg (z := z) j
    rw [joinTo]
    split
    · rename_i hd
      rw [joinC_get _ _ hg]
      constructor
      · intro h
        have h1 := ih.1 (by omega)
        refine ⟨h1.1, fun k hk hdk => ?_⟩
        by_cases e : k = j
        · subst e; omega
        · exact h1.2 k (by omega) hdk
      · rintro ⟨h0, h⟩
        have h1 := ih.2 ⟨h0, fun k hk => h k (by omega)⟩
        have h2 := h j (by omega) hd
        omega
    · rename_i hd
      rw [ih]
      refine and_congr_right fun _ => ⟨fun h k hk hdk => ?_, fun h k hk => h k (by omega)⟩
      by_cases e : k = j
      · subst e; exact absurd hdk hd
      · exact h k (by omega) hdk
theorem base_le (t : List Ev) (i : Nat) {g : Nat} (hg : g < 6) {z : Int} : (base t i).getD g 0 ≤ z ↔ 0 ≤ z ∧ ∀ k, k < i → dep (t.getD k default) (t.getD i default) = true → (clkAt t k).getD g 0 ≤ z := by
  rw [base, joinTo_le _ _ _ hg]
  refine and_congr_right fun _ => forall_congr' fun k => forall_congr' fun hk => ?_
  rw [clk_get t hk]
theorem base_ge {t : List Ev} {i k : Nat} {g : Nat} (hg : g < 6) (hk : k < i) (hd : dep (t.getD k default) (t.getD i default) = true) : (clkAt t k).getD g 0 ≤ (base t i).getD g 0 :=
  ((base_le t i hg).1 (Int.le_refl _)).2 k hk hd
theorem base_nn (t : List Ev) (i : Nat) {g : Nat} (hg : g < 6) : 0 ≤ (base t i).getD g 0 := ((base_le t i hg).1 (Int.le_refl _)).1
def crow (c : Clk) : List AV := ags (AV.i .i64) c
@[simp] theorem crow_length (c : Clk) : (crow c).length = c.length := by simp [crow]
@[simp] theorem crow_map (c : Clk) : (crow c).map RV.v = avs (AV.i .i64) c := map_ags
def badN (n : Int) : Bool := decide (n < 0) || decide (1073741824 < n)
def okC (c : Clk) : Bool := !c.any badN
def joinN (a b : Clk) : Nat → Clk
  | 0 => a
  | k + 1 => (joinN a b k).set k (max ((joinN a b k).getD k 0) (b.getD k 0))
@[simp] theorem joinN_length (a b : Clk) : ∀ k, (joinN a b k).length = a.length
  | 0 => rfl
  | k + 1 => by rw [joinN, List.length_set, joinN_length]
theorem joinN_get (a b : Clk) (g : Nat) : ∀ k, k ≤ a.length → (joinN a b k).getD g 0 = if g < k then max (a.getD g 0) (b.getD g 0) else a.getD g 0
  | 0, _ => by simp [joinN]
  | k + 1, hk => by
    have ih := fun g => joinN_get a b g k (by omega)
    rw [joinN, List.getD_eq_getElem?_getD, List.getElem?_set]
    by_cases h : k = g
    · subst h
      have := joinN_get a b k k (by omega)
      simp only [Nat.lt_irrefl, if_false] at this
      rw [if_pos rfl, if_pos (by rw [joinN_length]; omega), if_pos (by omega), this]
      rfl
    · rw [if_neg h, ← List.getD_eq_getElem?_getD, joinN_get a b g k (by omega)]
      by_cases h2 : g < k
      · rw [if_pos h2, if_pos (by omega)]
      · rw [if_neg h2, if_neg (by omega)]
theorem joinN_all {a b : Clk} (ha : a.length = 6) : joinN a b 6 = joinC a b := by
  apply List.ext_getElem (by simp [ha])
  intro g h1 h2
  have h6 : g < 6 := by simpa [ha] using h1
  have e1 := joinN_get a b g 6 (by omega)
  have e2 := joinC_get a b h6
  rw [if_pos h6] at e1
  rw [List.getD_eq_getElem?_getD, List.getElem?_eq_getElem h1] at e1
  rw [List.getD_eq_getElem?_getD, List.getElem?_eq_getElem h2] at e2
  simp only [Option.getD_some] at e1 e2
  rw [e1, e2]
structure Good (t : List Ev) : Prop where
  len : t.length ≤ 256
  right : ∀ e ∈ t, rightE e = true
theorem good_of {t : List Ev} (h : checkT t = 0) : Good t := ⟨(check_zero h).1, (check_zero h).2⟩
theorem Good.at {t : List Ev} (h : Good t) {i : Nat} (hi : i < t.length) : rightE (t.getD i default) = true := by
  rw [List.getD_eq_getElem?_getD, List.getElem?_eq_getElem hi]
  exact h.right _ (List.getElem_mem hi)
theorem Good.go {t : List Ev} (h : Good t) {i : Nat} (hi : i < t.length) : 0 ≤ (t.getD i default).go ∧ (t.getD i default).go.toNat < 6 := by
  have := right_go (h.at hi)
  omega
def goN (t : List Ev) (i : Nat) : Nat := (t.getD i default).go.toNat
theorem clkAt_get {t : List Ev} (h : Good t) {i : Nat} (hi : i < t.length) (g : Nat) : (clkAt t i).getD g 0 = if goN t i = g then (base t i).getD g 0 + 1 else (base t i).getD g 0 := by
  rw [clkAt_eq, tickC_get _ (by simpa using (h.go hi).2)]
  unfold goN
  split
  · rename_i e; rw [e]
  · rfl
theorem clkAt_ge {t : List Ev} (h : Good t) {i : Nat} (hi : i < t.length) (g : Nat) : (base t i).getD g 0 ≤ (clkAt t i).getD g 0 := by
  rw [clkAt_get h hi]; split <;> omega
theorem clkAt_nn {t : List Ev} (h : Good t) {i : Nat} (hi : i < t.length) {g : Nat} (hg : g < 6) : 0 ≤ (clkAt t i).getD g 0 := by
  have := clkAt_ge h hi g
  have := base_nn t i hg
  omega
theorem clkAt_small {t : List Ev} (h : Good t) : ∀ i, i < t.length → ∀ g, g < 6 → (clkAt t i).getD g 0 ≤ (i : Int) + 1 := fun i hi g hg => by
  induction i using Nat.strongRecOn with
  | _ i ih =>
    have hb : (base t i).getD g 0 ≤ (i : Int) := (base_le t i hg).2 ⟨by omega, fun k hk _ => by have := ih k hk (by omega); omega⟩
    rw [clkAt_get h hi]; split <;> omega
theorem le_dep {t : List Ev} (h : Good t) {k i : Nat} (hk : k < i) (hi : i < t.length) (hd : dep (t.getD k default) (t.getD i default) = true) {g : Nat} (hg : g < 6) : (clkAt t k).getD g 0 ≤ (clkAt t i).getD g 0 :=
  Int.le_trans (base_ge hg hk hd) (clkAt_ge h hi g)
theorem dep_same {t : List Ev} (h : Good t) {k i : Nat} (hk : k < t.length) (hi : i < t.length) (e : goN t k = goN t i) : dep (t.getD k default) (t.getD i default) = true := by
  have h1 := h.go hk
  have h2 := h.go hi
  unfold goN at e
  exact dep_own (h.at hk) (h.at hi) (by omega)
theorem clk_from {t : List Ev} (h : Good t) {g : Nat} (hg : g < 6) : ∀ i, i < t.length → (clkAt t i).getD g 0 ≤ 0 ∨ ∃ m, m ≤ i ∧ goN t m = g ∧ (clkAt t i).getD g 0 ≤ (clkAt t m).getD g 0 := fun i hi => by
  induction i using Nat.strongRecOn with
  | _ i ih =>
    by_cases e : goN t i = g
    · exact .inr ⟨i, Nat.le_refl _, e, Int.le_refl _⟩
    · rw [clkAt_get h hi, if_neg e]
      apply Classical.byContradiction
      intro hc
      rw [not_or] at hc
      obtain ⟨h1, h2⟩ := hc
      have hlt : (base t i).getD g 0 ≤ (base t i).getD g 0 - 1 := (base_le t i hg).2 ⟨by omega, fun k hk hd => by
        rcases ih k hk (by omega) with h3 | ⟨m, h3, h4, h5⟩
        · omega
        · apply Classical.byContradiction
          intro h6
          exact h2 ⟨m, by omega, h4, by omega⟩⟩
      omega
theorem own_lt {t : List Ev} (h : Good t) {k i : Nat} (hk : k < i) (hi : i < t.length) : (clkAt t k).getD (goN t i) 0 < (clkAt t i).getD (goN t i) 0 := by
  have hg : goN t i < 6 := (h.go hi).2
  have hb := base_nn t i hg
  have hi1 := clkAt_get h hi (goN t i)
  rw [if_pos rfl] at hi1
  rcases clk_from h hg k (by omega) with h1 | ⟨m, h1, h2, h3⟩
  · omega
  · have := base_ge (t := t) (i := i) (k := m) hg (by omega) (dep_same h (by omega) hi h2)
    omega
theorem okC_of {c : Clk} (hl : c.length = 6) (h : ∀ g, g < 6 → 0 ≤ c.getD g 0 ∧ c.getD g 0 ≤ 1073741824) : okC c = true := by
  rw [okC, Bool.not_eq_true']
  rw [Bool.eq_false_iff, Ne, List.any_eq_true]
  rintro ⟨x, hx, hb⟩
  obtain ⟨g, hg, rfl⟩ := List.getElem_of_mem hx
  have := h g (by omega)
  rw [List.getD_eq_getElem?_getD, List.getElem?_eq_getElem hg] at this
  simp only [Option.getD_some] at this
  unfold badN at hb
  simp only [Bool.or_eq_true, decide_eq_true_eq] at hb
  omega
theorem joinTo_ok {t : List Ev} (h : Good t) {i : Nat} (hi : i < t.length) {j : Nat} (hj : j ≤ i) : okC (joinTo t (clk t i) (t.getD i default) j) = true := by
  refine okC_of (by simp) fun g hg => ⟨((joinTo_le t (clk t i) (t.getD i default) hg j).1 (Int.le_refl _)).1, (joinTo_le t (clk t i) (t.getD i default) hg j).2 ⟨by omega, fun k hk _ => ?_⟩⟩
  rw [clk_get t (by omega : k < i)]
  have := clkAt_small h k (by omega) g hg
  have := h.len
  omega
theorem base_small {t : List Ev} (h : Good t) {i : Nat} (hi : i < t.length) {g : Nat} (hg : g < 6) : (base t i).getD g 0 < 1073741824 := by
  have : (base t i).getD g 0 ≤ (i : Int) := (base_le t i hg).2 ⟨by omega, fun k hk _ => by have := clkAt_small h k (by omega) g hg; omega⟩
  have := h.len
  omega
theorem clkAt_ok {t : List Ev} (h : Good t) {i : Nat} (hi : i < t.length) : okC (clkAt t i) = true := by
  refine okC_of (by simp) fun g hg => ⟨clkAt_nn h hi hg, ?_⟩
  have := clkAt_small h i hi g hg
  have := h.len
  omega
def stC (t : List Ev) (i : Nat) : List Clk := clk t i ++ List.replicate (t.length - i) zeroC
def stJ (t : List Ev) (i j : Nat) : List Clk := (stC t i).set i (joinTo t (clk t i) (t.getD i default) j)
theorem stC_length {t : List Ev} {i : Nat} (hi : i ≤ t.length) : (stC t i).length = t.length := by simp [stC]; omega
theorem stJ_length {t : List Ev} {i j : Nat} (hi : i ≤ t.length) : (stJ t i j).length = t.length := by rw [stJ, List.length_set, stC_length hi]
theorem stC_low {t : List Ev} {i k : Nat} (hk : k < i) (hi : i ≤ t.length) : (stC t i)[k]? = some (clkAt t k) := by
  rw [stC, List.getElem?_append_left (by simpa using hk)]
  have := clk_get t hk
  rw [List.getD_eq_getElem?_getD, List.getElem?_eq_getElem (by simpa using hk)] at this
  rw [List.getElem?_eq_getElem (by simpa using hk)]
  exact congrArg some this
theorem stJ_low {t : List Ev} {i j k : Nat} (hk : k < i) (hi : i ≤ t.length) : (stJ t i j)[k]? = some (clkAt t k) := by
  rw [stJ, List.getElem?_set_ne (by omega), stC_low hk hi]
theorem stJ_at {t : List Ev} {i j : Nat} (hi : i < t.length) : (stJ t i j)[i]? = some (joinTo t (clk t i) (t.getD i default) j) := by
  rw [stJ, List.getElem?_set_self (by rw [stC_length (by omega)]; exact hi)]
theorem stJ_zero {t : List Ev} {i : Nat} (hi : i < t.length) : stJ t i 0 = stC t i := by
  have : (stC t i)[i]? = some zeroC := by
    rw [stC, List.getElem?_append_right (by simp), clk_length, Nat.sub_self, List.getElem?_replicate, if_pos (by omega)]
  rw [stJ, joinTo]
  exact List.ext_getElem? fun k => by
    by_cases e : i = k
    · subst e
      rw [List.getElem?_set_self (by rw [stC_length (by omega)]; exact hi), this]
    · rw [List.getElem?_set_ne e]
theorem stJ_set {t : List Ev} {i j : Nat} (c : Clk) : (stJ t i j).set i c = (stC t i).set i c := by rw [stJ, List.set_set]
theorem stC_succ {t : List Ev} {i : Nat} (hi : i < t.length) : stC t (i + 1) = (stC t i).set i (clkAt t i) := by
  rw [stC, clk, stC, List.set_append_right _ _ (by simp), clk_length, Nat.sub_self]
  obtain ⟨m, hm⟩ : ∃ m, t.length - i = m + 1 := ⟨t.length - i - 1, by omega⟩
  rw [hm, List.replicate_succ, List.set_cons_zero, show t.length - (i + 1) = m by omega, clkAt_eq]
  simp [base]
theorem stC_all (t : List Ev) : stC t t.length = clk t t.length := by simp [stC]
theorem clk_tells {t : List Ev} (h : Good t) {i : Nat} (hi : i < t.length) : ∀ j, i < j → j < t.length → (clkAt t i).getD (goN t i) 0 ≤ (clkAt t j).getD (goN t i) 0 → ∀ g, g < 6 → (clkAt t i).getD g 0 ≤ (clkAt t j).getD g 0 := fun j hij hj hle g hg => by
  induction j using Nat.strongRecOn with
  | _ j ih =>
    have hgi : goN t i < 6 := (h.go hi).2
    by_cases e : goN t i = goN t j
    · exact le_dep h hij hj (dep_same h hi hj e) hg
    · have h1 := clkAt_get h hj (goN t i)
      rw [if_neg (fun h => e h.symm)] at h1
      have hpos : 0 < (clkAt t i).getD (goN t i) 0 := by
        rw [clkAt_get h hi, if_pos rfl]
        have := base_nn t i hgi
        omega
      -- some event that it depends on has seen it
      obtain ⟨k, hk, hd, hge⟩ : ∃ k, k < j ∧ dep (t.getD k default) (t.getD j default) = true ∧ (clkAt t i).getD (goN t i) 0 ≤ (clkAt t k).getD (goN t i) 0 := by
        apply Classical.byContradiction
        intro hc
        have : (base t j).getD (goN t i) 0 ≤ (clkAt t i).getD (goN t i) 0 - 1 := (base_le t j hgi).2 ⟨by omega, fun k hk hd => by
          apply Classical.byContradiction
          intro h6
          exact hc ⟨k, hk, hd, by omega⟩⟩
        omega
      have hkj := le_dep h hk hj hd hg
      by_cases e1 : k = i
      · subst e1; exact hkj
      · by_cases e2 : k < i
        · have := own_lt h e2 hi
          omega
        · have := ih k hk (by omega) (by omega) hge
          omega
def befT (t : List Ev) (i j : Nat) : Bool := decide (i < j) && decide ((clkAt t i).getD (goN t i) 0 ≤ (clkAt t j).getD (goN t i) 0)
def badP (t : List Ev) (i : Int) : Bool := decide (i < 0) || decide ((t.length : Int) ≤ i)
def askT (t : List Ev) (l : List Int) : Int := if checkT t = 0 then (if l.any (badP t) then 1 else 0) else checkT t
def tabV (t : List Ev) : AV := .g [.sl 26 (t.map Ev.row), .sl 6 ((clk t t.length).map crow)]
def askV (t : List Ev) (l : List Int) : AV := if askT t l = 0 then tabV t else .g [.nil, .nil]
def anyTo {α : Type} (p : α → Bool) (l : List α) (k : Nat) : Bool := (l.take k).any p
@[simp] theorem anyTo_zero {α : Type} (p : α → Bool) (l : List α) : anyTo p l 0 = false := rfl
theorem anyTo_succ {α : Type} {p : α → Bool} {l : List α} {k : Nat} (h : k < l.length) : anyTo p l (k + 1) = (anyTo p l k || p l[k]) := by
  rw [anyTo, List.take_succ_eq_append_getElem h, List.any_append]; simp [anyTo]
theorem anyTo_len {α : Type} (p : α → Bool) (l : List α) : anyTo p l l.length = l.any p := by rw [anyTo, List.take_length]
theorem any_at {α : Type} {p : α → Bool} {l : List α} {k : Nat} (h : k < l.length) (hp : p l[k] = true) : l.any p = true := List.any_eq_true.2 ⟨_, List.getElem_mem h, hp⟩
def ixF {α : Type} (T : α → Bool) (l : List α) : Int := if l.any T then (l.findIdx T : Int) else -1
theorem ixF_found {α : Type} {T : α → Bool} {l : List α} {k : Nat} (hk : k < l.length) (h : ∀ j (hj : j < l.length), j < k → T l[j] = false) (ht : T l[k] = true) : ixF T l = (k : Int) := by
  rw [ixF, if_pos (List.any_eq_true.2 ⟨_, List.getElem_mem hk, ht⟩)]
  rw [(List.findIdx_eq hk).2 ⟨ht, fun j hj => h j (by omega) hj⟩]
theorem ixF_none {α : Type} {T : α → Bool} {l : List α} (h : ∀ j (hj : j < l.length), T l[j] = false) : ixF T l = -1 := by
  rw [ixF, if_neg]
  rw [List.any_eq_true]
  rintro ⟨x, hx, ht⟩
  obtain ⟨j, hj, rfl⟩ := List.getElem_of_mem hx
  rw [h j hj] at ht; cases ht
theorem ixF_any {α : Type} (T : α → Bool) (l : List α) : decide (0 ≤ ixF T l) = l.any T := by
  rw [ixF]
  split
  · rename_i h; rw [h]; simp
  · rename_i h; rw [Bool.not_eq_true] at h; rw [h]; simp
theorem ask_ok {t : List Ev} {l : List Int} (h : askT t l = 0) : Good t ∧ ∀ i ∈ l, 0 ≤ i ∧ i < (t.length : Int) := by
  unfold askT at h
  split at h
  · rename_i h0
    refine ⟨good_of h0, fun i hi => ?_⟩
    split at h
    · cases h
    · rename_i hb
      have : badP t i ≠ true := fun hc => hb (List.any_eq_true.2 ⟨i, hi, hc⟩)
      unfold badP at this
      simp at this
      omega
  · rename_i h0; exact absurd h h0
def pastD (p : Nat → Bool) : Nat → List Nat
  | 0 => []
  | m + 1 => if p m then m :: pastD p m else pastD p m
def pastR (t : List Ev) (i : Nat) : List Nat := pastD (fun j => befT t j i) i
theorem pastD_mem {p : Nat → Bool} {x : Nat} : ∀ {m : Nat}, x ∈ pastD p m ↔ x < m ∧ p x = true
  | 0 => by simp [pastD]
  | m + 1 => by
    rw [pastD]
    by_cases hp : p m = true
    · rw [if_pos hp, List.mem_cons, pastD_mem]
      constructor
      · rintro (rfl | ⟨h1, h2⟩)
        · exact ⟨by omega, hp⟩
        · exact ⟨by omega, h2⟩
      · rintro ⟨h1, h2⟩
        by_cases e : x = m
        · exact .inl e
        · exact .inr ⟨by omega, h2⟩
    · rw [if_neg hp, pastD_mem]
      constructor
      · rintro ⟨h1, h2⟩; exact ⟨by omega, h2⟩
      · rintro ⟨h1, h2⟩
        refine ⟨?_, h2⟩
        by_cases e : x = m
        · subst e; exact absurd h2 hp
        · omega
theorem pastD_len {p : Nat → Bool} : ∀ m : Nat, (pastD p m).length ≤ m
  | 0 => Nat.le_refl _
  | m + 1 => by
    have := pastD_len (p := p) m
    rw [pastD]; split <;> simp <;> omega
theorem mem_past {t : List Ev} {i j : Nat} : j ∈ pastR t i ↔ befT t j i = true := by
  rw [pastR, pastD_mem]
  refine ⟨fun h => h.2, fun h => ⟨?_, h⟩⟩
  unfold befT at h
  simp only [Bool.and_eq_true, decide_eq_true_eq] at h
  exact h.1
def nrow (n : Nat) : List AV := [.i .i64 (n : Int)]
@[simp] theorem nrow_irow (n : Nat) : irow (n : Int) = nrow n := rfl
def revN {α : Type} [Inhabited α] (l : List α) (k : Nat) : List α := (List.range l.length).map fun x => if x < k ∨ l.length - k ≤ x then l.getD (l.length - 1 - x) default else l.getD x default
@[simp] theorem revN_length {α : Type} [Inhabited α] (l : List α) (k : Nat) : (revN l k).length = l.length := by simp [revN]
theorem revN_get {α : Type} [Inhabited α] (l : List α) (k : Nat) {x : Nat} (hx : x < (revN l k).length) : (revN l k)[x] = if x < k ∨ l.length - k ≤ x then l.getD (l.length - 1 - x) default else l.getD x default := by simp [revN]
theorem revN_zero {α : Type} [Inhabited α] (l : List α) : revN l 0 = l := by
  apply List.ext_getElem (by simp)
  intro x h1 h2
  rw [revN_get, if_neg (by omega), List.getD_eq_getElem?_getD, List.getElem?_eq_getElem h2]; rfl
theorem revN_half {α : Type} [Inhabited α] (l : List α) {k : Nat} (hk : l.length ≤ 2 * k + 1) : revN l k = l.reverse := by
  apply List.ext_getElem (by simp)
  intro x h1 h2
  rw [revN_get, List.getElem_reverse]
  by_cases h : x < k ∨ l.length - k ≤ x
  · rw [if_pos h, List.getD_eq_getElem?_getD, List.getElem?_eq_getElem (by simp at h1; omega)]; rfl
  · rw [if_neg h, List.getD_eq_getElem?_getD, List.getElem?_eq_getElem (by simpa using h1)]
    simp at h1
    simp only [Option.getD_some]
    congr 1
    omega
theorem revN_step {α : Type} [Inhabited α] (l : List α) {k : Nat} (hk : 2 * k + 1 < l.length) : revN l (k + 1) = ((revN l k).set k (l.getD (l.length - 1 - k) default)).set (l.length - 1 - k) (l.getD k default) := by
  apply List.ext_getElem (by simp)
  intro x h1 h2
  simp at h1
  rw [revN_get, List.getElem_set, List.getElem_set, revN_get]
  by_cases e1 : l.length - 1 - k = x
  · rw [if_pos e1, if_pos (by omega)]; congr 1; omega
  · rw [if_neg e1]
    by_cases e2 : k = x
    · subst e2; rw [if_pos rfl, if_pos (by omega)]
    · rw [if_neg e2]
      by_cases h : x < k ∨ l.length - k ≤ x
      · rw [if_pos h, if_pos (by omega)]
      · rw [if_neg h, if_neg (by omega)]
end Go.Sc.Or
/- Chapter 12, in plain words: heights, what is last. No condition. -/
set_option linter.constructorNameAsVariable false
namespace Go.Sc.Or
open Go Go.Av Go.Sc
set_option linter.unusedSimpArgs false
set_option linter.unusedVariables false
def maxOver (h : List Int) (l : List Nat) : Int := l.foldl (fun m i => max m (h.getD i 0)) 0
def hvL (t : List Ev) : Nat → List Int
  | 0 => []
  | j + 1 => hvL t j ++ [maxOver (hvL t j) (pastR t j) + 1]
@[simp] theorem hvL_length (t : List Ev) : ∀ j, (hvL t j).length = j
  | 0 => rfl
  | j + 1 => by rw [hvL, List.length_append, hvL_length t j]; rfl
def hvAt (t : List Ev) (i : Nat) : Int := (hvL t (i + 1)).getD i 0
theorem hvL_get (t : List Ev) : ∀ {n i : Nat}, i < n → (hvL t n).getD i 0 = hvAt t i
  | n + 1, i, h => by
    by_cases e : i = n
    · subst e; rfl
    · have := hvL_get t (n := n) (i := i) (by omega)
      rw [hvL, List.getD_eq_getElem?_getD, List.getElem?_append_left (by simp; omega), ← List.getD_eq_getElem?_getD]
      exact this
theorem hvAt_eq (t : List Ev) (i : Nat) : hvAt t i = maxOver (hvL t i) (pastR t i) + 1 := by
  rw [hvAt, hvL, List.getD_eq_getElem?_getD, List.getElem?_append_right (by simp)]
  simp
theorem foldl_max_le (h : List Int) {z : Int} : ∀ (l : List Nat) (m : Int), (l.foldl (fun m i => max m (h.getD i 0)) m ≤ z ↔ m ≤ z ∧ ∀ i ∈ l, h.getD i 0 ≤ z)
  | [], m => by simp
  | i :: l, m => by
    rw [List.foldl_cons, foldl_max_le h l]
    simp only [List.mem_cons, forall_eq_or_imp]
    rw [Int.max_le, and_assoc]
theorem maxOver_le {h : List Int} {l : List Nat} {z : Int} : maxOver h l ≤ z ↔ 0 ≤ z ∧ ∀ i ∈ l, h.getD i 0 ≤ z := foldl_max_le h l 0
theorem maxOver_nn (h : List Int) (l : List Nat) : 0 ≤ maxOver h l := (maxOver_le.1 (Int.le_refl _)).1
theorem past_lt {t : List Ev} {i j : Nat} (h : j ∈ pastR t i) : j < i := by
  rw [pastR, pastD_mem] at h; exact h.1
theorem hvAt_le {t : List Ev} {i : Nat} {z : Int} : hvAt t i ≤ z ↔ 1 ≤ z ∧ ∀ j, befT t j i = true → hvAt t j + 1 ≤ z := by
  rw [hvAt_eq]
  have := maxOver_le (h := hvL t i) (l := pastR t i) (z := z - 1)
  constructor
  · intro h
    obtain ⟨h1, h2⟩ := this.1 (by omega)
    refine ⟨by omega, fun j hj => ?_⟩
    have hm := mem_past.2 hj
    have := h2 j hm
    rw [hvL_get t (past_lt hm)] at this
    omega
  · rintro ⟨h1, h2⟩
    have := this.2 ⟨by omega, fun j hm => by
      rw [hvL_get t (past_lt hm)]
      have := h2 j (mem_past.1 hm)
      omega⟩
    omega
theorem hvAt_pos (t : List Ev) (i : Nat) : 1 ≤ hvAt t i := (hvAt_le.1 (Int.le_refl _)).1
theorem hvAt_lt {t : List Ev} {i j : Nat} (h : befT t j i = true) : hvAt t j + 1 ≤ hvAt t i := (hvAt_le.1 (Int.le_refl _)).2 j h
theorem bef_lt {t : List Ev} {i j : Nat} (h : befT t i j = true) : i < j := by
  unfold befT at h
  simp only [Bool.and_eq_true, decide_eq_true_eq] at h
  exact h.1
theorem hvAt_small (t : List Ev) : ∀ i, hvAt t i ≤ (i : Int) + 1 := fun i => by
  induction i using Nat.strongRecOn with
  | _ i ih => exact hvAt_le.2 ⟨by omega, fun j hj => by have := ih j (bef_lt hj); have := bef_lt hj; omega⟩
def mostT (t : List Ev) : Nat → Int
  | 0 => 0
  | j + 1 => max (mostT t j) (hvAt t j)
theorem mostT_le {t : List Ev} {z : Int} : ∀ {n : Nat}, mostT t n ≤ z ↔ 0 ≤ z ∧ ∀ i, i < n → hvAt t i ≤ z
  | 0 => by simp [mostT]
  | n + 1 => by
    have ih := mostT_le (t := t) (z := z) (n := n)
    rw [mostT]
    constructor
    · intro h
      obtain ⟨h1, h2⟩ := ih.1 (by omega)
      refine ⟨h1, fun i hi => ?_⟩
      by_cases e : i = n
      · subst e; omega
      · exact h2 i (by omega)
    · rintro ⟨h1, h2⟩
      have := ih.2 ⟨h1, fun i hi => h2 i (by omega)⟩
      have := h2 n (by omega)
      omega
theorem mostT_nn (t : List Ev) (n : Nat) : 0 ≤ mostT t n := (mostT_le.1 (Int.le_refl _)).1
theorem mostT_small (t : List Ev) (n : Nat) : mostT t n ≤ (n : Int) := mostT_le.2 ⟨by omega, fun i hi => by have := hvAt_small t i; omega⟩
def hstC (t : List Ev) (j : Nat) : List Int := hvL t j ++ List.replicate (t.length - j) 0
def hstJ (t : List Ev) (j c : Nat) : List Int := (hstC t j).set j (maxOver (hvL t j) ((pastR t j).take c))
theorem hstC_length {t : List Ev} {j : Nat} (hj : j ≤ t.length) : (hstC t j).length = t.length := by simp [hstC]; omega
theorem hstJ_length {t : List Ev} {j c : Nat} (hj : j ≤ t.length) : (hstJ t j c).length = t.length := by rw [hstJ, List.length_set, hstC_length hj]
theorem hstJ_zero {t : List Ev} {j : Nat} (hj : j < t.length) : hstJ t j 0 = hstC t j := by
  have : (hstC t j)[j]? = some 0 := by
    rw [hstC, List.getElem?_append_right (by simp), hvL_length, Nat.sub_self, List.getElem?_replicate, if_pos (by omega)]
  rw [hstJ, List.take_zero]
  exact List.ext_getElem? fun k => by
    by_cases e : j = k
    · subst e
      rw [List.getElem?_set_self (by rw [hstC_length (by omega)]; exact hj), this]; rfl
    · rw [List.getElem?_set_ne e]
theorem hstJ_at {t : List Ev} {j c : Nat} (hj : j < t.length) : (hstJ t j c)[j]? = some (maxOver (hvL t j) ((pastR t j).take c)) := by
  rw [hstJ, List.getElem?_set_self (by rw [hstC_length (by omega)]; exact hj)]
theorem hstJ_low {t : List Ev} {j c i : Nat} (hi : i < j) (hj : j ≤ t.length) : (hstJ t j c)[i]? = some (hvAt t i) := by
  rw [hstJ, List.getElem?_set_ne (by omega), hstC, List.getElem?_append_left (by simpa using hi)]
  have := hvL_get t hi
  rw [List.getD_eq_getElem?_getD, List.getElem?_eq_getElem (by simpa using hi)] at this
  rw [List.getElem?_eq_getElem (by simpa using hi)]
  exact congrArg some this
theorem hstJ_step {t : List Ev} {j c i : Nat} (hj : j < t.length) (hc : (pastR t j)[c]? = some i) : hstJ t j (c + 1) = (hstJ t j c).set j (max (maxOver (hvL t j) ((pastR t j).take c)) (hvAt t i)) := by
  have hm : i ∈ pastR t j := List.mem_of_getElem? hc
  rw [hstJ, hstJ, List.set_set]
  congr 1
  obtain ⟨hlt, hci⟩ := List.getElem?_eq_some_iff.1 hc
  rw [List.take_succ_eq_append_getElem hlt, hci, maxOver, List.foldl_append]
  simp only [List.foldl_cons, List.foldl_nil]
  rw [hvL_get t (past_lt hm)]
  rfl
theorem hstC_succ {t : List Ev} {j : Nat} (hj : j < t.length) : hstC t (j + 1) = (hstC t j).set j (hvAt t j) := by
  rw [hstC, hvL, hstC, List.set_append_right _ _ (by simp), hvL_length, Nat.sub_self]
  obtain ⟨m, hm⟩ : ∃ m, t.length - j = m + 1 := ⟨t.length - j - 1, by omega⟩
  rw [hm, List.replicate_succ, List.set_cons_zero, show t.length - (j + 1) = m by omega, hvAt_eq]
  simp
def opL (t : List Ev) : Nat → List Int
  | 0 => List.replicate t.length 0
  | j + 1 => (pastR t j).foldl (fun o i => o.set i 1) (opL t j)
def opJ (t : List Ev) (j c : Nat) : List Int := ((pastR t j).take c).foldl (fun o i => o.set i 1) (opL t j)
theorem foldl_set_len : ∀ (l : List Nat) (o : List Int), (l.foldl (fun o i => o.set i 1) o).length = o.length
  | [], o => rfl
  | i :: l, o => by rw [List.foldl_cons, foldl_set_len l, List.length_set]
@[simp] theorem opL_length (t : List Ev) : ∀ j, (opL t j).length = t.length
  | 0 => by simp [opL]
  | j + 1 => by rw [opL, foldl_set_len, opL_length t j]
@[simp] theorem opJ_length (t : List Ev) (j c : Nat) : (opJ t j c).length = t.length := by rw [opJ, foldl_set_len, opL_length]
theorem opJ_step {t : List Ev} {j c i : Nat} (hc : (pastR t j)[c]? = some i) : opJ t j (c + 1) = (opJ t j c).set i 1 := by
  obtain ⟨hlt, hci⟩ := List.getElem?_eq_some_iff.1 hc
  rw [opJ, List.take_succ_eq_append_getElem hlt, hci, List.foldl_append]
  rfl
theorem opJ_all (t : List Ev) (j : Nat) : opJ t j (pastR t j).length = opL t (j + 1) := by rw [opJ, List.take_length, opL]
theorem foldl_set_get {x : Nat} : ∀ (l : List Nat) (o : List Int), x < o.length → (l.foldl (fun o i => o.set i 1) o).getD x 0 = if x ∈ l then 1 else o.getD x 0
  | [], o, _ => by simp
  | i :: l, o, h => by
    rw [List.foldl_cons, foldl_set_get l _ (by simpa using h)]
    by_cases hx : x ∈ l
    · rw [if_pos hx, if_pos (List.mem_cons_of_mem _ hx)]
    · rw [if_neg hx]
      by_cases e : i = x
      · subst e
        rw [if_pos (List.mem_cons_self ..), List.getD_eq_getElem?_getD, List.getElem?_set_self h]; rfl
      · rw [List.getD_eq_getElem?_getD, List.getElem?_set_ne e, if_neg (by simp [hx]; exact fun h => e h.symm), List.getD_eq_getElem?_getD]
theorem opL_get {t : List Ev} {x : Nat} (hx : x < t.length) : ∀ j, (opL t j).getD x 0 = if ∃ j', j' < j ∧ befT t x j' = true then 1 else 0
  | 0 => by
    rw [if_neg (by rintro ⟨j, h, _⟩; omega), opL, List.getD_eq_getElem?_getD, List.getElem?_replicate, if_pos hx]; rfl
  | j + 1 => by
    rw [opL, foldl_set_get _ _ (by simpa using hx), opL_get hx j]
    by_cases h : x ∈ pastR t j
    · rw [if_pos h, if_pos ⟨j, by omega, mem_past.1 h⟩]
    · rw [if_neg h]
      by_cases h2 : ∃ j', j' < j ∧ befT t x j' = true
      · obtain ⟨j', h3, h4⟩ := h2
        rw [if_pos ⟨j', h3, h4⟩, if_pos ⟨j', by omega, h4⟩]
      · rw [if_neg h2, if_neg]
        rintro ⟨j', h3, h4⟩
        by_cases e : j' = j
        · subst e; exact h (mem_past.2 h4)
        · exact h2 ⟨j', by omega, h4⟩
def lastsT (t : List Ev) : List Nat := (List.range t.length).filter fun i => decide ((opL t t.length).getD i 0 = 0)
def nearStep (t : List Ev) (near : List Nat) (i : Nat) : List Nat := if near.any (fun k => befT t i k) then near else near ++ [i]
def nearC (t : List Ev) (j c : Nat) : List Nat := ((pastR t j).take c).foldl (nearStep t) []
def nearT (t : List Ev) (j : Nat) : List Nat := (pastR t j).foldl (nearStep t) []
theorem nearC_all (t : List Ev) (j : Nat) : nearC t j (pastR t j).length = nearT t j := by rw [nearC, List.take_length, nearT]
theorem nearC_step {t : List Ev} {j c i : Nat} (hc : (pastR t j)[c]? = some i) : nearC t j (c + 1) = nearStep t (nearC t j c) i := by
  obtain ⟨hlt, hci⟩ := List.getElem?_eq_some_iff.1 hc
  rw [nearC, List.take_succ_eq_append_getElem hlt, hci, List.foldl_append]
  rfl
theorem near_sub (t : List Ev) : ∀ (l near : List Nat), (∀ x ∈ l.foldl (nearStep t) near, x ∈ near ∨ x ∈ l) ∧ (l.foldl (nearStep t) near).length ≤ near.length + l.length
  | [], near => ⟨fun x hx => .inl hx, by simp⟩
  | i :: l, near => by
    obtain ⟨h1, h2⟩ := near_sub t l (nearStep t near i)
    have hs : (∀ x ∈ nearStep t near i, x ∈ near ∨ x = i) ∧ (nearStep t near i).length ≤ near.length + 1 := by
      unfold nearStep
      split
      · exact ⟨fun x hx => .inl hx, by omega⟩
      · exact ⟨fun x hx => by simpa using hx, by simp⟩
    rw [List.foldl_cons]
    refine ⟨fun x hx => ?_, by rw [List.length_cons]; omega⟩
    rcases h1 x hx with h | h
    · rcases hs.1 x h with h | h
      · exact .inl h
      · exact .inr (h ▸ List.mem_cons_self ..)
    · exact .inr (List.mem_cons_of_mem _ h)
theorem nearC_mem {t : List Ev} {j c x : Nat} (h : x ∈ nearC t j c) : x ∈ pastR t j := by
  rcases (near_sub t ((pastR t j).take c) []).1 x h with h | h
  · cases h
  · exact List.mem_of_mem_take h
theorem nearC_len (t : List Ev) (j c : Nat) : (nearC t j c).length ≤ j := by
  have h1 := (near_sub t ((pastR t j).take c) []).2
  have h2 := pastD_len (p := fun i => befT t i j) j
  rw [List.length_take] at h1
  unfold nearC pastR at *
  simp at h1
  omega
def edgeTo (t : List Ev) : Nat → List (Nat × Nat)
  | 0 => []
  | j + 1 => edgeTo t j ++ (nearT t j).map fun i => (i, j)
def edgeC (t : List Ev) (j c : Nat) : List (Nat × Nat) := edgeTo t j ++ (nearC t j c).map fun i => (i, j)
theorem edgeTo_len (t : List Ev) : ∀ j, (edgeTo t j).length ≤ j * j
  | 0 => by simp [edgeTo]
  | j + 1 => by
    have h1 := edgeTo_len t j
    have h2 := nearC_len t j (pastR t j).length
    rw [nearC_all] at h2
    rw [edgeTo, List.length_append, List.length_map]
    have : (j + 1) * (j + 1) = j * j + j + j + 1 := by rw [Nat.add_mul, Nat.mul_add]; omega
    omega
theorem edgeC_len {t : List Ev} {j c : Nat} : (edgeC t j c).length ≤ j * j + j := by
  have h1 := edgeTo_len t j
  have h2 := nearC_len t j c
  rw [edgeC, List.length_append, List.length_map]
  omega
end Go.Sc.Or
/- Chapter 12, in plain words: to happen before is what follows of what depends on what. No condition. -/
set_option linter.constructorNameAsVariable false
namespace Go.Sc.Or
open Go Go.Av Go.Sc
set_option linter.unusedSimpArgs false
set_option linter.unusedVariables false
def depT (t : List Ev) (i j : Nat) : Bool := dep (t.getD i default) (t.getD j default)
theorem bef_iff {t : List Ev} {i j : Nat} : befT t i j = true ↔ i < j ∧ (clkAt t i).getD (goN t i) 0 ≤ (clkAt t j).getD (goN t i) 0 := by
  unfold befT; simp only [Bool.and_eq_true, decide_eq_true_eq]
theorem bef_dep {t : List Ev} (h : Good t) {i j : Nat} (hij : i < j) (hj : j < t.length) (hd : depT t i j = true) : befT t i j = true :=
  bef_iff.2 ⟨hij, le_dep h hij hj hd (h.go (by omega : i < t.length)).2⟩
theorem bef_clk {t : List Ev} (h : Good t) {i j : Nat} (hj : j < t.length) (hb : befT t i j = true) {g : Nat} (hg : g < 6) : (clkAt t i).getD g 0 ≤ (clkAt t j).getD g 0 := by
  obtain ⟨h1, h2⟩ := bef_iff.1 hb
  exact clk_tells h (by omega) j h1 hj h2 g hg
theorem bef_trans {t : List Ev} (h : Good t) {i j k : Nat} (hk : k < t.length) (h1 : befT t i j = true) (h2 : befT t j k = true) : befT t i k = true := by
  have h3 := bef_lt h1
  have h4 := bef_lt h2
  have hg := (h.go (by omega : i < t.length)).2
  exact bef_iff.2 ⟨by omega, Int.le_trans (bef_clk h (by omega) h1 hg) (bef_clk h hk h2 hg)⟩
theorem bef_by {t : List Ev} (h : Good t) {a j : Nat} (hj : j < t.length) (hb : befT t a j = true) : ∃ i, i < j ∧ depT t i j = true ∧ (a = i ∨ befT t a i = true) := by
  obtain ⟨haj, hle⟩ := bef_iff.1 hb
  have ha : a < t.length := by omega
  by_cases e : goN t a = goN t j
  · exact ⟨a, haj, dep_same h ha hj e, .inl rfl⟩
  · have hga : goN t a < 6 := (h.go ha).2
    have h1 := clkAt_get h hj (goN t a)
    rw [if_neg (fun h => e h.symm)] at h1
    have hpos : 0 < (clkAt t a).getD (goN t a) 0 := by
      rw [clkAt_get h ha, if_pos rfl]
      have := base_nn t a hga
      omega
    obtain ⟨k, hk, hd, hge⟩ : ∃ k, k < j ∧ dep (t.getD k default) (t.getD j default) = true ∧ (clkAt t a).getD (goN t a) 0 ≤ (clkAt t k).getD (goN t a) 0 := by
      apply Classical.byContradiction
      intro hc
      have : (base t j).getD (goN t a) 0 ≤ (clkAt t a).getD (goN t a) 0 - 1 := (base_le t j hga).2 ⟨by omega, fun k hk hd => by
        apply Classical.byContradiction
        intro h6
        exact hc ⟨k, hk, hd, by omega⟩⟩
      omega
    refine ⟨k, hk, hd, ?_⟩
    by_cases e1 : k = a
    · exact .inl e1.symm
    · by_cases e2 : k < a
      · have := own_lt h e2 ha
        omega
      · exact .inr (bef_iff.2 ⟨by omega, hge⟩)
theorem bef_iff_by {t : List Ev} (h : Good t) {a j : Nat} (hj : j < t.length) : befT t a j = true ↔ ∃ i, i < j ∧ depT t i j = true ∧ (a = i ∨ befT t a i = true) := by
  refine ⟨bef_by h hj, ?_⟩
  rintro ⟨i, h1, h2, rfl | h3⟩
  · exact bef_dep h h1 hj h2
  · exact bef_trans h hj h3 (bef_dep h h1 hj h2)
def mat (n : Nat) (f : Nat → Nat → Bool) : List (List Bool) := (List.range n).map fun a => (List.range n).map fun b => f a b
@[simp] theorem mat_length (n : Nat) (f : Nat → Nat → Bool) : (mat n f).length = n := by simp [mat]
theorem mat_get {n : Nat} {f : Nat → Nat → Bool} {a : Nat} (ha : a < n) : (mat n f)[a]? = some ((List.range n).map (f a)) := by simp [mat, ha]
def updM (f : Nat → Nat → Bool) (a b : Nat) (x : Bool) : Nat → Nat → Bool := fun a' b' => if a' = a ∧ b' = b then x else f a' b'
theorem mat_set {n : Nat} {f : Nat → Nat → Bool} {a b : Nat} {x : Bool} : (mat n f).set a (((List.range n).map (f a)).set b x) = mat n (updM f a b x) := by
  apply List.ext_getElem (by simp)
  intro i h1 h2
  rw [List.getElem_set]
  by_cases e : a = i
  · subst e
    rw [if_pos rfl]
    apply List.ext_getElem (by simp [mat])
    intro j h3 h4
    rw [List.getElem_set]
    by_cases e2 : b = j
    · subst e2; simp [mat, updM]
    · rw [if_neg e2]; simp [mat, updM]; intro h; exact absurd h.symm e2
  · rw [if_neg e]
    simp only [mat, List.getElem_map, List.getElem_range]
    apply List.map_congr_left
    intro j _
    simp [updM]; intro h; exact absurd h.symm e
theorem mat_congr {n : Nat} {f g : Nat → Nat → Bool} (h : ∀ a b, a < n → b < n → f a b = g a b) : mat n f = mat n g := by
  unfold mat
  apply List.map_congr_left
  intro a ha
  apply List.map_congr_left
  intro b hb
  exact h a b (by simpa using ha) (by simpa using hb)
def colT (t : List Ev) (j m a : Nat) : Bool := (List.range j).any fun i => decide (m ≤ i) && (depT t i j && (decide (a = i) || befT t a i))
theorem colT_iff {t : List Ev} {j m a : Nat} : colT t j m a = true ↔ ∃ i, m ≤ i ∧ i < j ∧ depT t i j = true ∧ (a = i ∨ befT t a i = true) := by
  unfold colT
  simp only [List.any_eq_true, List.mem_range, Bool.and_eq_true, Bool.or_eq_true, decide_eq_true_eq]
  constructor
  · rintro ⟨i, h1, h2, h3, h4⟩; exact ⟨i, h2, h1, h3, h4⟩
  · rintro ⟨i, h1, h2, h3, h4⟩; exact ⟨i, h2, h1, h3, h4⟩
theorem colT_zero {t : List Ev} (h : Good t) {j a : Nat} (hj : j < t.length) : colT t j 0 a = befT t a j := by
  rw [Bool.eq_iff_iff, colT_iff, bef_iff_by h hj]
  constructor
  · rintro ⟨i, _, h1, h2, h3⟩; exact ⟨i, h1, h2, h3⟩
  · rintro ⟨i, h1, h2, h3⟩; exact ⟨i, by omega, h1, h2, h3⟩
theorem colT_top {t : List Ev} {j a : Nat} : colT t j j a = false := by
  rw [Bool.eq_false_iff, Ne, colT_iff]
  rintro ⟨i, h1, h2, _⟩; omega
theorem colT_skip {t : List Ev} (h : Good t) {j m a : Nat} (hj : j < t.length) (hm : m < j) (hs : colT t j (m + 1) m = true ∨ depT t m j = false) : colT t j m a = colT t j (m + 1) a := by
  rw [Bool.eq_iff_iff, colT_iff, colT_iff]
  constructor
  · rintro ⟨i, h1, h2, h3, h4⟩
    by_cases e : i = m
    · subst e
      rcases hs with hs | hs
      · obtain ⟨i', h5, h6, h7, h8⟩ := colT_iff.1 hs
        refine ⟨i', h5, h6, h7, .inr ?_⟩
        rcases h8 with rfl | h8
        · omega
        · rcases h4 with rfl | h4
          · exact h8
          · exact bef_trans h (by omega) h4 h8
      · rw [h3] at hs; cases hs
    · exact ⟨i, by omega, h2, h3, h4⟩
  · rintro ⟨i, h1, h2, h3, h4⟩; exact ⟨i, by omega, h2, h3, h4⟩
theorem colT_more {t : List Ev} {j m a : Nat} (hm : m < j) (hd : depT t m j = true) : colT t j m a = (colT t j (m + 1) a || decide (a = m) || befT t a m) := by
  rw [Bool.eq_iff_iff]
  simp only [Bool.or_eq_true, decide_eq_true_eq, colT_iff]
  constructor
  · rintro ⟨i, h1, h2, h3, h4⟩
    by_cases e : i = m
    · subst e
      rcases h4 with h4 | h4
      · exact .inl (.inr h4)
      · exact .inr h4
    · exact .inl (.inl ⟨i, by omega, h2, h3, h4⟩)
  · rintro ((⟨i, h1, h2, h3, h4⟩ | h4) | h4)
    · exact ⟨i, by omega, h2, h3, h4⟩
    · exact ⟨m, by omega, hm, hd, .inl h4⟩
    · exact ⟨m, by omega, hm, hd, .inr h4⟩
def befC (t : List Ev) (j m : Nat) : Nat → Nat → Bool := fun a b => if b < j then befT t a b else if b = j then colT t j m a else false
def befK (t : List Ev) (j m k : Nat) : Nat → Nat → Bool := fun a b => if b < j then befT t a b else if b = j then (colT t j (m + 1) a || decide (a = m) || (decide (a < k) && befT t a m)) else false
theorem befC_start (t : List Ev) (n : Nat) : mat n (befC t 0 0) = mat n fun _ _ => false := mat_congr fun a b _ _ => by
  unfold befC
  rw [if_neg (by omega)]
  split
  · exact colT_top
  · rfl
theorem befC_next {t : List Ev} (h : Good t) {j : Nat} (hj : j < t.length) (n : Nat) : mat n (befC t j 0) = mat n (befC t (j + 1) (j + 1)) := mat_congr fun a b _ _ => by
  unfold befC
  by_cases h1 : b < j
  · rw [if_pos h1, if_pos (by omega)]
  · rw [if_neg h1]
    by_cases h2 : b = j
    · subst h2; rw [if_pos rfl, if_pos (by omega), colT_zero h hj]
    · rw [if_neg h2, if_neg (by omega)]
      split
      · rw [colT_top]
      · rfl
theorem befC_all {t : List Ev} (m : Nat) : mat t.length (befC t t.length m) = mat t.length (befT t) := mat_congr fun a b _ hb => by
  unfold befC; rw [if_pos hb]
theorem befC_skip {t : List Ev} (h : Good t) {j m : Nat} (hj : j < t.length) (hm : m < j) (hs : colT t j (m + 1) m = true ∨ depT t m j = false) (n : Nat) : mat n (befC t j (m + 1)) = mat n (befC t j m) := mat_congr fun a b _ _ => by
  unfold befC
  split
  · rfl
  · split
    · rw [colT_skip h hj hm hs]
    · rfl
theorem befK_start {t : List Ev} {j m : Nat} (n : Nat) : mat n (updM (befC t j (m + 1)) m j true) = mat n (befK t j m 0) := mat_congr fun a b _ _ => by
  unfold updM befC befK
  by_cases h1 : b < j
  · rw [if_neg (by omega), if_pos h1, if_pos h1]
  · by_cases h2 : b = j
    · subst h2
      by_cases h3 : a = m
      · simp [h3]
      · simp [h3]
    · rw [if_neg (by omega), if_neg h1, if_neg h2, if_neg h1, if_neg h2]
theorem befK_step {t : List Ev} {j m k : Nat} (hkm : k < m) (hmj : m < j) (n : Nat) : mat n (updM (befK t j m k) k j (befK t j m k k j || befK t j m k k m)) = mat n (befK t j m (k + 1)) := mat_congr fun a b _ _ => by
  unfold updM befK
  by_cases h1 : b < j
  · rw [if_neg (by omega), if_pos h1, if_pos h1]
  · by_cases h2 : b = j
    · subst h2
      simp only [Nat.lt_irrefl, if_false, if_true, hmj]
      by_cases h3 : a = k
      · subst h3
        simp
      · simp only [h3, false_and, if_false]
        congr 1
        congr 1
        rw [decide_eq_decide]
        omega
    · rw [if_neg (by omega), if_neg h1, if_neg h2, if_neg h1, if_neg h2]
theorem befK_all {t : List Ev} (h : Good t) {j m : Nat} (hm : m < j) (hd : depT t m j = true) (n : Nat) : mat n (befK t j m m) = mat n (befC t j m) := mat_congr fun a b _ _ => by
  unfold befK befC
  split
  · rfl
  · split
    · rw [colT_more hm hd]
      congr 1
      by_cases hb : befT t a m = true
      · have := bef_lt hb; simp [hb, this]
      · rw [Bool.not_eq_true] at hb; simp [hb]
    · rfl
end Go.Sc.Or
/- Chapter 12, in plain words: what the document counts. No condition. -/
set_option linter.constructorNameAsVariable false
namespace Go.Sc.Or
open Go Go.Av Go.Sc
set_option linter.unusedSimpArgs false
set_option linter.unusedVariables false
def selTo (p : Nat → Bool) (k : Nat) : List Nat := (List.range k).filter p
@[simp] theorem selTo_zero (p : Nat → Bool) : selTo p 0 = [] := rfl
theorem selTo_succ (p : Nat → Bool) (k : Nat) : selTo p (k + 1) = if p k then selTo p k ++ [k] else selTo p k := by
  rw [selTo, List.range_succ, List.filter_append, List.filter_cons]
  by_cases h : p k = true <;> simp [h, selTo]
theorem selTo_len (p : Nat → Bool) (k : Nat) : (selTo p k).length ≤ k := by
  have := List.length_filter_le p (List.range k)
  rw [List.length_range] at this
  exact this
theorem selTo_mem {p : Nat → Bool} {k i : Nat} : i ∈ selTo p k ↔ i < k ∧ p i = true := by simp [selTo]
theorem selTo_nodup (p : Nat → Bool) (k : Nat) : (selTo p k).Nodup := List.Pairwise.filter _ List.nodup_range
theorem selTo_sorted (p : Nat → Bool) (k : Nat) : (selTo p k).Pairwise (· < ·) := List.Pairwise.filter _ List.pairwise_lt_range
def betw (f : Nat → Nat → Bool) (i j k : Nat) : Bool := (List.range k).any fun m => decide (i < m) && (f i m && f m j)
@[simp] theorem betw_zero (f : Nat → Nat → Bool) (i j : Nat) : betw f i j 0 = false := rfl
theorem betw_succ (f : Nat → Nat → Bool) (i j k : Nat) : betw f i j (k + 1) = (betw f i j k || (decide (i < k) && (f i k && f k j))) := by
  rw [betw, List.range_succ, List.any_append]; simp [betw]
theorem betw_iff {f : Nat → Nat → Bool} {i j k : Nat} : betw f i j k = true ↔ ∃ m, m < k ∧ i < m ∧ f i m = true ∧ f m j = true := by
  simp only [betw, List.any_eq_true, List.mem_range, Bool.and_eq_true, decide_eq_true_eq]
theorem betw_start (f : Nat → Nat → Bool) (i j : Nat) : betw f i j (i + 1) = false := by
  rw [Bool.eq_false_iff, Ne, betw_iff]
  rintro ⟨m, h1, h2, _⟩; omega
def edgeF (f : Nat → Nat → Bool) (i j : Nat) : Bool := f i j && !betw f i j j
def rowE (f : Nat → Nat → Bool) (i j : Nat) : List (Nat × Nat) := (selTo (fun j => decide (i < j) && edgeF f i j) j).map fun j => (i, j)
theorem rowE_start (f : Nat → Nat → Bool) (i : Nat) : rowE f i (i + 1) = [] := by
  have : selTo (fun j => decide (i < j) && edgeF f i j) (i + 1) = [] := by
    rw [List.eq_nil_iff_forall_not_mem]
    intro x hx
    rw [selTo_mem] at hx
    simp at hx
    omega
  rw [rowE, this]; rfl
theorem rowE_succ (f : Nat → Nat → Bool) {i j : Nat} (h : i < j) : rowE f i (j + 1) = if edgeF f i j then rowE f i j ++ [(i, j)] else rowE f i j := by
  rw [rowE, selTo_succ]
  simp only [h, decide_true, Bool.true_and]
  split <;> simp [rowE]
theorem rowE_len (f : Nat → Nat → Bool) (i j : Nat) : (rowE f i j).length ≤ j := by rw [rowE, List.length_map]; exact selTo_len _ _
def edR (f : Nat → Nat → Bool) (n : Nat) : Nat → List (Nat × Nat)
  | 0 => []
  | i + 1 => edR f n i ++ rowE f i n
theorem edR_len (f : Nat → Nat → Bool) (n : Nat) : ∀ i, (edR f n i).length ≤ i * n
  | 0 => by simp [edR]
  | i + 1 => by
    have h1 := edR_len f n i
    have h2 := rowE_len f i n
    rw [edR, List.length_append, Nat.add_mul]; omega
def cntC (t : List Ev) (f : Nat → Nat → Bool) (j : Nat) : Nat → Clk
  | 0 => zeroC
  | k + 1 => if decide (k = j) || f k j then tickC (cntC t f j k) (goN t k) else cntC t f j k
@[simp] theorem cntC_length (t : List Ev) (f : Nat → Nat → Bool) (j : Nat) : ∀ k, (cntC t f j k).length = 6
  | 0 => by simp [cntC]
  | k + 1 => by rw [cntC]; split
                · simp [cntC_length t f j k]
                · exact cntC_length t f j k
theorem cntC_small (t : List Ev) (f : Nat → Nat → Bool) (j : Nat) {g : Nat} : ∀ k, 0 ≤ (cntC t f j k).getD g 0 ∧ (cntC t f j k).getD g 0 ≤ (k : Int)
  | 0 => by rw [cntC, zeroC_get]; omega
  | k + 1 => by
    have ih := cntC_small t f j (g := g) k
    rw [cntC]
    split
    · by_cases hg : goN t k < (cntC t f j k).length
      · rw [tickC_get _ hg]
        split
        · rename_i h; subst h; omega
        · omega
      · have : tickC (cntC t f j k) (goN t k) = cntC t f j k := by
          rw [tickC, List.set_eq_of_length_le (by omega)]
        rw [this]; omega
    · omega
def noneTo (f : Nat → Nat → Bool) (i k : Nat) : Bool := !(List.range k).any fun j => f i j
@[simp] theorem noneTo_zero (f : Nat → Nat → Bool) (i : Nat) : noneTo f i 0 = true := rfl
theorem noneTo_succ (f : Nat → Nat → Bool) (i k : Nat) : noneTo f i (k + 1) = (noneTo f i k && !f i k) := by
  rw [noneTo, List.range_succ, List.any_append]; simp [noneTo]
def hin (t : List Ev) (j : Nat) : Nat → Int
  | 0 => 1
  | i + 1 => if befT t i j then max (hin t j i) (hvAt t i + 1) else hin t j i
theorem hin_le {t : List Ev} {j : Nat} {z : Int} : ∀ {i : Nat}, hin t j i ≤ z ↔ 1 ≤ z ∧ ∀ k, k < i → befT t k j = true → hvAt t k + 1 ≤ z
  | 0 => by simp [hin]
  | i + 1 => by
    have ih := hin_le (t := t) (j := j) (z := z) (i := i)
    rw [hin]
    constructor
    · intro h
      have h0 : hin t j i ≤ z := by split at h <;> omega
      obtain ⟨h1, h2⟩ := ih.1 h0
      refine ⟨h1, fun k hk hb => ?_⟩
      by_cases e : k = i
      · subst e; rw [if_pos hb] at h; omega
      · exact h2 k (by omega) hb
    · rintro ⟨h1, h2⟩
      have h3 := ih.2 ⟨h1, fun k hk => h2 k (by omega)⟩
      split
      · rename_i hb; have := h2 i (by omega) hb; omega
      · exact h3
theorem hin_all (t : List Ev) (j : Nat) : hin t j j = hvAt t j := by
  have h1 := (hin_le (t := t) (j := j) (i := j) (z := hvAt t j)).2 ⟨hvAt_pos t j, fun k _ hb => hvAt_lt hb⟩
  have h2 := (hvAt_le (t := t) (i := j) (z := hin t j j)).2 ⟨(hin_le.1 (Int.le_refl _)).1, fun k hb => (hin_le.1 (Int.le_refl (hin t j j))).2 k (bef_lt hb) hb⟩
  omega
theorem hin_small {t : List Ev} {j i : Nat} (hi : i ≤ j) : hin t j i ≤ (j : Int) + 1 := hin_le.2 ⟨by omega, fun k hk hb => by have := hvAt_small t k; omega⟩
theorem hin_pos (t : List Ev) (j i : Nat) : 1 ≤ hin t j i := (hin_le.1 (Int.le_refl _)).1
/-! ### The counts are the clocks -/
def rk (t : List Ev) (g : Nat) : Nat → Int
  | 0 => 0
  | k + 1 => if goN t k = g then rk t g k + 1 else rk t g k
theorem rk_nn (t : List Ev) (g : Nat) : ∀ k, 0 ≤ rk t g k
  | 0 => Int.le_refl _
  | k + 1 => by have := rk_nn t g k; rw [rk]; split <;> omega
theorem rk_mono (t : List Ev) (g : Nat) {k m : Nat} (h : k ≤ m) : rk t g k ≤ rk t g m := by
  induction m with
  | zero => obtain rfl : k = 0 := by omega
            exact Int.le_refl _
  | succ m ih =>
    by_cases e : k = m + 1
    · subst e; exact Int.le_refl _
    · have := ih (by omega)
      rw [rk]; split <;> omega
theorem own_rk {t : List Ev} (h : Good t) : ∀ i, i < t.length → (clkAt t i).getD (goN t i) 0 = rk t (goN t i) (i + 1) := fun i hi => by
  induction i using Nat.strongRecOn with
  | _ i ih =>
    have hg : goN t i < 6 := (h.go hi).2
    rw [clkAt_get h hi, if_pos rfl, rk, if_pos rfl]
    congr 1
    -- the base is the last one's rank
    apply Int.le_antisymm
    · refine (base_le t i hg).2 ⟨rk_nn _ _ _, fun k hk _ => ?_⟩
      rcases clk_from h hg k (by omega) with h1 | ⟨m, h1, h2, h3⟩
      · have := rk_nn t (goN t i) i; omega
      · have := ih m (by omega) (by omega)
        rw [h2] at this
        have := rk_mono t (goN t i) (k := m + 1) (m := i) (by omega)
        omega
    · -- from below, by the first k
      have low : ∀ k, k ≤ i → rk t (goN t i) k ≤ (base t i).getD (goN t i) 0 := fun k => by
        induction k with
        | zero => intro _; exact base_nn t i hg
        | succ k ihk =>
          intro hk
          by_cases e : goN t k = goN t i
          · have h1 := ih k (by omega) (by omega)
            rw [e] at h1
            rw [← h1]
            exact base_ge hg (by omega) (dep_same h (by omega) hi e)
          · rw [rk, if_neg e]; exact ihk (by omega)
      exact low i (Nat.le_refl _)
theorem cnt_clk {t : List Ev} (h : Good t) {j : Nat} (hj : j < t.length) {g : Nat} (hg : g < 6) : ∀ k, k ≤ j + 1 → (cntC t (befT t) j k).getD g 0 = min ((clkAt t j).getD g 0) (rk t g k)
  | 0, _ => by
    rw [cntC, zeroC_get, rk]
    have := clkAt_nn h hj hg
    omega
  | k + 1, hk => by
    have ih := cnt_clk h hj hg k (by omega)
    have hkt : k < t.length := by omega
    have hgk : goN t k < 6 := (h.go hkt).2
    rw [cntC, rk]
    by_cases e : goN t k = g
    · have hown := own_rk h k hkt
      rw [e, rk, if_pos e] at hown
      rw [if_pos e]
      by_cases hc : (clkAt t k).getD g 0 ≤ (clkAt t j).getD g 0
      · rw [if_pos, tickC_get _ (by simpa using hgk), if_pos e, e, ih]
        · omega
        · by_cases ekj : k = j
          · simp [ekj]
          · have : befT t k j = true := bef_iff.2 ⟨by omega, by rw [e]; exact hc⟩
            simp [this]
      · rw [if_neg, ih]
        · omega
        · intro hb
          simp only [Bool.or_eq_true, decide_eq_true_eq] at hb
          rcases hb with rfl | hb
          · exact hc (Int.le_refl _)
          · have := (bef_iff.1 hb).2
            rw [e] at this
            exact hc this
    · rw [if_neg e]
      split
      · rw [tickC_get _ (by simpa using hgk), if_neg e, ih]
      · exact ih
theorem cnt_after (t : List Ev) {j : Nat} : ∀ k, j + 1 ≤ k → cntC t (befT t) j k = cntC t (befT t) j (j + 1)
  | 0, h => by omega
  | k + 1, h => by
    by_cases e : k = j
    · subst e; rfl
    · rw [cntC, if_neg, cnt_after t k (by omega)]
      intro hb
      simp only [Bool.or_eq_true, decide_eq_true_eq] at hb
      rcases hb with rfl | hb
      · exact e rfl
      · have := bef_lt hb; omega
theorem cnt_all {t : List Ev} (h : Good t) {j : Nat} (hj : j < t.length) : cntC t (befT t) j t.length = clkAt t j := by
  rw [cnt_after t t.length (by omega)]
  apply List.ext_getElem (by simp)
  intro g h1 h2
  have hg : g < 6 := by simpa using h1
  have e1 := cnt_clk h hj hg (j + 1) (Nat.le_refl _)
  have e2 : (clkAt t j).getD g 0 ≤ rk t g (j + 1) := by
    rcases clk_from h hg j hj with h1 | ⟨m, h1, h2, h3⟩
    · have := rk_nn t g (j + 1); omega
    · have := own_rk h m (by omega)
      rw [h2] at this
      have := rk_mono t g (k := m + 1) (m := j + 1) (by omega)
      omega
  rw [List.getD_eq_getElem?_getD, List.getElem?_eq_getElem h1] at e1
  rw [List.getD_eq_getElem?_getD, List.getElem?_eq_getElem h2] at e1 e2
  simp only [Option.getD_some] at e1 e2
  omega
end Go.Sc.Or
/- Chapter 12, in plain words: the edges. No condition. -/
set_option linter.constructorNameAsVariable false
namespace Go.Sc.Or
open Go Go.Av Go.Sc
set_option linter.unusedSimpArgs false
set_option linter.unusedVariables false
theorem near_has {t : List Ev} (h : Good t) : ∀ (l near : List Nat), (∀ x ∈ l, x < t.length) → (∀ x ∈ near, x < t.length) → ∀ k i, (k ∈ near ∨ k ∈ l) → (befT t i k = true ∨ i = k) → ∃ k' ∈ l.foldl (nearStep t) near, befT t i k' = true ∨ i = k'
  | [], near, _, _, k, i, hk, hb => by
    rcases hk with hk | hk
    · exact ⟨k, hk, hb⟩
    · cases hk
  | x :: l, near, hl, hn, k, i, hk, hb => by
    have hx := hl x (List.mem_cons_self ..)
    have hsub : ∀ y ∈ nearStep t near x, y < t.length := fun y hy => by
      unfold nearStep at hy
      split at hy
      · exact hn y hy
      · simp at hy
        rcases hy with hy | rfl
        · exact hn y hy
        · exact hx
    have hl' : ∀ y ∈ l, y < t.length := fun y hy => hl y (List.mem_cons_of_mem _ hy)
    rw [List.foldl_cons]
    -- near goes on
    have keep : ∀ y ∈ near, y ∈ nearStep t near x := fun y hy => by
      unfold nearStep; split
      · exact hy
      · exact List.mem_append_left _ hy
    have gets : ∀ i', (befT t i' x = true ∨ i' = x) → ∃ y ∈ nearStep t near x, befT t i' y = true ∨ i' = y := fun i' hi' => by
      unfold nearStep
      split
      · rename_i ha
        obtain ⟨y, hy, hxy⟩ := List.any_eq_true.1 ha
        refine ⟨y, hy, .inl ?_⟩
        rcases hi' with hi' | rfl
        · exact bef_trans h (hn y hy) hi' hxy
        · exact hxy
      · exact ⟨x, by simp, hi'⟩
    rcases hk with hk | hk
    · exact near_has h l _ hl' hsub k i (.inl (keep k hk)) hb
    · rcases List.mem_cons.1 hk with rfl | hk
      · obtain ⟨y, hy, hiy⟩ := gets i hb
        exact near_has h l _ hl' hsub y i (.inl hy) hiy
      · exact near_has h l _ hl' hsub k i (.inr hk) hb
theorem near_top {t : List Ev} : ∀ (l near : List Nat), l.Pairwise (· > ·) → (∀ y ∈ near, ∀ x ∈ l, x < y) → (∀ a ∈ near, ∀ b ∈ near, befT t a b = false) → ∀ a ∈ l.foldl (nearStep t) near, ∀ b ∈ l.foldl (nearStep t) near, befT t a b = false
  | [], near, _, _, hn, a, ha, b, hb => hn a ha b hb
  | x :: l, near, hp, hlt, hn, a, ha, b, hb => by
    rw [List.foldl_cons] at ha hb
    rw [List.pairwise_cons] at hp
    refine near_top l (nearStep t near x) hp.2 (fun y hy z hz => ?_) (fun c hc d hd => ?_) a ha b hb
    · unfold nearStep at hy
      split at hy
      · exact hlt y hy z (List.mem_cons_of_mem _ hz)
      · simp at hy
        rcases hy with hy | rfl
        · exact hlt y hy z (List.mem_cons_of_mem _ hz)
        · exact hp.1 z hz
    · unfold nearStep at hc hd
      split at hc
      · rename_i hx
        rw [if_pos hx] at hd
        exact hn c hc d hd
      · rename_i hx
        rw [if_neg hx] at hd
        simp at hc hd
        rcases hc with hc | rfl <;> rcases hd with hd | rfl
        · exact hn c hc d hd
        · rw [Bool.eq_false_iff]
          intro hb
          have := bef_lt hb
          have := hlt c hc d (List.mem_cons_self ..)
          omega
        · rw [Bool.eq_false_iff]
          intro hb
          exact hx (List.any_eq_true.2 ⟨d, hd, hb⟩)
        · rw [Bool.eq_false_iff]
          intro hb
          have := bef_lt hb
          omega
theorem pastD_sorted (p : Nat → Bool) : ∀ m, (pastD p m).Pairwise (· > ·)
  | 0 => by simp [pastD]
  | m + 1 => by
    rw [pastD]
    split
    · rw [List.pairwise_cons]
      exact ⟨fun y hy => (pastD_mem.1 hy).1, pastD_sorted p m⟩
    · exact pastD_sorted p m
theorem near_nodup (t : List Ev) : ∀ (l near : List Nat), l.Pairwise (· > ·) → (∀ y ∈ near, ∀ x ∈ l, x < y) → near.Nodup → (l.foldl (nearStep t) near).Nodup
  | [], near, _, _, h => h
  | x :: l, near, hp, hlt, h => by
    rw [List.foldl_cons]
    rw [List.pairwise_cons] at hp
    refine near_nodup t l _ hp.2 (fun y hy z hz => ?_) ?_
    · unfold nearStep at hy
      split at hy
      · exact hlt y hy z (List.mem_cons_of_mem _ hz)
      · simp at hy
        rcases hy with hy | rfl
        · exact hlt y hy z (List.mem_cons_of_mem _ hz)
        · exact hp.1 z hz
    · unfold nearStep
      split
      · exact h
      · rw [List.nodup_append]
        refine ⟨h, by simp, fun a ha b hb => ?_⟩
        simp at hb; subst hb
        have := hlt a ha b (List.mem_cons_self ..)
        omega
theorem nearT_nodup (t : List Ev) (j : Nat) : (nearT t j).Nodup := near_nodup t _ [] (pastD_sorted _ _) (fun y hy => by cases hy) List.nodup_nil
theorem nearT_iff {t : List Ev} (h : Good t) {i j : Nat} (hj : j < t.length) : i ∈ nearT t j ↔ edgeF (befT t) i j = true := by
  have hlt : ∀ x ∈ pastR t j, x < t.length := fun x hx => by have := past_lt hx; omega
  unfold edgeF
  rw [Bool.and_eq_true, Bool.not_eq_true', Bool.eq_false_iff, Ne, betw_iff]
  constructor
  · intro hi
    have hip : i ∈ pastR t j := by
      rcases (near_sub t (pastR t j) []).1 i hi with h | h
      · cases h
      · exact h
    refine ⟨mem_past.1 hip, ?_⟩
    rintro ⟨k, _, _, h1, h2⟩
    obtain ⟨k', hk', hb⟩ := near_has h (pastR t j) [] hlt (fun x hx => by cases hx) k i (.inr (mem_past.2 h2)) (.inl h1)
    obtain ⟨k'', hk'', hb''⟩ := near_has h (pastR t j) [] hlt (fun x hx => by cases hx) k k (.inr (mem_past.2 h2)) (.inr rfl)
    have hkt : k'' < t.length := by
      rcases (near_sub t (pastR t j) []).1 k'' hk'' with h | h
      · cases h
      · exact hlt _ h
    have : befT t i k'' = true := by
      rcases hb'' with hb'' | rfl
      · exact bef_trans h hkt h1 hb''
      · exact h1
    have hno := near_top (t := t) (pastR t j) [] (pastD_sorted _ _) (fun y hy => by cases hy) (fun a ha => by cases ha) i hi k'' hk''
    rw [hno] at this; cases this
  · rintro ⟨h1, h2⟩
    obtain ⟨k, hk, hb⟩ := near_has h (pastR t j) [] hlt (fun x hx => by cases hx) i i (.inr (mem_past.2 h1)) (.inr rfl)
    rcases hb with hb | rfl
    · have hkp : k ∈ pastR t j := by
        rcases (near_sub t (pastR t j) []).1 k hk with h | h
        · cases h
        · exact h
      exact absurd ⟨k, past_lt hkp, bef_lt hb, hb, mem_past.1 hkp⟩ h2
    · exact hk
theorem edgeTo_mem {t : List Ev} (h : Good t) {i j : Nat} : ∀ {n : Nat}, n ≤ t.length → ((i, j) ∈ edgeTo t n ↔ j < n ∧ edgeF (befT t) i j = true)
  | 0, _ => by simp [edgeTo]
  | n + 1, hn => by
    rw [edgeTo, List.mem_append, edgeTo_mem h (by omega)]
    simp only [List.mem_map, Prod.mk.injEq]
    constructor
    · rintro (⟨h1, h2⟩ | ⟨x, hx, rfl, rfl⟩)
      · exact ⟨by omega, h2⟩
      · exact ⟨by omega, (nearT_iff h (by omega)).1 hx⟩
    · rintro ⟨h1, h2⟩
      by_cases e : j = n
      · subst e; exact .inr ⟨i, (nearT_iff h (by omega)).2 h2, rfl, rfl⟩
      · exact .inl ⟨by omega, h2⟩
theorem edgeTo_nodup {t : List Ev} (h : Good t) : ∀ {n : Nat}, n ≤ t.length → (edgeTo t n).Nodup
  | 0, _ => List.nodup_nil
  | n + 1, hn => by
    rw [edgeTo, List.nodup_append]
    refine ⟨edgeTo_nodup h (by omega), ?_, fun a ha b hb => ?_⟩
    · exact List.Pairwise.map _ (fun a b hne hc => hne (Prod.mk.injEq .. ▸ hc).1) (nearT_nodup t n)
    · obtain ⟨i, j⟩ := a
      have := ((edgeTo_mem h (by omega : n ≤ t.length)).1 ha).1
      simp only [List.mem_map] at hb
      obtain ⟨x, _, rfl⟩ := hb
      intro hc
      have := (Prod.mk.injEq .. ▸ hc).2
      omega
theorem edR_mem {f : Nat → Nat → Bool} {n i j : Nat} : ∀ {m : Nat}, (i, j) ∈ edR f n m ↔ i < m ∧ i < j ∧ j < n ∧ edgeF f i j = true
  | 0 => by simp [edR]
  | m + 1 => by
    rw [edR, List.mem_append, edR_mem, rowE]
    simp only [List.mem_map, selTo_mem, Bool.and_eq_true, decide_eq_true_eq, Prod.mk.injEq]
    constructor
    · rintro (⟨h1, h2⟩ | ⟨x, ⟨h1, h2, h3⟩, rfl, rfl⟩)
      · exact ⟨by omega, h2⟩
      · exact ⟨by omega, h2, h1, h3⟩
    · rintro ⟨h1, h2, h3, h4⟩
      by_cases e : i = m
      · subst e; exact .inr ⟨j, ⟨h3, h2, h4⟩, rfl, rfl⟩
      · exact .inl ⟨by omega, h2, h3, h4⟩
def ltP (p q : Nat × Nat) : Prop := p.1 < q.1 ∨ p.1 = q.1 ∧ p.2 < q.2
theorem edR_sorted (f : Nat → Nat → Bool) (n : Nat) : ∀ m, (edR f n m).Pairwise ltP
  | 0 => List.Pairwise.nil
  | m + 1 => by
    rw [edR, List.pairwise_append]
    refine ⟨edR_sorted f n m, ?_, fun a ha b hb => ?_⟩
    · rw [rowE]
      exact List.Pairwise.map _ (fun a b hab => .inr ⟨rfl, hab⟩) (selTo_sorted _ _)
    · obtain ⟨i, j⟩ := a
      have := (edR_mem.1 ha).1
      rw [rowE] at hb
      simp only [List.mem_map] at hb
      obtain ⟨x, _, rfl⟩ := hb
      exact .inl this
theorem edR_nodup (f : Nat → Nat → Bool) (n m : Nat) : (edR f n m).Nodup := (edR_sorted f n m).imp fun {a b} h hc => by
  subst hc
  rcases h with h | h <;> omega
theorem edges_perm {t : List Ev} (h : Good t) : (edgeTo t t.length).Perm (edR (befT t) t.length t.length) := by
  refine (List.perm_ext_iff_of_nodup (edgeTo_nodup h (Nat.le_refl _)) (edR_nodup _ _ _)).2 ?_
  rintro ⟨i, j⟩
  rw [edgeTo_mem h (Nat.le_refl _), edR_mem]
  constructor
  · rintro ⟨h1, h2⟩
    have : befT t i j = true := by
      unfold edgeF at h2
      rw [Bool.and_eq_true] at h2
      exact h2.1
    have := bef_lt this
    exact ⟨by omega, this, h1, h2⟩
  · rintro ⟨_, _, h3, h4⟩; exact ⟨h3, h4⟩
theorem lasts_eq (t : List Ev) : lastsT t = selTo (fun i => noneTo (befT t) i t.length) t.length := by
  unfold lastsT selTo
  apply List.filter_congr
  intro i hi
  have hil : i < t.length := by simpa using hi
  rw [opL_get hil, Bool.eq_iff_iff, decide_eq_true_eq, noneTo, Bool.not_eq_true', Bool.eq_false_iff, Ne, List.any_eq_true]
  constructor
  · intro h
    split at h
    · cases h
    · rename_i hc
      rintro ⟨j, hj, hb⟩
      exact hc ⟨j, by simpa using hj, hb⟩
  · intro h
    rw [if_neg]
    rintro ⟨j, hj, hb⟩
    exact h ⟨j, by simpa using hj, hb⟩
theorem past_sel {t : List Ev} {i : Nat} (hi : i < t.length) : (pastR t i).reverse = selTo (fun j => befT t j i) t.length := by
  have key : ∀ m, (pastD (fun j => befT t j i) m).reverse = selTo (fun j => befT t j i) m := fun m => by
    induction m with
    | zero => rfl
    | succ m ih =>
      rw [pastD, selTo_succ]
      split
      · rw [List.reverse_cons, ih]
      · exact ih
  have more : ∀ m, i ≤ m → selTo (fun j => befT t j i) m = selTo (fun j => befT t j i) i := fun m => by
    induction m with
    | zero => intro h; obtain rfl : i = 0 := by omega
              rfl
    | succ m ih =>
      intro h
      by_cases e : i = m + 1
      · rw [e]
      · rw [selTo_succ, if_neg, ih (by omega)]
        intro hb
        have := bef_lt hb; omega
  rw [pastR, key, more t.length (by omega)]
end Go.Sc.Or
