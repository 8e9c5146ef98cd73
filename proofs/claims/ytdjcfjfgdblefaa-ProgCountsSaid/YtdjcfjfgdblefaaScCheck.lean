/- Chapter 03's law of programs, in plain Lean: what is wrong with a program, and where. No condition. -/
import Derived.Test.YtdjcfjfgdblefaaSc
set_option linter.constructorNameAsVariable false
namespace Go.Sc
open Go Go.Av

def within (n m : Int) : Bool := decide (0 ≤ n) && decide (n < m)
def objE (n m : Int) : Int := if within n m then 0 else 36
def regE (f : Func) (n : Int) : Int := if within n f.regs then 0 else 35
def tgtE (f : Func) (n : Int) : Int := if within n f.code.length then 0 else 38

/-- What is wrong with an operand n of letter l, in an instruction whose B is b. -/
def opE (p : Prog) (f : Func) (l n b : Int) : Int :=
  if l = 111 then (if n = -1 then 0 else regE f n)
  else if l = 114 ∨ l = 119 then regE f n
  else if l = 118 then objE n p.vars.length
  else if l = 97 then (if within n p.vars.length then (if (p.vars.getD n.toNat default).atomic then 0 else 37) else 36)
  else if l = 108 then objE n p.locks
  else if l = 99 then objE n p.chans.length
  else if l = 115 then objE n f.selects.length
  else if l = 102 then objE n p.funcs.length
  else if l = 116 then tgtE f n
  else if l = 112 then
    let k := (p.funcs.getD b.toNat default).params
    if (k = 0 ∧ n ≠ 0) ∨ (0 < k ∧ (n < 0 ∨ IntKind.i64.wrap (f.regs - k) < n)) then 35 else 0
  else 0

theorem within_iff {n m : Int} : within n m = true ↔ 0 ≤ n ∧ n < m := by simp [within]
theorem objE_zero {n m : Int} : objE n m = 0 ↔ 0 ≤ n ∧ n < m := by
  unfold objE
  split <;> rename_i h
  · simp [within_iff.1 h]
  · simp [within_iff] at h; simp; omega
theorem objE_not {n m : Int} (h : ¬ objE n m = 0) : objE n m = 36 ∧ within n m = false := by
  unfold objE at h ⊢
  split <;> rename_i h' <;> simp_all

/-- What an operation's operands are, letter by letter. -/
def form (op : Int) : List UInt8 :=
  if 1 ≤ op ∧ op ≤ 15 then [114, 114, 45, 45]
  else if 16 ≤ op ∧ op ≤ 36 then [114, 114, 114, 45]
  else if op = 40 ∨ op = 44 ∨ op = 65 then [114, 45, 45, 110]
  else if op = 41 then [114, 114, 45, 45]
  else if op = 42 then [116, 45, 45, 45]
  else if op = 43 then [114, 116, 45, 45]
  else if op = 45 ∨ op = 64 then [45, 45, 45, 45]
  else if op = 50 then [114, 118, 45, 45]
  else if op = 51 then [118, 114, 45, 45]
  else if op = 52 then [111, 97, 114, 45]
  else if op = 53 then [114, 97, 114, 119]
  else if op = 54 then [97, 114, 45, 45]
  else if op = 55 ∨ op = 56 then [108, 45, 45, 45]
  else if op = 57 then [114, 108, 45, 45]
  else if op = 58 then [99, 114, 45, 45]
  else if op = 59 then [111, 99, 111, 45]
  else if op = 60 then [99, 45, 45, 45]
  else if op = 61 then [115, 45, 45, 45]
  else if op = 62 then [111, 102, 112, 45]
  else if op = 63 then [114, 45, 45, 45]
  else []
def isLocal (op : Int) : Bool := decide ((1 ≤ op ∧ op ≤ 36) ∨ (40 ≤ op ∧ op ≤ 45))
def isVisible (op : Int) : Bool := decide (50 ≤ op ∧ op ≤ 65)

def formsL : List (List UInt8) := [[114, 114, 45, 45], [114, 114, 114, 45], [114, 45, 45, 110], [116, 45, 45, 45], [114, 116, 45, 45], [45, 45, 45, 45], [114, 118, 45, 45], [118, 114, 45, 45], [111, 97, 114, 45], [114, 97, 114, 119], [97, 114, 45, 45], [108, 45, 45, 45], [114, 108, 45, 45], [99, 114, 45, 45], [111, 99, 111, 45], [99, 45, 45, 45], [115, 45, 45, 45], [111, 102, 112, 45], [114, 45, 45, 45], []]
theorem ite_mem {α : Type} {c : Prop} [Decidable c] {a b : α} {l : List α} (h1 : a ∈ l) (h2 : b ∈ l) : (if c then a else b) ∈ l := by
  split
  · exact h1
  · exact h2
theorem form_mem (op : Int) : form op ∈ formsL := by
  unfold form
  repeat' (refine ite_mem ?_ ?_)
  all_goals decide
theorem form_four (op : Int) : form op = [] ∨ ∃ l0 l1 l2 l3, form op = [l0, l1, l2, l3] := by
  have h := form_mem op
  simp only [formsL, List.mem_cons, List.not_mem_nil, or_false] at h
  rcases h with h | h | h | h | h | h | h | h | h | h | h | h | h | h | h | h | h | h | h | h
  all_goals first | exact .inl h | exact .inr ⟨_, _, _, _, h⟩
theorem form_p {op : Int} {l0 l1 l2 l3 : UInt8} (h : form op = [l0, l1, l2, l3]) : l0 ≠ 112 ∧ l1 ≠ 112 ∧ l3 ≠ 112 ∧ (l2 = 112 → l1 = 102) := by
  have h' := form_mem op
  rw [h] at h'
  simp only [formsL, List.mem_cons, List.not_mem_nil, or_false, List.cons.injEq, and_true] at h'
  rcases h' with ⟨rfl, rfl, rfl, rfl⟩ | ⟨rfl, rfl, rfl, rfl⟩ | ⟨rfl, rfl, rfl, rfl⟩ | ⟨rfl, rfl, rfl, rfl⟩ | ⟨rfl, rfl, rfl, rfl⟩ | ⟨rfl, rfl, rfl, rfl⟩ | ⟨rfl, rfl, rfl, rfl⟩ | ⟨rfl, rfl, rfl, rfl⟩ | ⟨rfl, rfl, rfl, rfl⟩ | ⟨rfl, rfl, rfl, rfl⟩ | ⟨rfl, rfl, rfl, rfl⟩ | ⟨rfl, rfl, rfl, rfl⟩ | ⟨rfl, rfl, rfl, rfl⟩ | ⟨rfl, rfl, rfl, rfl⟩ | ⟨rfl, rfl, rfl, rfl⟩ | ⟨rfl, rfl, rfl, rfl⟩ | ⟨rfl, rfl, rfl, rfl⟩ | ⟨rfl, rfl, rfl, rfl⟩ | ⟨rfl, rfl, rfl, rfl⟩ | h'
  all_goals first | decide | (cases h')
theorem form_none (op : Int) : form op = [] ↔ isLocal op = false ∧ isVisible op = false := by
  constructor
  · intro h
    simp only [isLocal, isVisible, decide_eq_false_iff_not]
    unfold form at h
    by_cases c1 : 1 ≤ op ∧ op ≤ 15
    · rw [if_pos c1] at h; cases h
    rw [if_neg c1] at h
    by_cases c2 : 16 ≤ op ∧ op ≤ 36
    · rw [if_pos c2] at h; cases h
    rw [if_neg c2] at h
    by_cases d0 : op = 40 ∨ op = 44 ∨ op = 65
    · rw [if_pos d0] at h; cases h
    rw [if_neg d0] at h
    by_cases d1 : op = 41
    · rw [if_pos d1] at h; cases h
    rw [if_neg d1] at h
    by_cases d2 : op = 42
    · rw [if_pos d2] at h; cases h
    rw [if_neg d2] at h
    by_cases d3 : op = 43
    · rw [if_pos d3] at h; cases h
    rw [if_neg d3] at h
    by_cases d4 : op = 45 ∨ op = 64
    · rw [if_pos d4] at h; cases h
    rw [if_neg d4] at h
    by_cases d5 : op = 50
    · rw [if_pos d5] at h; cases h
    rw [if_neg d5] at h
    by_cases d6 : op = 51
    · rw [if_pos d6] at h; cases h
    rw [if_neg d6] at h
    by_cases d7 : op = 52
    · rw [if_pos d7] at h; cases h
    rw [if_neg d7] at h
    by_cases d8 : op = 53
    · rw [if_pos d8] at h; cases h
    rw [if_neg d8] at h
    by_cases d9 : op = 54
    · rw [if_pos d9] at h; cases h
    rw [if_neg d9] at h
    by_cases d10 : op = 55 ∨ op = 56
    · rw [if_pos d10] at h; cases h
    rw [if_neg d10] at h
    by_cases d11 : op = 57
    · rw [if_pos d11] at h; cases h
    rw [if_neg d11] at h
    by_cases d12 : op = 58
    · rw [if_pos d12] at h; cases h
    rw [if_neg d12] at h
    by_cases d13 : op = 59
    · rw [if_pos d13] at h; cases h
    rw [if_neg d13] at h
    by_cases d14 : op = 60
    · rw [if_pos d14] at h; cases h
    rw [if_neg d14] at h
    by_cases d15 : op = 61
    · rw [if_pos d15] at h; cases h
    rw [if_neg d15] at h
    by_cases d16 : op = 62
    · rw [if_pos d16] at h; cases h
    rw [if_neg d16] at h
    by_cases d17 : op = 63
    · rw [if_pos d17] at h; cases h
    rw [if_neg d17] at h
    omega
  · intro h
    simp only [isLocal, isVisible, decide_eq_false_iff_not] at h
    unfold form
    rw [if_neg (by omega), if_neg (by omega), if_neg (by omega), if_neg (by omega), if_neg (by omega), if_neg (by omega), if_neg (by omega), if_neg (by omega), if_neg (by omega), if_neg (by omega), if_neg (by omega), if_neg (by omega), if_neg (by omega), if_neg (by omega), if_neg (by omega), if_neg (by omega), if_neg (by omega), if_neg (by omega), if_neg (by omega), if_neg (by omega)]

/-- What is wrong with an instruction. -/
def insE (p : Prog) (f : Func) (i : Instr) : Int :=
  match form i.op with
  | [l0, l1, l2, l3] =>
    if (l0 = 45 ∧ i.a ≠ 0) ∨ (l1 = 45 ∧ i.b ≠ 0) ∨ (l2 = 45 ∧ i.c ≠ 0) ∨ (l3 = 45 ∧ i.n ≠ 0) then 34
    else if opE p f l0.toNat i.a i.b ≠ 0 then opE p f l0.toNat i.a i.b
    else if opE p f l1.toNat i.b i.b ≠ 0 then opE p f l1.toNat i.b i.b
    else if opE p f l2.toNat i.c i.b ≠ 0 then opE p f l2.toNat i.c i.b
    else opE p f l3.toNat i.n i.b
  | _ => 33
end Go.Sc
