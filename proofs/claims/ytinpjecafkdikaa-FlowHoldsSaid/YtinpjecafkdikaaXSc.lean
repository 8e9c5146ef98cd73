/- Scarab's data: how programs and their parts lie in memory, cell by cell. No condition. -/
import Derived.Test.YtinpjecafkdikaaXAv12
set_option linter.constructorNameAsVariable false
namespace Go.Sc
open Go Go.Av
set_option linter.unusedSimpArgs false
set_option linter.unusedVariables false
structure Var where
  atomic : Bool
  init : Int
  deriving DecidableEq, Inhabited
def Var.row (v : Var) : List AV := [.b v.atomic, .i .i64 v.init]
@[simp] theorem Var.row_length (v : Var) : v.row.length = 2 := rfl
@[simp] theorem Var.row_take (v : Var) : v.row.take 2 = v.row := rfl
@[simp] theorem Var.row_fit (v w : Var) : fitA [.b, .i] v.row w.row := by simp [row]
@[simp] theorem Var.row_eq (v w : Var) : eqA [.b, .i] v.row w.row = decide (v = w) := by
  cases v; cases w; rw [Bool.eq_iff_iff]; simp [row]
structure Instr where
  op : Int
  a : Int
  b : Int
  c : Int
  n : Int
  deriving DecidableEq, Inhabited
def Instr.row (v : Instr) : List AV := [.i .i64 v.op, .i .i64 v.a, .i .i64 v.b, .i .i64 v.c, .i .i64 v.n]
@[simp] theorem Instr.row_length (v : Instr) : v.row.length = 5 := rfl
@[simp] theorem Instr.row_take (v : Instr) : v.row.take 5 = v.row := rfl
@[simp] theorem Instr.row_fit (v w : Instr) : fitA [.i, .i, .i, .i, .i] v.row w.row := by simp [row]
@[simp] theorem Instr.row_eq (v w : Instr) : eqA [.i, .i, .i, .i, .i] v.row w.row = decide (v = w) := by
  cases v; cases w; rw [Bool.eq_iff_iff]; simp [row]
structure Case where
  send : Bool
  chan : Int
  reg : Int
  to : Int
  deriving DecidableEq, Inhabited
def Case.row (v : Case) : List AV := [.b v.send, .i .i64 v.chan, .i .i64 v.reg, .i .i64 v.to]
@[simp] theorem Case.row_length (v : Case) : v.row.length = 4 := rfl
@[simp] theorem Case.row_take (v : Case) : v.row.take 4 = v.row := rfl
@[simp] theorem Case.row_fit (v w : Case) : fitA [.b, .i, .i, .i] v.row w.row := by simp [row]
@[simp] theorem Case.row_eq (v w : Case) : eqA [.b, .i, .i, .i] v.row w.row = decide (v = w) := by
  cases v; cases w; rw [Bool.eq_iff_iff]; simp [row]

structure Select where
  cases : List Case
  els : Int
  deriving DecidableEq, Inhabited
def Select.row (s : Select) : List AV := [.sl 4 (s.cases.map Case.row), .i .i64 s.els]
@[simp] theorem Select.row_length (s : Select) : s.row.length = 2 := rfl
@[simp] theorem Select.row_take (s : Select) : s.row.take 2 = s.row := rfl
structure Func where
  params : Int
  regs : Int
  code : List Instr
  selects : List Select
  deriving DecidableEq, Inhabited
def Func.row (f : Func) : List AV := [.i .i64 f.params, .i .i64 f.regs, .sl 5 (f.code.map Instr.row), .sl 2 (f.selects.map Select.row)]
@[simp] theorem Func.row_length (s : Func) : s.row.length = 4 := rfl
@[simp] theorem Func.row_take (s : Func) : s.row.take 4 = s.row := rfl
def irow (n : Int) : List AV := [.i .i64 n]
@[simp] theorem irow_length (n : Int) : (irow n).length = 1 := rfl
structure Prog where
  vars : List Var
  locks : Int
  chans : List Int
  funcs : List Func
  deriving DecidableEq, Inhabited
def Prog.row (p : Prog) : List AV := [.sl 2 (p.vars.map Var.row), .i .i64 p.locks, .sl 1 (p.chans.map irow), .sl 4 (p.funcs.map Func.row)]
@[simp] theorem Prog.row_length (s : Prog) : s.row.length = 4 := rfl
@[simp] theorem Prog.row_take (s : Prog) : s.row.take 4 = s.row := rfl

/-- A list that fits into memory, by its rows' bytes. -/
abbrev Few {α : Type} (bytes : Nat) (l : List α) : Prop := l.length * bytes ≤ 140737488351232
def I64 (n : Int) : Prop := -9223372036854775808 ≤ n ∧ n ≤ 9223372036854775807
structure Select.Ok (s : Select) : Prop where
  few : Few 32 s.cases
  els : I64 s.els
  cs : ∀ c ∈ s.cases, I64 c.chan ∧ I64 c.reg ∧ I64 c.to
structure Func.Ok (f : Func) : Prop where
  params : I64 f.params
  regs : I64 f.regs
  few : Few 40 f.code
  fews : Few 32 f.selects
  code : ∀ i ∈ f.code, I64 i.op ∧ I64 i.a ∧ I64 i.b ∧ I64 i.c ∧ I64 i.n
  sel : ∀ s ∈ f.selects, s.Ok
structure Prog.Ok (p : Prog) : Prop where
  fewv : Few 16 p.vars
  vars : ∀ v ∈ p.vars, I64 v.init
  locks : I64 p.locks
  fewc : Few 8 p.chans
  chans : ∀ n ∈ p.chans, I64 n
  fewf : Few 64 p.funcs
  funcs : ∀ f ∈ p.funcs, f.Ok

theorem Few.lt {α : Type} {b : Nat} {l : List α} (h : Few b l) (hb : 0 < b) : l.length < 9223372036854775807 := by
  have : l.length * 1 ≤ l.length * b := Nat.mul_le_mul_left _ hb
  unfold Few at h; omega

theorem take_eq {α : Type} {xs ys : List α} {i : Nat} (h : xs.take i = ys.take i) (hx : i < xs.length) (hy : i < ys.length) : xs.take (i + 1) = ys.take (i + 1) ↔ xs[i] = ys[i] := by
  rw [List.take_add_one, List.take_add_one, List.getElem?_eq_getElem hx, List.getElem?_eq_getElem hy, h, Option.toList_some, Option.toList_some, List.append_cancel_left_eq]
  simp
theorem eq_of_take {α : Type} {xs ys : List α} {i : Nat} (ht : xs.take i = ys.take i) (hi : i ≤ xs.length) (hn : ¬ i < xs.length) (hl : xs.length = ys.length) : xs = ys := by
  have : i = xs.length := by omega
  rw [this, List.take_length, hl, List.take_length] at ht
  exact ht
end Go.Sc
/- Chapter 03's law of programs, in plain Lean: what is wrong with a program, and where. No condition. -/
set_option linter.constructorNameAsVariable false
namespace Go.Sc
open Go Go.Av

def within (n m : Int) : Bool := decide (0 ≤ n) && decide (n < m)
def objE (n m : Int) : Int := if within n m then 0 else 36
def regE (f : Func) (n : Int) : Int := if within n f.regs then 0 else 35
def tgtE (f : Func) (n : Int) : Int := if within n f.code.length then 0 else 38

/-- What is wrong with an operand n of letter l, in an instruction whose B is b. -/
def opE (p : Prog) (f : Func) (l n b : Int) : Int :=
  if l = 111 then (if n = -1 then 0 else regE f n)
  else if l = 114 ∨ l = 119 then regE f n
  else if l = 118 then objE n p.vars.length
  else if l = 97 then (if within n p.vars.length then (if (p.vars.getD n.toNat default).atomic then 0 else 37) else 36)
  else if l = 108 then objE n p.locks
  else if l = 99 then objE n p.chans.length
  else if l = 115 then objE n f.selects.length
  else if l = 102 then objE n p.funcs.length
  else if l = 116 then tgtE f n
  else if l = 112 then
    let k := (p.funcs.getD b.toNat default).params
    if (k = 0 ∧ n ≠ 0) ∨ (0 < k ∧ (n < 0 ∨ IntKind.i64.wrap (f.regs - k) < n)) then 35 else 0
  else 0

theorem within_iff {n m : Int} : within n m = true ↔ 0 ≤ n ∧ n < m := by simp [within]
theorem objE_zero {n m : Int} : objE n m = 0 ↔ 0 ≤ n ∧ n < m := by
  unfold objE
  split <;> rename_i h
  · simp [within_iff.1 h]
  · simp [within_iff] at h; simp; omega
theorem objE_not {n m : Int} (h : ¬ objE n m = 0) : objE n m = 36 ∧ within n m = false := by
  unfold objE at h ⊢
  split <;> rename_i h' <;> simp_all

/-- What an operation's operands are, letter by letter. -/
def form (op : Int) : List UInt8 :=
  if 1 ≤ op ∧ op ≤ 15 then [114, 114, 45, 45]
  else if 16 ≤ op ∧ op ≤ 36 then [114, 114, 114, 45]
  else if op = 40 ∨ op = 44 ∨ op = 65 then [114, 45, 45, 110]
  else if op = 41 then [114, 114, 45, 45]
  else if op = 42 then [116, 45, 45, 45]
  else if op = 43 then [114, 116, 45, 45]
  else if op = 45 ∨ op = 64 then [45, 45, 45, 45]
  else if op = 50 then [114, 118, 45, 45]
  else if op = 51 then [118, 114, 45, 45]
  else if op = 52 then [111, 97, 114, 45]
  else if op = 53 then [114, 97, 114, 119]
  else if op = 54 then [97, 114, 45, 45]
  else if op = 55 ∨ op = 56 then [108, 45, 45, 45]
  else if op = 57 then [114, 108, 45, 45]
  else if op = 58 then [99, 114, 45, 45]
  else if op = 59 then [111, 99, 111, 45]
  else if op = 60 then [99, 45, 45, 45]
  else if op = 61 then [115, 45, 45, 45]
  else if op = 62 then [111, 102, 112, 45]
  else if op = 63 then [114, 45, 45, 45]
  else []
def isLocal (op : Int) : Bool := decide ((1 ≤ op ∧ op ≤ 36) ∨ (40 ≤ op ∧ op ≤ 45))
def isVisible (op : Int) : Bool := decide (50 ≤ op ∧ op ≤ 65)

def formsL : List (List UInt8) := [[114, 114, 45, 45], [114, 114, 114, 45], [114, 45, 45, 110], [116, 45, 45, 45], [114, 116, 45, 45], [45, 45, 45, 45], [114, 118, 45, 45], [118, 114, 45, 45], [111, 97, 114, 45], [114, 97, 114, 119], [97, 114, 45, 45], [108, 45, 45, 45], [114, 108, 45, 45], [99, 114, 45, 45], [111, 99, 111, 45], [99, 45, 45, 45], [115, 45, 45, 45], [111, 102, 112, 45], [114, 45, 45, 45], []]
theorem ite_mem {α : Type} {c : Prop} [Decidable c] {a b : α} {l : List α} (h1 : a ∈ l) (h2 : b ∈ l) : (if c then a else b) ∈ l := by
  split
  · exact h1
  · exact h2
theorem form_mem (op : Int) : form op ∈ formsL := by
  unfold form
  repeat' (refine ite_mem ?_ ?_)
  all_goals decide
theorem form_four (op : Int) : form op = [] ∨ ∃ l0 l1 l2 l3, form op = [l0, l1, l2, l3] := by
  have h := form_mem op
  simp only [formsL, List.mem_cons, List.not_mem_nil, or_false] at h
  rcases h with h | h | h | h | h | h | h | h | h | h | h | h | h | h | h | h | h | h | h | h
  all_goals first | exact .inl h | exact .inr ⟨_, _, _, _, h⟩
theorem form_p {op : Int} {l0 l1 l2 l3 : UInt8} (h : form op = [l0, l1, l2, l3]) : l0 ≠ 112 ∧ l1 ≠ 112 ∧ l3 ≠ 112 ∧ (l2 = 112 → l1 = 102) := by
  have h' := form_mem op
  rw [h] at h'
  simp only [formsL, List.mem_cons, List.not_mem_nil, or_false, List.cons.injEq, and_true] at h'
  rcases h' with ⟨rfl, rfl, rfl, rfl⟩ | ⟨rfl, rfl, rfl, rfl⟩ | ⟨rfl, rfl, rfl, rfl⟩ | ⟨rfl, rfl, rfl, rfl⟩ | ⟨rfl, rfl, rfl, rfl⟩ | ⟨rfl, rfl, rfl, rfl⟩ | ⟨rfl, rfl, rfl, rfl⟩ | ⟨rfl, rfl, rfl, rfl⟩ | ⟨rfl, rfl, rfl, rfl⟩ | ⟨rfl, rfl, rfl, rfl⟩ | ⟨rfl, rfl, rfl, rfl⟩ | ⟨rfl, rfl, rfl, rfl⟩ | ⟨rfl, rfl, rfl, rfl⟩ | ⟨rfl, rfl, rfl, rfl⟩ | ⟨rfl, rfl, rfl, rfl⟩ | ⟨rfl, rfl, rfl, rfl⟩ | ⟨rfl, rfl, rfl, rfl⟩ | ⟨rfl, rfl, rfl, rfl⟩ | ⟨rfl, rfl, rfl, rfl⟩ | h'
  all_goals first | decide | (cases h')
theorem form_none (op : Int) : form op = [] ↔ isLocal op = false ∧ isVisible op = false := by
  constructor
  · intro h
    simp only [isLocal, isVisible, decide_eq_false_iff_not]
    unfold form at h
    by_cases c1 : 1 ≤ op ∧ op ≤ 15
    · rw [if_pos c1] at h; cases h
    rw [if_neg c1] at h
    by_cases c2 : 16 ≤ op ∧ op ≤ 36
    · rw [if_pos c2] at h; cases h
    rw [if_neg c2] at h
    by_cases d0 : op = 40 ∨ op = 44 ∨ op = 65
    · rw [if_pos d0] at h; cases h
    rw [if_neg d0] at h
    by_cases d1 : op = 41
    · rw [if_pos d1] at h; cases h
    rw [if_neg d1] at h
    by_cases d2 : op = 42
    · rw [if_pos d2] at h; cases h
    rw [if_neg d2] at h
    by_cases d3 : op = 43
    · rw [if_pos d3] at h; cases h
    rw [if_neg d3] at h
    by_cases d4 : op = 45 ∨ op = 64
    · rw [if_pos d4] at h; cases h
    rw [if_neg d4] at h
    by_cases d5 : op = 50
    · rw [if_pos d5] at h; cases h
    rw [if_neg d5] at h
    by_cases d6 : op = 51
    · rw [if_pos d6] at h; cases h
    rw [if_neg d6] at h
    by_cases d7 : op = 52
    · rw [if_pos d7] at h; cases h
    rw [if_neg d7] at h
    by_cases d8 : op = 53
    · rw [if_pos d8] at h; cases h
    rw [if_neg d8] at h
    by_cases d9 : op = 54
    · rw [if_pos d9] at h; cases h
    rw [if_neg d9] at h
    by_cases d10 : op = 55 ∨ op = 56
    · rw [if_pos d10] at h; cases h
    rw [if_neg d10] at h
    by_cases d11 : op = 57
    · rw [if_pos d11] at h; cases h
    rw [if_neg d11] at h
    by_cases d12 : op = 58
    · rw [if_pos d12] at h; cases h
    rw [if_neg d12] at h
    by_cases d13 : op = 59
    · rw [if_pos d13] at h; cases h
    rw [if_neg d13] at h
    by_cases d14 : op = 60
    · rw [if_pos d14] at h; cases h
    rw [if_neg d14] at h
    by_cases d15 : op = 61
    · rw [if_pos d15] at h; cases h
    rw [if_neg d15] at h
    by_cases d16 : op = 62
    · rw [if_pos d16] at h; cases h
    rw [if_neg d16] at h
    by_cases d17 : op = 63
    · rw [if_pos d17] at h; cases h
    rw [if_neg d17] at h
    omega
  · intro h
    simp only [isLocal, isVisible, decide_eq_false_iff_not] at h
    unfold form
    rw [if_neg (by omega), if_neg (by omega), if_neg (by omega), if_neg (by omega), if_neg (by omega), if_neg (by omega), if_neg (by omega), if_neg (by omega), if_neg (by omega), if_neg (by omega), if_neg (by omega), if_neg (by omega), if_neg (by omega), if_neg (by omega), if_neg (by omega), if_neg (by omega), if_neg (by omega), if_neg (by omega), if_neg (by omega), if_neg (by omega)]

/-- What is wrong with an instruction. -/
def insE (p : Prog) (f : Func) (i : Instr) : Int :=
  match form i.op with
  | [l0, l1, l2, l3] =>
    if (l0 = 45 ∧ i.a ≠ 0) ∨ (l1 = 45 ∧ i.b ≠ 0) ∨ (l2 = 45 ∧ i.c ≠ 0) ∨ (l3 = 45 ∧ i.n ≠ 0) then 34
    else if opE p f l0.toNat i.a i.b ≠ 0 then opE p f l0.toNat i.a i.b
    else if opE p f l1.toNat i.b i.b ≠ 0 then opE p f l1.toNat i.b i.b
    else if opE p f l2.toNat i.c i.b ≠ 0 then opE p f l2.toNat i.c i.b
    else opE p f l3.toNat i.n i.b
  | _ => 33
end Go.Sc
/- Chapter 03's law of programs, in plain Lean: selects, sizes, the whole. No condition. -/
set_option linter.constructorNameAsVariable false
namespace Go.Sc
open Go Go.Av

/-- The first fault of a list. -/
def firstE {α : Type} (g : α → Int) : List α → Int
  | [] => 0
  | x :: xs => if g x ≠ 0 then g x else firstE g xs

theorem firstE_at {α : Type} {g : α → Int} {xs : List α} {i : Nat} (h : firstE g xs = firstE g (xs.drop i)) (hlt : i < xs.length) : (g xs[i] ≠ 0 → firstE g xs = g xs[i]) ∧ (g xs[i] = 0 → firstE g xs = firstE g (xs.drop (i + 1))) := by
  rw [List.drop_eq_getElem_cons hlt, firstE] at h
  exact ⟨fun h1 => by rw [h, if_pos h1], fun h1 => by rw [h, if_neg (by simpa using h1)]⟩
theorem firstE_end {α : Type} {g : α → Int} {xs : List α} (h : firstE g xs = firstE g (xs.drop xs.length)) : firstE g xs = 0 := by
  rw [h, List.drop_length]; rfl

def caseE (p : Prog) (f : Func) (c : Case) : Int :=
  if objE c.chan p.chans.length ≠ 0 then 36
  else if (c.send = true ∨ c.reg ≠ -1) ∧ regE f c.reg ≠ 0 then 35
  else if c.send = true ∧ p.chans.getD c.chan.toNat 0 = 0 then 37
  else tgtE f c.to
def selE (p : Prog) (f : Func) (s : Select) : Int :=
  if firstE (caseE p f) s.cases ≠ 0 then firstE (caseE p f) s.cases else if s.els ≠ -1 then tgtE f s.els else 0
def selsE (p : Prog) (f : Func) : Int := firstE (selE p f) f.selects

def formed (main : Bool) (f : Func) : Bool :=
  decide (0 ≤ f.regs ∧ f.regs ≤ 8 ∧ 0 ≤ f.params ∧ f.params ≤ f.regs ∧ ¬ (main = true ∧ 0 < f.params) ∧ 1 ≤ f.code.length ∧ f.code.length ≤ 64 ∧ f.selects.length ≤ 4) && f.selects.all fun s => decide (1 ≤ s.cases.length ∧ s.cases.length ≤ 4)

def wholeE (p : Prog) : Int :=
  if 8 < p.vars.length ∨ p.locks < 0 ∨ 4 < p.locks ∨ 4 < p.chans.length ∨ p.funcs.length < 1 ∨ 8 < p.funcs.length then 30
  else firstE (fun n : Int => if n < 0 ∨ 4 < n then 31 else 0) p.chans

abbrev Told := Int × Int × Int
def firstT {α : Type} (g : Nat → α → Told) : Nat → List α → Told
  | _, [] => (0, 0, 0)
  | k, x :: xs => if (g k x).1 ≠ 0 then g k x else firstT g (k + 1) xs

theorem firstT_at {α : Type} {g : Nat → α → Told} {xs : List α} {i : Nat} (h : firstT g 0 xs = firstT g i (xs.drop i)) (hlt : i < xs.length) : ((g i xs[i]).1 ≠ 0 → firstT g 0 xs = g i xs[i]) ∧ ((g i xs[i]).1 = 0 → firstT g 0 xs = firstT g (i + 1) (xs.drop (i + 1))) := by
  rw [List.drop_eq_getElem_cons hlt, firstT] at h
  exact ⟨fun h1 => by rw [h, if_pos h1], fun h1 => by rw [h, if_neg (by simpa using h1)]⟩
theorem firstT_end {α : Type} {g : Nat → α → Told} {xs : List α} (h : firstT g 0 xs = firstT g xs.length (xs.drop xs.length)) : firstT g 0 xs = (0, 0, 0) := by
  rw [h, List.drop_length]; rfl

def codeT (p : Prog) (f : Func) (k : Nat) : Told := firstT (fun pc i => (insE p f i, (k : Int), (pc : Int))) 0 f.code
def lastOp (f : Func) : Int := (f.code.getD (f.code.length - 1) default).op
def funcT (p : Prog) (k : Nat) (f : Func) : Told :=
  if formed (k == 0) f = false then (32, k, 0)
  else if selsE p f ≠ 0 then (selsE p f, k, 0)
  else if (codeT p f k).1 ≠ 0 then codeT p f k
  else if lastOp f = 42 ∨ lastOp f = 45 ∨ lastOp f = 61 then (0, 0, 0)
  else (39, k, ((f.code.length - 1 : Nat) : Int))
/-- **WHAT IS WRONG WITH A PROGRAM, AND WHERE.** -/
def check (p : Prog) : Told := if wholeE p ≠ 0 then (wholeE p, 0, 0) else firstT (funcT p) 0 p.funcs
def told (t : Told) : AV := .tup [.i .i64 t.1, .g [.i .i64 t.2.1, .i .i64 t.2.2]]
end Go.Sc
/- What a right program has, in plain Lean. No condition. -/
set_option linter.constructorNameAsVariable false
namespace Go.Sc
open Go Go.Av
set_option linter.unusedSimpArgs false
set_option linter.unusedVariables false

structure RightF (p : Prog) (f : Func) : Prop where
  regs : 0 ≤ f.regs ∧ f.regs ≤ 8
  params : 0 ≤ f.params ∧ f.params ≤ f.regs
  code : 1 ≤ f.code.length ∧ f.code.length ≤ 64
  sels : f.selects.length ≤ 4
  sel : ∀ s ∈ f.selects, (1 ≤ s.cases.length ∧ s.cases.length ≤ 4) ∧ selE p f s = 0
  ins : ∀ i ∈ f.code, insE p f i = 0
  last : lastOp f = 42 ∨ lastOp f = 45 ∨ lastOp f = 61
structure RightP (p : Prog) : Prop where
  vars : p.vars.length ≤ 8
  locks : 0 ≤ p.locks ∧ p.locks ≤ 4
  chans : p.chans.length ≤ 4
  chan : ∀ c ∈ p.chans, 0 ≤ c ∧ c ≤ 4
  funcs : 1 ≤ p.funcs.length ∧ p.funcs.length ≤ 8
  func : ∀ f ∈ p.funcs, RightF p f
  main : ∀ f, p.funcs[0]? = some f → f.params = 0

theorem firstE_zero {α : Type} {g : α → Int} : ∀ {xs : List α}, firstE g xs = 0 → ∀ x ∈ xs, g x = 0
  | [], _, x, h => by simp at h
  | y :: ys, h, x, hx => by
    unfold firstE at h
    split at h
    · rename_i h1; exact absurd h h1
    · rename_i h1
      rcases List.mem_cons.1 hx with rfl | hx
      · simpa using h1
      · exact firstE_zero h x hx
theorem firstE_of {α : Type} {g : α → Int} : ∀ {xs : List α}, (∀ x ∈ xs, g x = 0) → firstE g xs = 0
  | [], _ => rfl
  | y :: ys, h => by
    unfold firstE
    rw [if_neg (by simp [h y (by simp)])]
    exact firstE_of fun x hx => h x (by simp [hx])
theorem firstT_zero {α : Type} {g : Nat → α → Told} : ∀ {xs : List α} {k : Nat}, (firstT g k xs).1 = 0 → ∀ (i : Nat) x, xs[i]? = some x → (g (k + i) x).1 = 0
  | [], k, _, i, x, h => by simp at h
  | y :: ys, k, h, i, x, hx => by
    unfold firstT at h
    split at h
    · rename_i h1; exact absurd h h1
    · rename_i h1
      cases i with
      | zero => simp at hx; subst hx; simpa using h1
      | succ i =>
        have := firstT_zero h i x (by simpa using hx)
        rw [show k + (i + 1) = k + 1 + i by omega]; exact this
theorem firstT_ok {α : Type} {g : Nat → α → Told} : ∀ {xs : List α} {k : Nat}, (firstT g k xs).1 = 0 → firstT g k xs = (0, 0, 0)
  | [], k, _ => rfl
  | y :: ys, k, h => by
    unfold firstT at h ⊢
    split at h
    · rename_i h1; exact absurd h h1
    · rename_i h1; rw [if_neg h1]; exact firstT_ok h
theorem check_ok {p : Prog} (h : (check p).1 = 0) : check p = (0, 0, 0) := by
  unfold check at h ⊢
  split at h
  · rename_i h1; exact absurd h h1
  · rename_i h1; rw [if_neg h1]; exact firstT_ok h

theorem right_of {p : Prog} (h : (check p).1 = 0) : RightP p := by
  unfold check at h
  split at h
  · rename_i h1; exact absurd h h1
  rename_i h1
  have hw : wholeE p = 0 := by simpa using h1
  unfold wholeE at hw
  split at hw
  · cases hw
  rename_i h2
  have hall := firstT_zero h
  have hch := firstE_zero hw
  have hf : ∀ (k : Nat) f, p.funcs[k]? = some f → formed (k == 0) f = true ∧ RightF p f := fun k f hk => by
    have := hall k f hk
    rw [Nat.zero_add] at this
    unfold funcT at this
    split at this
    · cases this
    rename_i a1
    split at this
    · rename_i a2; exact absurd this a2
    rename_i a2
    split at this
    · rename_i a3; exact absurd this a3
    rename_i a3
    split at this
    · rename_i a4
      have hfm : formed (k == 0) f = true := by simpa using a1
      refine ⟨hfm, ?_⟩
      simp only [formed, Bool.and_eq_true, decide_eq_true_eq, List.all_eq_true] at hfm
      obtain ⟨⟨b1, b2, b3, b4, b5, b6, b7, b8⟩, b9⟩ := hfm
      have hs : selsE p f = 0 := by simpa using a2
      refine ⟨⟨b1, b2⟩, ⟨b3, b4⟩, ⟨b6, b7⟩, b8, fun s hs' => ⟨b9 s hs', firstE_zero hs s hs'⟩, fun i hi => ?_, a4⟩
      have hc : (codeT p f k).1 = 0 := by simpa using a3
      obtain ⟨j, hj⟩ := List.getElem?_of_mem hi
      have := firstT_zero hc j i hj
      simpa using this
    · cases this
  refine ⟨by omega, by omega, by omega, fun c hc => ?_, by omega, fun f hm => ?_, fun f h0 => ?_⟩
  · have := hch c hc
    split at this
    · cases this
    · omega
  · obtain ⟨k, hk⟩ := List.getElem?_of_mem hm
    exact (hf k f hk).2
  · obtain ⟨c1, c2⟩ := hf 0 f h0
    simp only [formed, Bool.and_eq_true, decide_eq_true_eq] at c1
    have h5 := c1.1.2.2.2.2.1
    have h6 := c2.params
    have h7 : ¬ 0 < f.params := fun h => h5 ⟨rfl, h⟩
    omega

/-- What an operand may be, by its letter. -/
def opR (l : UInt8) (n : Int) : Prop := (l = 45 → n = 0) ∧ (l = 111 → -1 ≤ n ∧ n < 64) ∧ (l ≠ 45 → l ≠ 110 → l ≠ 111 → 0 ≤ n ∧ n < 64)

theorem form_range {op : Int} (h : form op ≠ []) : 1 ≤ op ∧ op ≤ 65 := by
  have hn : ¬ (isLocal op = false ∧ isVisible op = false) := fun hc => h ((form_none op).2 hc)
  simp only [isLocal, isVisible, decide_eq_false_iff_not] at hn
  by_cases h1 : (1 ≤ op ∧ op ≤ 36) ∨ (40 ≤ op ∧ op ≤ 45)
  · omega
  · by_cases h2 : 50 ≤ op ∧ op ≤ 65
    · omega
    · exact absurd ⟨h1, h2⟩ hn

theorem ins_form {p : Prog} {f : Func} {i : Instr} (h : insE p f i = 0) : form i.op ≠ [] := by
  intro hc
  rw [insE, hc] at h
  cases h

theorem within_or {n m : Int} (h : (if within n m = true then (0 : Int) else 36) = 0) : 0 ≤ n ∧ n < m := objE_zero.1 h

theorem ins_ops {p : Prog} {f : Func} (hp : RightP p) (hf : RightF p f) {i : Instr} (h : insE p f i = 0) : ∀ q ∈ (form i.op).zip [i.a, i.b, i.c, i.n], opR q.1 q.2 := by
  have hr := hf.regs
  have hpa := hf.params
  have hc := hf.code
  have hs := hf.sels
  have hv := hp.vars
  have hl := hp.locks
  have hch := hp.chans
  have hfn := hp.funcs
  have regE0 : ∀ n, regE f n = 0 → 0 ≤ n ∧ n < 64 := fun n hn => by
    unfold regE at hn; split at hn
    · rename_i w; have := within_iff.1 w; omega
    · cases hn
  have tgtE0 : ∀ n, tgtE f n = 0 → 0 ≤ n ∧ n < 64 := fun n hn => by
    unfold tgtE at hn; split at hn
    · rename_i w; have := within_iff.1 w; omega
    · cases hn
  have objE0 : ∀ n m : Int, m ≤ 64 → objE n m = 0 → 0 ≤ n ∧ n < 64 := fun n m hm hn => by have := objE_zero.1 hn; omega
  have key : ∀ (l : UInt8) (n b : Int), l ≠ 110 → (l = 45 → n = 0) → l ∈ ([45, 97, 99, 102, 108, 111, 112, 114, 115, 116, 118, 119] : List UInt8) → (l = 112 → 0 ≤ (p.funcs.getD b.toNat default).params ∧ (p.funcs.getD b.toNat default).params ≤ 8) → opE p f l.toNat n b = 0 → opR l n := by
    intro l n b h110 h45 hm hk ho
    simp only [List.mem_cons, List.not_mem_nil, or_false] at hm
    rcases hm with rfl | rfl | rfl | rfl | rfl | rfl | rfl | rfl | rfl | rfl | rfl | rfl <;> simp [opE] at ho <;> refine ⟨fun e => ?_, fun e => ?_, fun e1 e2 e3 => ?_⟩ <;> first | (exact h45 rfl) | (exact absurd e (by decide)) | (exact absurd rfl e1) | (exact absurd rfl e3) | skip
    · -- a
      split at ho
      · rename_i w; have := within_iff.1 w; omega
      · cases ho
    · exact objE0 _ _ (by omega) ho
    · exact objE0 _ _ (by omega) ho
    · exact objE0 _ _ (by omega) ho
    · by_cases h1 : n = -1
      · omega
      · have := regE0 n (ho h1); omega
    · -- p
      have hk' := hk rfl
      simp only [List.getD_eq_getElem?_getD] at ho hk'
      generalize ((p.funcs[b.toNat]?).getD default).params = k at ho hk'
      have hw : IntKind.i64.wrap (f.regs - k) = f.regs - k := wrap_in (by omega) (by omega)
      rw [hw] at ho
      obtain ⟨o1, o2⟩ := ho
      by_cases hk0 : k = 0
      · have := o1 hk0; omega
      · have := o2 (by omega); omega
    · exact regE0 _ ho
    · exact objE0 _ _ (by omega) ho
    · exact tgtE0 _ ho
    · exact objE0 _ _ (by omega) ho
    · exact regE0 _ ho
  have hf0 := ins_form h
  obtain ⟨l0, l1, l2, l3, hfm⟩ := (form_four i.op).resolve_left hf0
  have hmem := form_mem i.op
  obtain ⟨p0, p1, p3, p2⟩ := form_p hfm
  have hset : ∀ fm ∈ formsL, ∀ l ∈ fm, l = 110 ∨ l ∈ ([45, 97, 99, 102, 108, 111, 112, 114, 115, 116, 118, 119] : List UInt8) := by decide
  have hls := hset _ hmem
  rw [hfm] at hls ⊢
  rw [insE, hfm] at h
  simp only at h
  split at h
  · cases h
  rename_i u
  split at h
  · rename_i u1; exact absurd h u1
  rename_i u1
  split at h
  · rename_i u2; exact absurd h u2
  rename_i u2
  split at h
  · rename_i u3; exact absurd h u3
  rename_i u3
  have u1 : opE p f l0.toNat i.a i.b = 0 := by simpa using u1
  have u2 : opE p f l1.toNat i.b i.b = 0 := by simpa using u2
  have u3 : opE p f l2.toNat i.c i.b = 0 := by simpa using u3
  have nn : ∀ (l : UInt8) (n : Int), l = 110 → opR l n := by
    rintro l n rfl
    exact ⟨fun e => absurd e (by decide), fun e => absurd e (by decide), fun _ e _ => absurd rfl e⟩
  have kk : l2 = 112 → 0 ≤ (p.funcs.getD i.b.toNat default).params ∧ (p.funcs.getD i.b.toNat default).params ≤ 8 := fun e => by
    have e1 := p2 e
    subst e1
    have : objE i.b p.funcs.length = 0 := by simpa [opE] using u2
    have hb := objE_zero.1 this
    have hlt : i.b.toNat < p.funcs.length := by omega
    have hm : p.funcs.getD i.b.toNat default ∈ p.funcs := by
      rw [List.getD_eq_getElem?_getD, List.getElem?_eq_getElem hlt]; exact List.getElem_mem hlt
    have := hp.func _ hm
    have h1 := this.params
    have h2 := this.regs
    omega
  intro q hq
  simp only [List.zip_cons_cons, List.zip_nil_right, List.mem_cons, List.not_mem_nil, or_false] at hq
  rcases hq with rfl | rfl | rfl | rfl
  · rcases hls l0 (by simp) with hn | hn
    · exact nn _ _ hn
    · by_cases h110 : l0 = 110
      · exact nn _ _ h110
      · exact key l0 _ i.b h110 (fun e => Decidable.byContradiction fun hc => u (.inl ⟨e, hc⟩)) hn (fun e => absurd e p0) u1
  · rcases hls l1 (by simp) with hn | hn
    · exact nn _ _ hn
    · by_cases h110 : l1 = 110
      · exact nn _ _ h110
      · exact key l1 _ i.b h110 (fun e => Decidable.byContradiction fun hc => u (.inr (.inl ⟨e, hc⟩))) hn (fun e => absurd e p1) u2
  · rcases hls l2 (by simp) with hn | hn
    · exact nn _ _ hn
    · by_cases h110 : l2 = 110
      · exact nn _ _ h110
      · exact key l2 _ i.b h110 (fun e => Decidable.byContradiction fun hc => u (.inr (.inr (.inl ⟨e, hc⟩)))) hn kk u3
  · rcases hls l3 (by simp) with hn | hn
    · exact nn _ _ hn
    · by_cases h110 : l3 = 110
      · exact nn _ _ h110
      · exact key l3 _ i.b h110 (fun e => Decidable.byContradiction fun hc => u (.inr (.inr (.inr ⟨e, hc⟩)))) hn (fun e => absurd e p3) h
end Go.Sc
