/- Scarab's data: how programs and their parts lie in memory, cell by cell. No condition. -/
import Derived.Test.YtgipkikbefnokaaDoorXAv12
set_option linter.constructorNameAsVariable false
namespace Go.Sc
open Go Go.Av
set_option linter.unusedSimpArgs false
set_option linter.unusedVariables false
structure Var where
  atomic : Bool
  init : Int
  deriving DecidableEq, Inhabited
def Var.row (v : Var) : List AV := [.b v.atomic, .i .i64 v.init]
@[simp] theorem Var.row_length (v : Var) : v.row.length = 2 := rfl
@[simp] theorem Var.row_take (v : Var) : v.row.take 2 = v.row := rfl
@[simp] theorem Var.row_fit (v w : Var) : fitA [.b, .i] v.row w.row := by simp [row]
@[simp] theorem Var.row_eq (v w : Var) : eqA [.b, .i] v.row w.row = decide (v = w) := by
  cases v; cases w; rw [Bool.eq_iff_iff]; simp [row]
structure Instr where
  op : Int
  a : Int
  b : Int
  c : Int
  n : Int
  deriving DecidableEq, Inhabited
def Instr.row (v : Instr) : List AV := [.i .i64 v.op, .i .i64 v.a, .i .i64 v.b, .i .i64 v.c, .i .i64 v.n]
@[simp] theorem Instr.row_length (v : Instr) : v.row.length = 5 := rfl
@[simp] theorem Instr.row_take (v : Instr) : v.row.take 5 = v.row := rfl
@[simp] theorem Instr.row_fit (v w : Instr) : fitA [.i, .i, .i, .i, .i] v.row w.row := by simp [row]
@[simp] theorem Instr.row_eq (v w : Instr) : eqA [.i, .i, .i, .i, .i] v.row w.row = decide (v = w) := by
  cases v; cases w; rw [Bool.eq_iff_iff]; simp [row]
structure Case where
  send : Bool
  chan : Int
  reg : Int
  to : Int
  deriving DecidableEq, Inhabited
def Case.row (v : Case) : List AV := [.b v.send, .i .i64 v.chan, .i .i64 v.reg, .i .i64 v.to]
@[simp] theorem Case.row_length (v : Case) : v.row.length = 4 := rfl
@[simp] theorem Case.row_take (v : Case) : v.row.take 4 = v.row := rfl
@[simp] theorem Case.row_fit (v w : Case) : fitA [.b, .i, .i, .i] v.row w.row := by simp [row]
@[simp] theorem Case.row_eq (v w : Case) : eqA [.b, .i, .i, .i] v.row w.row = decide (v = w) := by
  cases v; cases w; rw [Bool.eq_iff_iff]; simp [row]

structure Select where
  cases : List Case
  els : Int
  deriving DecidableEq, Inhabited
def Select.row (s : Select) : List AV := [.sl 4 (s.cases.map Case.row), .i .i64 s.els]
@[simp] theorem Select.row_length (s : Select) : s.row.length = 2 := rfl
@[simp] theorem Select.row_take (s : Select) : s.row.take 2 = s.row := rfl
structure Func where
  params : Int
  regs : Int
  code : List Instr
  selects : List Select
  deriving DecidableEq, Inhabited
def Func.row (f : Func) : List AV := [.i .i64 f.params, .i .i64 f.regs, .sl 5 (f.code.map Instr.row), .sl 2 (f.selects.map Select.row)]
@[simp] theorem Func.row_length (s : Func) : s.row.length = 4 := rfl
@[simp] theorem Func.row_take (s : Func) : s.row.take 4 = s.row := rfl
def irow (n : Int) : List AV := [.i .i64 n]
@[simp] theorem irow_length (n : Int) : (irow n).length = 1 := rfl
structure Prog where
  vars : List Var
  locks : Int
  chans : List Int
  funcs : List Func
  deriving DecidableEq, Inhabited
def Prog.row (p : Prog) : List AV := [.sl 2 (p.vars.map Var.row), .i .i64 p.locks, .sl 1 (p.chans.map irow), .sl 4 (p.funcs.map Func.row)]
@[simp] theorem Prog.row_length (s : Prog) : s.row.length = 4 := rfl
@[simp] theorem Prog.row_take (s : Prog) : s.row.take 4 = s.row := rfl

abbrev Few {α : Type} (bytes : Nat) (l : List α) : Prop := l.length * bytes ≤ 140737488351232
def I64 (n : Int) : Prop := -9223372036854775808 ≤ n ∧ n ≤ 9223372036854775807
structure Select.Ok (s : Select) : Prop where
  few : Few 32 s.cases
  els : I64 s.els
  cs : ∀ c ∈ s.cases, I64 c.chan ∧ I64 c.reg ∧ I64 c.to
structure Func.Ok (f : Func) : Prop where
  params : I64 f.params
  regs : I64 f.regs
  few : Few 40 f.code
  fews : Few 32 f.selects
  code : ∀ i ∈ f.code, I64 i.op ∧ I64 i.a ∧ I64 i.b ∧ I64 i.c ∧ I64 i.n
  sel : ∀ s ∈ f.selects, s.Ok
structure Prog.Ok (p : Prog) : Prop where
  fewv : Few 16 p.vars
  vars : ∀ v ∈ p.vars, I64 v.init
  locks : I64 p.locks
  fewc : Few 8 p.chans
  chans : ∀ n ∈ p.chans, I64 n
  fewf : Few 64 p.funcs
  funcs : ∀ f ∈ p.funcs, f.Ok

theorem Few.lt {α : Type} {b : Nat} {l : List α} (h : Few b l) (hb : 0 < b) : l.length < 9223372036854775807 := by
  have : l.length * 1 ≤ l.length * b := Nat.mul_le_mul_left _ hb
  unfold Few at h; omega

theorem take_eq {α : Type} {xs ys : List α} {i : Nat} (h : xs.take i = ys.take i) (hx : i < xs.length) (hy : i < ys.length) : xs.take (i + 1) = ys.take (i + 1) ↔ xs[i] = ys[i] := by
  rw [List.take_add_one, List.take_add_one, List.getElem?_eq_getElem hx, List.getElem?_eq_getElem hy, h, Option.toList_some, Option.toList_some, List.append_cancel_left_eq]
  simp
theorem eq_of_take {α : Type} {xs ys : List α} {i : Nat} (ht : xs.take i = ys.take i) (hi : i ≤ xs.length) (hn : ¬ i < xs.length) (hl : xs.length = ys.length) : xs = ys := by
  have : i = xs.length := by omega
  rw [this, List.take_length, hl, List.take_length] at ht
  exact ht
end Go.Sc
