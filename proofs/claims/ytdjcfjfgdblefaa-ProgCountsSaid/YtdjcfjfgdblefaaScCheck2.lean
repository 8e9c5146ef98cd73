/- Chapter 03's law of programs, in plain Lean: selects, sizes, the whole. No condition. -/
import Derived.Test.YtdjcfjfgdblefaaScCheck
set_option linter.constructorNameAsVariable false
namespace Go.Sc
open Go Go.Av

/-- The first fault of a list. -/
def firstE {α : Type} (g : α → Int) : List α → Int
  | [] => 0
  | x :: xs => if g x ≠ 0 then g x else firstE g xs

theorem firstE_at {α : Type} {g : α → Int} {xs : List α} {i : Nat} (h : firstE g xs = firstE g (xs.drop i)) (hlt : i < xs.length) : (g xs[i] ≠ 0 → firstE g xs = g xs[i]) ∧ (g xs[i] = 0 → firstE g xs = firstE g (xs.drop (i + 1))) := by
  rw [List.drop_eq_getElem_cons hlt, firstE] at h
  exact ⟨fun h1 => by rw [h, if_pos h1], fun h1 => by rw [h, if_neg (by simpa using h1)]⟩
theorem firstE_end {α : Type} {g : α → Int} {xs : List α} (h : firstE g xs = firstE g (xs.drop xs.length)) : firstE g xs = 0 := by
  rw [h, List.drop_length]; rfl

def caseE (p : Prog) (f : Func) (c : Case) : Int :=
  if objE c.chan p.chans.length ≠ 0 then 36
  else if (c.send = true ∨ c.reg ≠ -1) ∧ regE f c.reg ≠ 0 then 35
  else if c.send = true ∧ p.chans.getD c.chan.toNat 0 = 0 then 37
  else tgtE f c.to
def selE (p : Prog) (f : Func) (s : Select) : Int :=
  if firstE (caseE p f) s.cases ≠ 0 then firstE (caseE p f) s.cases else if s.els ≠ -1 then tgtE f s.els else 0
def selsE (p : Prog) (f : Func) : Int := firstE (selE p f) f.selects

def formed (main : Bool) (f : Func) : Bool :=
  decide (0 ≤ f.regs ∧ f.regs ≤ 8 ∧ 0 ≤ f.params ∧ f.params ≤ f.regs ∧ ¬ (main = true ∧ 0 < f.params) ∧ 1 ≤ f.code.length ∧ f.code.length ≤ 64 ∧ f.selects.length ≤ 4) && f.selects.all fun s => decide (1 ≤ s.cases.length ∧ s.cases.length ≤ 4)

def wholeE (p : Prog) : Int :=
  if 8 < p.vars.length ∨ p.locks < 0 ∨ 4 < p.locks ∨ 4 < p.chans.length ∨ p.funcs.length < 1 ∨ 8 < p.funcs.length then 30
  else firstE (fun n : Int => if n < 0 ∨ 4 < n then 31 else 0) p.chans

abbrev Told := Int × Int × Int
def firstT {α : Type} (g : Nat → α → Told) : Nat → List α → Told
  | _, [] => (0, 0, 0)
  | k, x :: xs => if (g k x).1 ≠ 0 then g k x else firstT g (k + 1) xs

theorem firstT_at {α : Type} {g : Nat → α → Told} {xs : List α} {i : Nat} (h : firstT g 0 xs = firstT g i (xs.drop i)) (hlt : i < xs.length) : ((g i xs[i]).1 ≠ 0 → firstT g 0 xs = g i xs[i]) ∧ ((g i xs[i]).1 = 0 → firstT g 0 xs = firstT g (i + 1) (xs.drop (i + 1))) := by
  rw [List.drop_eq_getElem_cons hlt, firstT] at h
  exact ⟨fun h1 => by rw [h, if_pos h1], fun h1 => by rw [h, if_neg (by simpa using h1)]⟩
theorem firstT_end {α : Type} {g : Nat → α → Told} {xs : List α} (h : firstT g 0 xs = firstT g xs.length (xs.drop xs.length)) : firstT g 0 xs = (0, 0, 0) := by
  rw [h, List.drop_length]; rfl

def codeT (p : Prog) (f : Func) (k : Nat) : Told := firstT (fun pc i => (insE p f i, (k : Int), (pc : Int))) 0 f.code
def lastOp (f : Func) : Int := (f.code.getD (f.code.length - 1) default).op
def funcT (p : Prog) (k : Nat) (f : Func) : Told :=
  if formed (k == 0) f = false then (32, k, 0)
  else if selsE p f ≠ 0 then (selsE p f, k, 0)
  else if (codeT p f k).1 ≠ 0 then codeT p f k
  else if lastOp f = 42 ∨ lastOp f = 45 ∨ lastOp f = 61 then (0, 0, 0)
  else (39, k, ((f.code.length - 1 : Nat) : Int))
/-- **WHAT IS WRONG WITH A PROGRAM, AND WHERE.** -/
def check (p : Prog) : Told := if wholeE p ≠ 0 then (wholeE p, 0, 0) else firstT (funcT p) 0 p.funcs
def told (t : Told) : AV := .tup [.i .i64 t.1, .g [.i .i64 t.2.1, .i .i64 t.2.2]]
end Go.Sc
