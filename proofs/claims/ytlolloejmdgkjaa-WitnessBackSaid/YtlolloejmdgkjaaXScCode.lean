/- Chapter 04: programs in bytes, in plain Lean. No condition. -/
import Derived.Test.YtlolloejmdgkjaaXWd
import Derived.Test.YtlolloejmdgkjaaXSc
set_option linter.constructorNameAsVariable false
namespace Go.Sc.Cw
open Go Go.Av
set_option linter.unusedSimpArgs false
set_option linter.unusedVariables false
/-- A number with a sign, turned into one without. -/
def zigN (x : Int) : Nat := if x < 0 then (-(x + 1)).toNat * 2 + 1 else x.toNat * 2
def zagN (x : Nat) : Int := if x % 2 = 1 then -((x / 2 : Nat) : Int) - 1 else ((x / 2 : Nat) : Int)
theorem zag_zig (x : Int) : zagN (zigN x) = x := by
  unfold zigN zagN
  split <;> split <;> omega
theorem zig_lt {x : Int} (h : I64 x) : zigN x < 18446744073709551616 := by
  obtain ⟨h1, h2⟩ := h
  unfold zigN
  split <;> omega
theorem zag_i64 {x : Nat} (h : x < 18446744073709551616) : I64 (zagN x) := by
  unfold zagN
  split <;> exact ⟨by omega, by omega⟩
theorem zig_zag {x : Nat} (h : x < 18446744073709551616) : zigN (zagN x) = x := by
  unfold zigN zagN
  split <;> split <;> omega

/-- A whole number without its sign, as a machine has it. -/
def u64N (x : Int) : Nat := (x % 18446744073709551616).toNat
theorem u64N_lt (x : Int) : u64N x < 18446744073709551616 := by unfold u64N; omega
theorem u64N_wrap (x : Int) : IntKind.u64.wrap x = (u64N x : Int) := by rw [IntKind.wrap_u64]; unfold u64N; omega
def numW (x : Int) : List UInt8 := putN (u64N x)
theorem numW_len (x : Int) : (numW x).length ≤ 10 := putN_ten (u64N_lt x)
def flagW (b : Bool) : List UInt8 := numW (if b then 1 else 0)
def magicB : List UInt8 := [83, 67, 82, 66, 1]
/-- What an operand is in bytes, by its letter. -/
def opW (l : UInt8) (x : Int) : List UInt8 := if l = 45 then [] else if l = 110 then putN (zigN x) else if l = 111 then numW (x + 1) else numW x
def opsW : List (UInt8 × Int) → List UInt8
  | [] => []
  | (l, x) :: r => opW l x ++ opsW r
def instrW (i : Instr) : List UInt8 := numW i.op ++ opsW ((form i.op).zip [i.a, i.b, i.c, i.n])
theorem opW_len {l : UInt8} {x : Int} (h : I64 x) : (opW l x).length ≤ 10 := by
  unfold opW
  split
  · simp
  · split
    · exact putN_ten (zig_lt h)
    · split <;> exact numW_len _

def caseW (c : Case) : List UInt8 := flagW c.send ++ (numW c.chan ++ (numW (c.reg + 1) ++ numW c.to))
def casesW : List Case → List UInt8
  | [] => []
  | c :: r => caseW c ++ casesW r
def selW (s : Select) : List UInt8 := numW s.cases.length ++ (casesW s.cases ++ numW (s.els + 1))
def selsW : List Select → List UInt8
  | [] => []
  | s :: r => selW s ++ selsW r
def codeW : List Instr → List UInt8
  | [] => []
  | i :: r => instrW i ++ codeW r
/-- A function's bytes ahead of its code. -/
def headW (f : Func) : List UInt8 := numW f.params ++ (numW f.regs ++ (numW f.selects.length ++ (selsW f.selects ++ numW f.code.length)))
def funW (f : Func) : List UInt8 := headW f ++ codeW f.code
def varsW : List Var → List UInt8
  | [] => []
  | v :: r => flagW v.atomic ++ (putN (zigN v.init) ++ varsW r)
def chansW : List Int → List UInt8
  | [] => []
  | c :: r => numW c ++ chansW r
def funsW : List Func → List UInt8
  | [] => []
  | f :: r => funW f ++ funsW r
def bodyW (p : Prog) : List UInt8 := magicB ++ (numW p.vars.length ++ (varsW p.vars ++ (numW p.locks ++ (numW p.chans.length ++ (chansW p.chans ++ (numW p.funcs.length ++ funsW p.funcs))))))
def progW (p : Prog) : List UInt8 := bodyW p ++ fixN (sumN (bodyW p))
def preW (p : Prog) : List UInt8 := magicB ++ (numW p.vars.length ++ (varsW p.vars ++ (numW p.locks ++ (numW p.chans.length ++ (chansW p.chans ++ numW p.funcs.length)))))
theorem num_wrap (x : Int) : numW (IntKind.i64.wrap x) = numW x := by
  simp only [numW, u64N]; congr 2; rw [IntKind.wrap_i64]; omega
end Go.Sc.Cw
