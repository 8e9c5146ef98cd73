/- Chapter 03: lists, functions, programs are compared. No condition. -/
import Derived.Test.YtdjcfjfgdblefaaQ03c
import Derived.Test.YtdjcfjfgdblefaaProg
import Derived.KernelRfl
set_option linter.constructorNameAsVariable false
namespace Go.Sc.Q03
open Go Go.RowKit Go.Av Go.Proofs
set_option linter.unusedSimpArgs false
set_option linter.unusedVariables false

theorem refSameFunc (x y : Func) (hx : x.Ok) : PureS Try.prog 37 [.g x.row, .g y.row] (.b (decide (x = y))) := by
  refine fun_go hmx Try.func37 r37 s37 (by rw [Try.ntmps37]; simp) ?_
  unfold c37
  simp [Func.row]
  constructor
  · rintro (((h | h) | h) | h) rfl <;> exact h rfl
  intro l1 l2 l3 l4
  replace l3 : x.code.length = y.code.length := by omega
  replace l4 : x.selects.length = y.selects.length := by omega
  refine go_count hmx 43 0 x.code.length (fun i hp => hp = [AObj.var (x.row.map .v), AObj.var (y.row.map .v)] ∧ x.code.take i = y.code.take i) (Nat.zero_le _) (hx.few.lt (by decide)) rfl ⟨rfl, rfl⟩ ?_ ?_
  · rintro i hp - hlt ⟨rfl, ht⟩ hw
    have hly : i < y.code.length := l3 ▸ hlt
    have hxy := take_eq ht hlt hly
    generalize hx' : x.code[i] = a at *
    generalize hy' : y.code[i] = b at *
    simp [hlt, hly, hx', hy', hw, Func.row]
    refine ⟨fun h hc => ?_, fun h => hxy.2 h⟩
    subst hc
    exact h (hx'.symm.trans hy')
  rintro hp ⟨rfl, ht⟩
  have e1 := eq_of_take ht (Nat.le_refl _) (Nat.lt_irrefl _) l3
  simp [Func.row]
  refine go_count hmx 61 0 x.selects.length (fun i hp => (∃ K, hp = AObj.var (x.row.map .v) :: AObj.var (y.row.map .v) :: K) ∧ x.selects.take i = y.selects.take i) (Nat.zero_le _) (hx.fews.lt (by decide)) rfl ⟨⟨_, rfl⟩, rfl⟩ ?_ ?_
  · rintro i hp - hlt ⟨⟨K, rfl⟩, ht⟩ hw
    have hly : i < y.selects.length := l4 ▸ hlt
    have hxy := take_eq ht hlt hly
    have hok := hx.sel x.selects[i] (List.getElem_mem hlt)
    generalize hx' : x.selects[i] = a at *
    generalize hy' : y.selects[i] = b at *
    simp [hlt, hly, hx', hy', hw, Func.row, Select.row]
    constructor
    · intro h hc
      subst hc
      obtain rfl := hx'.symm.trans hy'
      rcases h with h | h <;> exact h rfl
    intro k1 k2
    replace k2 : a.cases.length = b.cases.length := by omega
    refine go_count hmx 91 0 a.cases.length (fun j hp => hp = _ ∧ a.cases.take j = b.cases.take j) (Nat.zero_le _) (hok.few.lt (by decide)) rfl ⟨rfl, rfl⟩ ?_ ?_
    · rintro j hp - hlt2 ⟨rfl, ht2⟩ hw2
      have hly2 : j < b.cases.length := k2 ▸ hlt2
      have hxy2 := take_eq ht2 hlt2 hly2
      generalize hx2 : a.cases[j] = u at *
      generalize hy2 : b.cases[j] = v at *
      simp [hlt2, hly2, hx2, hy2, hw2]
      refine ⟨fun h hc => ?_, fun h => hxy2.2 h⟩
      subst hc
      obtain rfl := hx'.symm.trans hy'
      exact h (hx2.symm.trans hy2)
    rintro hp ⟨rfl, ht2⟩
    have e3 := eq_of_take ht2 (Nat.le_refl _) (Nat.lt_irrefl _) k2
    simp [hw, Func.row]
    refine hxy.2 ?_
    cases a; cases b; simp at *; exact ⟨e3, k1⟩
  rintro hp ⟨⟨K, rfl⟩, ht⟩
  have e2 := eq_of_take ht (Nat.le_refl _) (Nat.lt_irrefl _) l4
  simp
  obtain ⟨a, b, c, d⟩ := x
  obtain ⟨a', b', c', d'⟩ := y
  simp at *
  exact ⟨l1, l2, e1, e2⟩
end Go.Sc.Q03
