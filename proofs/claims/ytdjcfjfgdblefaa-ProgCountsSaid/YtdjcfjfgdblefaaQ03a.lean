/- Chapter 03: lists, functions, programs are compared. No condition. -/
import Derived.Test.YtdjcfjfgdblefaaSc
import Derived.Test.YtdjcfjfgdblefaaProg
import Derived.KernelRfl
set_option linter.constructorNameAsVariable false
namespace Go.Sc.Q03
open Go Go.RowKit Go.Av Go.Proofs
set_option linter.unusedSimpArgs false
set_option linter.unusedVariables false
theorem hmx : Try.prog.follows .mixedOrders = true := by kernel_rfl
/-- slices.Equal[[]scarab/api.Var,scarab/api.Var] -/
def c38 : ACode :=
  (.seq (.reg none [⟨some 4, none, .q (.mv (.c (.b false)))⟩])
  (.keep [0, 1]
  (.seq (.seq (.reg none [⟨some 6, none, .q (.mv (.t 0))⟩, ⟨some 7, none, .q (.len false (.t 6))⟩, ⟨some 8, none, .q (.mv (.t 1))⟩, ⟨some 9, none, .q (.len false (.t 8))⟩, ⟨some 10, none, .q (.bin .neq (.t 7) (.t 9))⟩])
    (.keep [0, 1, 10]
    (.cond (.t 10) (.seq (.reg none [⟨some 4, none, .q (.mv (.c (.b false)))⟩])
      .ret)
    .skip)))
  (.seq (.seq (.reg none [⟨some 11, none, .q (.mv (.t 0))⟩, ⟨some 12, none, .q (.len false (.t 11))⟩, ⟨some 13, none, .q (.mv (.c (.i .i64 0)))⟩])
    (.keep [0, 1, 12, 13]
    (.blk 0 (.keep [0, 1, 12, 13]
    (.loop (.fin [0, 1, 12, 13]
      (.seq (.reg none [⟨some 14, none, .q (.bin .lss (.t 13) (.t 12))⟩])
      (.keep [0, 1, 12, 13, 14]
      (.seq (.cond (.t 14) .skip
        (.exit 0))
      (.seq (.blk 1 (.seq (.reg none [⟨some 15, none, .q (.mv (.t 13))⟩, ⟨some 5, none, .q (.mv (.t 15))⟩])
        (.keep [0, 1, 5, 12, 13]
        (.seq (.reg (some 9) [⟨some 16, none, .q (.mv (.t 0))⟩, ⟨some 17, none, .q (.mv (.t 5))⟩, ⟨some 18, none, .q (.ias 2 (.t 16) (.t 17))⟩, ⟨some 19, none, .q (.ld (some 2) (.t 18))⟩, ⟨some 20, none, .q (.mv (.t 1))⟩, ⟨some 21, none, .q (.mv (.t 5))⟩, ⟨some 22, none, .q (.ias 2 (.t 20) (.t 21))⟩, ⟨some 23, none, .q (.ld (some 2) (.t 22))⟩, ⟨some 24, none, .q (.eqg true [.b, .i] (.t 19) (.t 23))⟩])
        (.keep [0, 1, 12, 13, 24]
        (.cond (.t 24) (.seq (.reg none [⟨some 4, none, .q (.mv (.c (.b false)))⟩])
          .ret)
        .skip))))))
      (.keep [0, 1, 12, 13]
      (.reg none [⟨some 25, none, .q (.bin .add (.t 13) (.c (.i .i64 1)))⟩, ⟨some 13, none, .q (.mv (.t 25))⟩]))))))))))))
  (.seq (.reg none [⟨some 4, none, .q (.mv (.c (.b true)))⟩])
  .ret)))))
theorem r38 : (Try.f38.body.bind (resC Try.prog Try.f38.ntmps)) = some (strip c38) := by kernel_rfl
theorem s38 : Try.f38.results.toList.mapM (resRes Try.prog) = some [.t 4] := by kernel_rfl
/-- slices.Equal[[]int,int] -/
def c39 : ACode :=
  (.seq (.reg none [⟨some 4, none, .q (.mv (.c (.b false)))⟩])
  (.keep [0, 1]
  (.seq (.seq (.reg none [⟨some 6, none, .q (.mv (.t 0))⟩, ⟨some 7, none, .q (.len false (.t 6))⟩, ⟨some 8, none, .q (.mv (.t 1))⟩, ⟨some 9, none, .q (.len false (.t 8))⟩, ⟨some 10, none, .q (.bin .neq (.t 7) (.t 9))⟩])
    (.keep [0, 1, 10]
    (.cond (.t 10) (.seq (.reg none [⟨some 4, none, .q (.mv (.c (.b false)))⟩])
      .ret)
    .skip)))
  (.seq (.seq (.reg none [⟨some 11, none, .q (.mv (.t 0))⟩, ⟨some 12, none, .q (.len false (.t 11))⟩, ⟨some 13, none, .q (.mv (.c (.i .i64 0)))⟩])
    (.keep [0, 1, 12, 13]
    (.blk 0 (.keep [0, 1, 12, 13]
    (.loop (.fin [0, 1, 12, 13]
      (.seq (.reg none [⟨some 14, none, .q (.bin .lss (.t 13) (.t 12))⟩])
      (.keep [0, 1, 12, 13, 14]
      (.seq (.cond (.t 14) .skip
        (.exit 0))
      (.seq (.blk 1 (.seq (.reg none [⟨some 15, none, .q (.mv (.t 13))⟩, ⟨some 5, none, .q (.mv (.t 15))⟩])
        (.keep [0, 1, 5, 12, 13]
        (.seq (.reg (some 9) [⟨some 16, none, .q (.mv (.t 0))⟩, ⟨some 17, none, .q (.mv (.t 5))⟩, ⟨some 18, none, .q (.ias 1 (.t 16) (.t 17))⟩, ⟨some 19, none, .q (.ld none (.t 18))⟩, ⟨some 20, none, .q (.mv (.t 1))⟩, ⟨some 21, none, .q (.mv (.t 5))⟩, ⟨some 22, none, .q (.ias 1 (.t 20) (.t 21))⟩, ⟨some 23, none, .q (.ld none (.t 22))⟩, ⟨some 24, none, .q (.bin .neq (.t 19) (.t 23))⟩])
        (.keep [0, 1, 12, 13, 24]
        (.cond (.t 24) (.seq (.reg none [⟨some 4, none, .q (.mv (.c (.b false)))⟩])
          .ret)
        .skip))))))
      (.keep [0, 1, 12, 13]
      (.reg none [⟨some 25, none, .q (.bin .add (.t 13) (.c (.i .i64 1)))⟩, ⟨some 13, none, .q (.mv (.t 25))⟩]))))))))))))
  (.seq (.reg none [⟨some 4, none, .q (.mv (.c (.b true)))⟩])
  .ret)))))
theorem r39 : (Try.f39.body.bind (resC Try.prog Try.f39.ntmps)) = some (strip c39) := by kernel_rfl
theorem s39 : Try.f39.results.toList.mapM (resRes Try.prog) = some [.t 4] := by kernel_rfl
/-- slices.Equal[[]scarab/api.Instr,scarab/api.Instr] -/
def c51 : ACode :=
  (.seq (.reg none [⟨some 4, none, .q (.mv (.c (.b false)))⟩])
  (.keep [0, 1]
  (.seq (.seq (.reg none [⟨some 6, none, .q (.mv (.t 0))⟩, ⟨some 7, none, .q (.len false (.t 6))⟩, ⟨some 8, none, .q (.mv (.t 1))⟩, ⟨some 9, none, .q (.len false (.t 8))⟩, ⟨some 10, none, .q (.bin .neq (.t 7) (.t 9))⟩])
    (.keep [0, 1, 10]
    (.cond (.t 10) (.seq (.reg none [⟨some 4, none, .q (.mv (.c (.b false)))⟩])
      .ret)
    .skip)))
  (.seq (.seq (.reg none [⟨some 11, none, .q (.mv (.t 0))⟩, ⟨some 12, none, .q (.len false (.t 11))⟩, ⟨some 13, none, .q (.mv (.c (.i .i64 0)))⟩])
    (.keep [0, 1, 12, 13]
    (.blk 0 (.keep [0, 1, 12, 13]
    (.loop (.fin [0, 1, 12, 13]
      (.seq (.reg none [⟨some 14, none, .q (.bin .lss (.t 13) (.t 12))⟩])
      (.keep [0, 1, 12, 13, 14]
      (.seq (.cond (.t 14) .skip
        (.exit 0))
      (.seq (.blk 1 (.seq (.reg none [⟨some 15, none, .q (.mv (.t 13))⟩, ⟨some 5, none, .q (.mv (.t 15))⟩])
        (.keep [0, 1, 5, 12, 13]
        (.seq (.reg (some 9) [⟨some 16, none, .q (.mv (.t 0))⟩, ⟨some 17, none, .q (.mv (.t 5))⟩, ⟨some 18, none, .q (.ias 5 (.t 16) (.t 17))⟩, ⟨some 19, none, .q (.ld (some 5) (.t 18))⟩, ⟨some 20, none, .q (.mv (.t 1))⟩, ⟨some 21, none, .q (.mv (.t 5))⟩, ⟨some 22, none, .q (.ias 5 (.t 20) (.t 21))⟩, ⟨some 23, none, .q (.ld (some 5) (.t 22))⟩, ⟨some 24, none, .q (.eqg true [.i, .i, .i, .i, .i] (.t 19) (.t 23))⟩])
        (.keep [0, 1, 12, 13, 24]
        (.cond (.t 24) (.seq (.reg none [⟨some 4, none, .q (.mv (.c (.b false)))⟩])
          .ret)
        .skip))))))
      (.keep [0, 1, 12, 13]
      (.reg none [⟨some 25, none, .q (.bin .add (.t 13) (.c (.i .i64 1)))⟩, ⟨some 13, none, .q (.mv (.t 25))⟩]))))))))))))
  (.seq (.reg none [⟨some 4, none, .q (.mv (.c (.b true)))⟩])
  .ret)))))
theorem r51 : (Try.f51.body.bind (resC Try.prog Try.f51.ntmps)) = some (strip c51) := by kernel_rfl
theorem s51 : Try.f51.results.toList.mapM (resRes Try.prog) = some [.t 4] := by kernel_rfl
/-- slices.Equal[[]scarab/api.Case,scarab/api.Case] -/
def c66 : ACode :=
  (.seq (.reg none [⟨some 4, none, .q (.mv (.c (.b false)))⟩])
  (.keep [0, 1]
  (.seq (.seq (.reg none [⟨some 6, none, .q (.mv (.t 0))⟩, ⟨some 7, none, .q (.len false (.t 6))⟩, ⟨some 8, none, .q (.mv (.t 1))⟩, ⟨some 9, none, .q (.len false (.t 8))⟩, ⟨some 10, none, .q (.bin .neq (.t 7) (.t 9))⟩])
    (.keep [0, 1, 10]
    (.cond (.t 10) (.seq (.reg none [⟨some 4, none, .q (.mv (.c (.b false)))⟩])
      .ret)
    .skip)))
  (.seq (.seq (.reg none [⟨some 11, none, .q (.mv (.t 0))⟩, ⟨some 12, none, .q (.len false (.t 11))⟩, ⟨some 13, none, .q (.mv (.c (.i .i64 0)))⟩])
    (.keep [0, 1, 12, 13]
    (.blk 0 (.keep [0, 1, 12, 13]
    (.loop (.fin [0, 1, 12, 13]
      (.seq (.reg none [⟨some 14, none, .q (.bin .lss (.t 13) (.t 12))⟩])
      (.keep [0, 1, 12, 13, 14]
      (.seq (.cond (.t 14) .skip
        (.exit 0))
      (.seq (.blk 1 (.seq (.reg none [⟨some 15, none, .q (.mv (.t 13))⟩, ⟨some 5, none, .q (.mv (.t 15))⟩])
        (.keep [0, 1, 5, 12, 13]
        (.seq (.reg (some 9) [⟨some 16, none, .q (.mv (.t 0))⟩, ⟨some 17, none, .q (.mv (.t 5))⟩, ⟨some 18, none, .q (.ias 4 (.t 16) (.t 17))⟩, ⟨some 19, none, .q (.ld (some 4) (.t 18))⟩, ⟨some 20, none, .q (.mv (.t 1))⟩, ⟨some 21, none, .q (.mv (.t 5))⟩, ⟨some 22, none, .q (.ias 4 (.t 20) (.t 21))⟩, ⟨some 23, none, .q (.ld (some 4) (.t 22))⟩, ⟨some 24, none, .q (.eqg true [.b, .i, .i, .i] (.t 19) (.t 23))⟩])
        (.keep [0, 1, 12, 13, 24]
        (.cond (.t 24) (.seq (.reg none [⟨some 4, none, .q (.mv (.c (.b false)))⟩])
          .ret)
        .skip))))))
      (.keep [0, 1, 12, 13]
      (.reg none [⟨some 25, none, .q (.bin .add (.t 13) (.c (.i .i64 1)))⟩, ⟨some 13, none, .q (.mv (.t 25))⟩]))))))))))))
  (.seq (.reg none [⟨some 4, none, .q (.mv (.c (.b true)))⟩])
  .ret)))))
theorem r66 : (Try.f66.body.bind (resC Try.prog Try.f66.ntmps)) = some (strip c66) := by kernel_rfl
theorem s66 : Try.f66.results.toList.mapM (resRes Try.prog) = some [.t 4] := by kernel_rfl

theorem equal_38 (xs ys : List Var) (hb : xs.length < 9223372036854775807) : PureS Try.prog 38 [.sl 2 (xs.map Var.row), .sl 2 (ys.map Var.row)] (.b (decide (xs = ys))) := by
  refine fun_go hmx Try.func38 r38 s38 (by rw [Try.ntmps38]; simp) ?_
  unfold c38
  simp
  refine ⟨fun h hc => h (by rw [hc]), fun hl => ?_⟩
  have hl : xs.length = ys.length := by omega
  refine go_rounds hmx (fun i σ => i ≤ xs.length ∧ xs.take i = ys.take i ∧ σ = ⟨[(0, .v (.sl 2 (xs.map Var.row))), (1, .v (.sl 2 (ys.map Var.row))), (12, .v (.i .i64 xs.length)), (13, .v (.i .i64 (i : Int)))], []⟩) (fun i => xs.length - i) 0 ⟨Nat.zero_le _, rfl, rfl⟩ ?_
  rintro i σ ⟨hi, ht, rfl⟩
  by_cases hlt : i < xs.length
  · have hly : i < ys.length := hl ▸ hlt
    have hxy := take_eq ht hlt hly
    have hw := wrap_nat (show i < 9223372036854775807 by omega)
    generalize hx : xs[i] = x at hxy
    generalize hy : ys[i] = y at hxy
    simp [hlt, hly, hx, hy, hw]
    refine ⟨fun h hc => ?_, fun h => ?_⟩
    · subst hc
      exact h (hx.symm.trans hy)
    · exact ⟨i + 1, ⟨hlt, hxy.2 h, rfl⟩, by omega⟩
  · simp [hlt]
    have : i = xs.length := by omega
    rw [this, List.take_length, hl, List.take_length] at ht
    exact ht

theorem equal_51 (xs ys : List Instr) (hb : xs.length < 9223372036854775807) : PureS Try.prog 51 [.sl 5 (xs.map Instr.row), .sl 5 (ys.map Instr.row)] (.b (decide (xs = ys))) := by
  refine fun_go hmx Try.func51 r51 s51 (by rw [Try.ntmps51]; simp) ?_
  unfold c51
  simp
  refine ⟨fun h hc => h (by rw [hc]), fun hl => ?_⟩
  have hl : xs.length = ys.length := by omega
  refine go_rounds hmx (fun i σ => i ≤ xs.length ∧ xs.take i = ys.take i ∧ σ = ⟨[(0, .v (.sl 5 (xs.map Instr.row))), (1, .v (.sl 5 (ys.map Instr.row))), (12, .v (.i .i64 xs.length)), (13, .v (.i .i64 (i : Int)))], []⟩) (fun i => xs.length - i) 0 ⟨Nat.zero_le _, rfl, rfl⟩ ?_
  rintro i σ ⟨hi, ht, rfl⟩
  by_cases hlt : i < xs.length
  · have hly : i < ys.length := hl ▸ hlt
    have hxy := take_eq ht hlt hly
    have hw := wrap_nat (show i < 9223372036854775807 by omega)
    generalize hx : xs[i] = x at hxy
    generalize hy : ys[i] = y at hxy
    simp [hlt, hly, hx, hy, hw]
    refine ⟨fun h hc => ?_, fun h => ?_⟩
    · subst hc
      exact h (hx.symm.trans hy)
    · exact ⟨i + 1, ⟨hlt, hxy.2 h, rfl⟩, by omega⟩
  · simp [hlt]
    have : i = xs.length := by omega
    rw [this, List.take_length, hl, List.take_length] at ht
    exact ht

theorem equal_66 (xs ys : List Case) (hb : xs.length < 9223372036854775807) : PureS Try.prog 66 [.sl 4 (xs.map Case.row), .sl 4 (ys.map Case.row)] (.b (decide (xs = ys))) := by
  refine fun_go hmx Try.func66 r66 s66 (by rw [Try.ntmps66]; simp) ?_
  unfold c66
  simp
  refine ⟨fun h hc => h (by rw [hc]), fun hl => ?_⟩
  have hl : xs.length = ys.length := by omega
  refine go_rounds hmx (fun i σ => i ≤ xs.length ∧ xs.take i = ys.take i ∧ σ = ⟨[(0, .v (.sl 4 (xs.map Case.row))), (1, .v (.sl 4 (ys.map Case.row))), (12, .v (.i .i64 xs.length)), (13, .v (.i .i64 (i : Int)))], []⟩) (fun i => xs.length - i) 0 ⟨Nat.zero_le _, rfl, rfl⟩ ?_
  rintro i σ ⟨hi, ht, rfl⟩
  by_cases hlt : i < xs.length
  · have hly : i < ys.length := hl ▸ hlt
    have hxy := take_eq ht hlt hly
    have hw := wrap_nat (show i < 9223372036854775807 by omega)
    generalize hx : xs[i] = x at hxy
    generalize hy : ys[i] = y at hxy
    simp [hlt, hly, hx, hy, hw]
    refine ⟨fun h hc => ?_, fun h => ?_⟩
    · subst hc
      exact h (hx.symm.trans hy)
    · exact ⟨i + 1, ⟨hlt, hxy.2 h, rfl⟩, by omega⟩
  · simp [hlt]
    have : i = xs.length := by omega
    rw [this, List.take_length, hl, List.take_length] at ht
    exact ht

theorem equal_39 (xs ys : List Int) (hb : xs.length < 9223372036854775807) : PureS Try.prog 39 [.sl 1 (xs.map irow), .sl 1 (ys.map irow)] (.b (decide (xs = ys))) := by
  refine fun_go hmx Try.func39 r39 s39 (by rw [Try.ntmps39]; simp) ?_
  unfold c39
  simp
  refine ⟨fun h hc => h (by rw [hc]), fun hl => ?_⟩
  have hl : xs.length = ys.length := by omega
  refine go_rounds hmx (fun i σ => i ≤ xs.length ∧ xs.take i = ys.take i ∧ σ = ⟨[(0, .v (.sl 1 (xs.map irow))), (1, .v (.sl 1 (ys.map irow))), (12, .v (.i .i64 xs.length)), (13, .v (.i .i64 (i : Int)))], []⟩) (fun i => xs.length - i) 0 ⟨Nat.zero_le _, rfl, rfl⟩ ?_
  rintro i σ ⟨hi, ht, rfl⟩
  by_cases hlt : i < xs.length
  · have hly : i < ys.length := hl ▸ hlt
    have hxy := take_eq ht hlt hly
    have hw := wrap_nat (show i < 9223372036854775807 by omega)
    generalize hx : xs[i] = x at hxy
    generalize hy : ys[i] = y at hxy
    simp [hlt, hly, hx, hy, hw, irow]
    refine ⟨fun h hc => ?_, fun h => ?_⟩
    · subst hc
      exact h (hx.symm.trans hy)
    · exact ⟨i + 1, ⟨hlt, hxy.2 h, rfl⟩, by omega⟩
  · simp [hlt]
    have : i = xs.length := by omega
    rw [this, List.take_length, hl, List.take_length] at ht
    exact ht
end Go.Sc.Q03
