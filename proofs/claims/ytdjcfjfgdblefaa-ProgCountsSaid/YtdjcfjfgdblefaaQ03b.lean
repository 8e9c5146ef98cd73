/- Chapter 03: lists, functions, programs are compared. No condition. -/
import Derived.Test.YtdjcfjfgdblefaaQ03a
import Derived.Test.YtdjcfjfgdblefaaProg
import Derived.KernelRfl
set_option linter.constructorNameAsVariable false
namespace Go.Sc.Q03
open Go Go.RowKit Go.Av Go.Proofs
set_option linter.unusedSimpArgs false
set_option linter.unusedVariables false
/-- scarab/prog.sameSelect -/
def c53 : ACode :=
  (.seq (.reg none [⟨some 2, none, .m (.box (.t 0))⟩, ⟨some 3, none, .m (.box (.t 1))⟩, ⟨some 4, none, .q (.mv (.c (.b false)))⟩])
  (.keep [2, 3]
  (.seq (.reg none [⟨some 5, none, .q (.fa 1 (.t 2))⟩, ⟨some 6, none, .q (.ld none (.t 5))⟩, ⟨some 7, none, .q (.fa 1 (.t 3))⟩, ⟨some 8, none, .q (.ld none (.t 7))⟩, ⟨some 9, none, .q (.bin .eql (.t 6) (.t 8))⟩, ⟨some 10, none, .q (.mv (.t 9))⟩, ⟨some 11, some (10, true), .q (.fa 0 (.t 2))⟩, ⟨some 12, some (10, true), .q (.ld none (.t 11))⟩, ⟨some 13, some (10, true), .q (.fa 0 (.t 3))⟩, ⟨some 14, some (10, true), .q (.ld none (.t 13))⟩, ⟨some 15, some (10, true), .call (.f 66) [(.t 12), (.t 14)]⟩, ⟨some 16, none, .pk (.t 10) (.t 15) (.c (.b false))⟩, ⟨some 4, none, .q (.mv (.t 16))⟩])
  .ret)))
theorem r53 : (Try.f53.body.bind (resC Try.prog Try.f53.ntmps)) = some (strip c53) := by kernel_rfl
theorem s53 : Try.f53.results.toList.mapM (resRes Try.prog) = some [.t 4] := by kernel_rfl
/-- slices.EqualFunc[[]scarab/api.Select,[]scarab/api.Select,scarab/api.Select,scarab/api.Select] -/
def c52 : ACode :=
  (.seq (.reg none [⟨some 6, none, .q (.mv (.c (.b false)))⟩])
  (.keep [0, 1, 2]
  (.seq (.seq (.reg none [⟨some 10, none, .q (.mv (.t 0))⟩, ⟨some 11, none, .q (.len false (.t 10))⟩, ⟨some 12, none, .q (.mv (.t 1))⟩, ⟨some 13, none, .q (.len false (.t 12))⟩, ⟨some 14, none, .q (.bin .neq (.t 11) (.t 13))⟩])
    (.keep [0, 1, 2, 14]
    (.cond (.t 14) (.seq (.reg none [⟨some 6, none, .q (.mv (.c (.b false)))⟩])
      .ret)
    .skip)))
  (.seq (.seq (.reg none [⟨some 15, none, .q (.mv (.t 0))⟩, ⟨some 16, none, .q (.len false (.t 15))⟩, ⟨some 17, none, .q (.mv (.c (.i .i64 0)))⟩])
    (.keep [1, 2, 15, 16, 17]
    (.blk 0 (.keep [1, 2, 15, 16, 17]
    (.loop (.fin [1, 2, 15, 16, 17]
      (.seq (.reg none [⟨some 18, none, .q (.bin .lss (.t 17) (.t 16))⟩])
      (.keep [1, 2, 15, 16, 17, 18]
      (.seq (.cond (.t 18) .skip
        (.exit 0))
      (.seq (.blk 1 (.seq (.reg none [⟨some 19, none, .q (.mv (.t 17))⟩, ⟨some 20, none, .q (.ias 2 (.t 15) (.t 17))⟩, ⟨some 21, none, .q (.ld (some 2) (.t 20))⟩, ⟨some 8, none, .m (.alloc (.g [.nil, (.i .i64 0)]))⟩, ⟨some 7, none, .q (.mv (.t 19))⟩, ⟨none, none, .m (.st 2 (.t 8) (.t 21))⟩])
        (.keep [1, 2, 7, 8, 15, 16, 17]
        (.seq (.reg none [⟨some 22, none, .q (.mv (.t 1))⟩, ⟨some 23, none, .q (.mv (.t 7))⟩, ⟨some 24, none, .q (.ias 2 (.t 22) (.t 23))⟩, ⟨some 25, none, .q (.ld (some 2) (.t 24))⟩, ⟨some 9, none, .m (.alloc (.g [.nil, (.i .i64 0)]))⟩, ⟨none, none, .m (.st 2 (.t 9) (.t 25))⟩])
        (.keep [1, 2, 8, 9, 15, 16, 17]
        (.seq (.reg none [⟨some 26, none, .q (.mv (.t 2))⟩, ⟨some 27, none, .q (.ld (some 2) (.t 8))⟩, ⟨some 28, none, .q (.ld (some 2) (.t 9))⟩, ⟨some 29, none, .call (.t 26) [(.t 27), (.t 28)]⟩, ⟨some 30, none, .q (.un .not (.t 29))⟩])
        (.keep [1, 2, 15, 16, 17, 30]
        (.cond (.t 30) (.seq (.reg none [⟨some 6, none, .q (.mv (.c (.b false)))⟩])
          .ret)
        .skip))))))))
      (.keep [1, 2, 15, 16, 17]
      (.reg none [⟨some 31, none, .q (.bin .add (.t 17) (.c (.i .i64 1)))⟩, ⟨some 17, none, .q (.mv (.t 31))⟩]))))))))))))
  (.seq (.reg none [⟨some 6, none, .q (.mv (.c (.b true)))⟩])
  .ret)))))
theorem r52 : (Try.f52.body.bind (resC Try.prog Try.f52.ntmps)) = some (strip c52) := by kernel_rfl
theorem s52 : Try.f52.results.toList.mapM (resRes Try.prog) = some [.t 6] := by kernel_rfl
/-- scarab/prog.sameFunc -/
def c41 : ACode :=
  (.seq (.reg none [⟨some 2, none, .m (.box (.t 0))⟩, ⟨some 3, none, .m (.box (.t 1))⟩, ⟨some 4, none, .q (.mv (.c (.b false)))⟩])
  (.keep [2, 3]
  (.seq (.reg none [⟨some 5, none, .q (.fa 0 (.t 2))⟩, ⟨some 6, none, .q (.ld none (.t 5))⟩, ⟨some 7, none, .q (.fa 0 (.t 3))⟩, ⟨some 8, none, .q (.ld none (.t 7))⟩, ⟨some 9, none, .q (.bin .eql (.t 6) (.t 8))⟩, ⟨some 10, none, .q (.mv (.t 9))⟩, ⟨some 11, some (10, true), .q (.fa 1 (.t 2))⟩, ⟨some 12, some (10, true), .q (.ld none (.t 11))⟩, ⟨some 13, some (10, true), .q (.fa 1 (.t 3))⟩, ⟨some 14, some (10, true), .q (.ld none (.t 13))⟩, ⟨some 15, some (10, true), .q (.bin .eql (.t 12) (.t 14))⟩, ⟨some 16, none, .pk (.t 10) (.t 15) (.c (.b false))⟩, ⟨some 17, none, .q (.mv (.t 16))⟩, ⟨some 18, some (17, true), .q (.fa 2 (.t 2))⟩, ⟨some 19, some (17, true), .q (.ld none (.t 18))⟩, ⟨some 20, some (17, true), .q (.fa 2 (.t 3))⟩, ⟨some 21, some (17, true), .q (.ld none (.t 20))⟩, ⟨some 22, some (17, true), .call (.f 51) [(.t 19), (.t 21)]⟩, ⟨some 23, none, .pk (.t 17) (.t 22) (.c (.b false))⟩, ⟨some 24, none, .q (.mv (.t 23))⟩, ⟨some 25, some (24, true), .q (.fa 3 (.t 2))⟩, ⟨some 26, some (24, true), .q (.ld none (.t 25))⟩, ⟨some 27, some (24, true), .q (.fa 3 (.t 3))⟩, ⟨some 28, some (24, true), .q (.ld none (.t 27))⟩, ⟨some 29, some (24, true), .call (.f 52) [(.t 26), (.t 28), (.f 53)]⟩, ⟨some 30, none, .pk (.t 24) (.t 29) (.c (.b false))⟩, ⟨some 4, none, .q (.mv (.t 30))⟩])
  .ret)))
theorem r41 : (Try.f41.body.bind (resC Try.prog Try.f41.ntmps)) = some (strip c41) := by kernel_rfl
theorem s41 : Try.f41.results.toList.mapM (resRes Try.prog) = some [.t 4] := by kernel_rfl
/-- slices.EqualFunc[[]scarab/api.Func,[]scarab/api.Func,scarab/api.Func,scarab/api.Func] -/
def c40 : ACode :=
  (.seq (.reg none [⟨some 6, none, .q (.mv (.c (.b false)))⟩])
  (.keep [0, 1, 2]
  (.seq (.seq (.reg none [⟨some 10, none, .q (.mv (.t 0))⟩, ⟨some 11, none, .q (.len false (.t 10))⟩, ⟨some 12, none, .q (.mv (.t 1))⟩, ⟨some 13, none, .q (.len false (.t 12))⟩, ⟨some 14, none, .q (.bin .neq (.t 11) (.t 13))⟩])
    (.keep [0, 1, 2, 14]
    (.cond (.t 14) (.seq (.reg none [⟨some 6, none, .q (.mv (.c (.b false)))⟩])
      .ret)
    .skip)))
  (.seq (.seq (.reg none [⟨some 15, none, .q (.mv (.t 0))⟩, ⟨some 16, none, .q (.len false (.t 15))⟩, ⟨some 17, none, .q (.mv (.c (.i .i64 0)))⟩])
    (.keep [1, 2, 15, 16, 17]
    (.blk 0 (.keep [1, 2, 15, 16, 17]
    (.loop (.fin [1, 2, 15, 16, 17]
      (.seq (.reg none [⟨some 18, none, .q (.bin .lss (.t 17) (.t 16))⟩])
      (.keep [1, 2, 15, 16, 17, 18]
      (.seq (.cond (.t 18) .skip
        (.exit 0))
      (.seq (.blk 1 (.seq (.reg none [⟨some 19, none, .q (.mv (.t 17))⟩, ⟨some 20, none, .q (.ias 4 (.t 15) (.t 17))⟩, ⟨some 21, none, .q (.ld (some 4) (.t 20))⟩, ⟨some 8, none, .m (.alloc (.g [(.i .i64 0), (.i .i64 0), .nil, .nil]))⟩, ⟨some 7, none, .q (.mv (.t 19))⟩, ⟨none, none, .m (.st 4 (.t 8) (.t 21))⟩])
        (.keep [1, 2, 7, 8, 15, 16, 17]
        (.seq (.reg none [⟨some 22, none, .q (.mv (.t 1))⟩, ⟨some 23, none, .q (.mv (.t 7))⟩, ⟨some 24, none, .q (.ias 4 (.t 22) (.t 23))⟩, ⟨some 25, none, .q (.ld (some 4) (.t 24))⟩, ⟨some 9, none, .m (.alloc (.g [(.i .i64 0), (.i .i64 0), .nil, .nil]))⟩, ⟨none, none, .m (.st 4 (.t 9) (.t 25))⟩])
        (.keep [1, 2, 8, 9, 15, 16, 17]
        (.seq (.reg none [⟨some 26, none, .q (.mv (.t 2))⟩, ⟨some 27, none, .q (.ld (some 4) (.t 8))⟩, ⟨some 28, none, .q (.ld (some 4) (.t 9))⟩, ⟨some 29, none, .call (.t 26) [(.t 27), (.t 28)]⟩, ⟨some 30, none, .q (.un .not (.t 29))⟩])
        (.keep [1, 2, 15, 16, 17, 30]
        (.cond (.t 30) (.seq (.reg none [⟨some 6, none, .q (.mv (.c (.b false)))⟩])
          .ret)
        .skip))))))))
      (.keep [1, 2, 15, 16, 17]
      (.reg none [⟨some 31, none, .q (.bin .add (.t 17) (.c (.i .i64 1)))⟩, ⟨some 17, none, .q (.mv (.t 31))⟩]))))))))))))
  (.seq (.reg none [⟨some 6, none, .q (.mv (.c (.b true)))⟩])
  .ret)))))
theorem r40 : (Try.f40.body.bind (resC Try.prog Try.f40.ntmps)) = some (strip c40) := by kernel_rfl
theorem s40 : Try.f40.results.toList.mapM (resRes Try.prog) = some [.t 6] := by kernel_rfl
/-- scarab/prog.Same -/
def c14 : ACode :=
  (.seq (.reg none [⟨some 2, none, .m (.box (.t 0))⟩, ⟨some 3, none, .m (.box (.t 1))⟩, ⟨some 4, none, .q (.mv (.c (.b false)))⟩])
  (.keep [2, 3]
  (.seq (.reg none [⟨some 5, none, .q (.fa 0 (.t 2))⟩, ⟨some 6, none, .q (.ld none (.t 5))⟩, ⟨some 7, none, .q (.fa 0 (.t 3))⟩, ⟨some 8, none, .q (.ld none (.t 7))⟩, ⟨some 9, none, .call (.f 38) [(.t 6), (.t 8)]⟩, ⟨some 10, none, .q (.mv (.t 9))⟩, ⟨some 11, some (10, true), .q (.fa 1 (.t 2))⟩, ⟨some 12, some (10, true), .q (.ld none (.t 11))⟩, ⟨some 13, some (10, true), .q (.fa 1 (.t 3))⟩, ⟨some 14, some (10, true), .q (.ld none (.t 13))⟩, ⟨some 15, some (10, true), .q (.bin .eql (.t 12) (.t 14))⟩, ⟨some 16, none, .pk (.t 10) (.t 15) (.c (.b false))⟩, ⟨some 17, none, .q (.mv (.t 16))⟩, ⟨some 18, some (17, true), .q (.fa 2 (.t 2))⟩, ⟨some 19, some (17, true), .q (.ld none (.t 18))⟩, ⟨some 20, some (17, true), .q (.fa 2 (.t 3))⟩, ⟨some 21, some (17, true), .q (.ld none (.t 20))⟩, ⟨some 22, some (17, true), .call (.f 39) [(.t 19), (.t 21)]⟩, ⟨some 23, none, .pk (.t 17) (.t 22) (.c (.b false))⟩, ⟨some 24, none, .q (.mv (.t 23))⟩, ⟨some 25, some (24, true), .q (.fa 3 (.t 2))⟩, ⟨some 26, some (24, true), .q (.ld none (.t 25))⟩, ⟨some 27, some (24, true), .q (.fa 3 (.t 3))⟩, ⟨some 28, some (24, true), .q (.ld none (.t 27))⟩, ⟨some 29, some (24, true), .call (.f 40) [(.t 26), (.t 28), (.f 41)]⟩, ⟨some 30, none, .pk (.t 24) (.t 29) (.c (.b false))⟩, ⟨some 4, none, .q (.mv (.t 30))⟩])
  .ret)))
theorem r14 : (Try.f14.body.bind (resC Try.prog Try.f14.ntmps)) = some (strip c14) := by kernel_rfl
theorem s14 : Try.f14.results.toList.mapM (resRes Try.prog) = some [.t 4] := by kernel_rfl


theorem sameSelect (x y : Select) (hb : Few 32 x.cases) : PureS Try.prog 53 [.g x.row, .g y.row] (.b (decide (x = y))) := by
  refine fun_go hmx Try.func53 r53 s53 (by rw [Try.ntmps53]; simp) ?_
  unfold c53
  simp [Select.row]
  refine callkg rfl Try.call66 rfl (fun _ => equal_66 x.cases y.cases (hb.lt (by decide))) (by simp) rfl ?_
  simp
  obtain ⟨a, b⟩ := x
  obtain ⟨c, d⟩ := y
  simp
  by_cases h1 : b = d <;> by_cases h2 : a = c <;> simp [h1, h2]

theorem equalf_52 (xs ys : List Select) (hb : xs.length < 9223372036854775807) (g : Nat) (hcall : ∀ vs w, (callFunc g vs).run Try.prog w = .ok (.enter g vs) w) (hg : ∀ x ∈ xs, ∀ y ∈ ys, PureS Try.prog g [.g x.row, .g y.row] (.b (decide (x = y)))) : PureS Try.prog 52 [.sl 2 (xs.map Select.row), .sl 2 (ys.map Select.row), .fn g []] (.b (decide (xs = ys))) := by
  refine fun_go hmx Try.func52 r52 s52 (by rw [Try.ntmps52]; simp) ?_
  unfold c52
  simp
  refine ⟨fun h hc => h (by rw [hc]), fun hl => ?_⟩
  have hl : xs.length = ys.length := by omega
  refine go_rounds hmx (fun i σ => i ≤ xs.length ∧ xs.take i = ys.take i ∧ ∃ K, σ = ⟨[(1, .v (.sl 2 (ys.map Select.row))), (2, .v (.fn g [])), (16 - 1, .v (.sl 2 (xs.map Select.row))), (16, .v (.i .i64 xs.length)), (17, .v (.i .i64 (i : Int)))], K⟩) (fun i => xs.length - i) 0 ⟨Nat.zero_le _, rfl, _, rfl⟩ ?_
  rintro i σ ⟨hi, ht, K, rfl⟩
  by_cases hlt : i < xs.length
  · have hly : i < ys.length := hl ▸ hlt
    have hxy := take_eq ht hlt hly
    have hw := wrap_nat (show i < 9223372036854775807 by omega)
    have hgc := hg xs[i] (List.getElem_mem hlt) ys[i] (List.getElem_mem hly)
    generalize hx : xs[i] = x at hxy hgc
    generalize hy : ys[i] = y at hxy hgc
    simp [hlt, hly, hx, hy, hw, Select.row]
    refine callk rfl hcall hgc rfl ?_
    simp
    refine ⟨fun h hc => ?_, fun h => ⟨i + 1, ⟨hlt, hxy.2 h, hw⟩, by omega⟩⟩
    subst hc
    exact h (hx.symm.trans hy)
  · simp [hlt]
    have : i = xs.length := by omega
    rw [this, List.take_length, hl, List.take_length] at ht
    exact ht

theorem equalf_40 (xs ys : List Func) (hb : xs.length < 9223372036854775807) (g : Nat) (hcall : ∀ vs w, (callFunc g vs).run Try.prog w = .ok (.enter g vs) w) (hg : ∀ x ∈ xs, ∀ y ∈ ys, PureS Try.prog g [.g x.row, .g y.row] (.b (decide (x = y)))) : PureS Try.prog 40 [.sl 4 (xs.map Func.row), .sl 4 (ys.map Func.row), .fn g []] (.b (decide (xs = ys))) := by
  refine fun_go hmx Try.func40 r40 s40 (by rw [Try.ntmps40]; simp) ?_
  unfold c40
  simp
  refine ⟨fun h hc => h (by rw [hc]), fun hl => ?_⟩
  have hl : xs.length = ys.length := by omega
  refine go_rounds hmx (fun i σ => i ≤ xs.length ∧ xs.take i = ys.take i ∧ ∃ K, σ = ⟨[(1, .v (.sl 4 (ys.map Func.row))), (2, .v (.fn g [])), (16 - 1, .v (.sl 4 (xs.map Func.row))), (16, .v (.i .i64 xs.length)), (17, .v (.i .i64 (i : Int)))], K⟩) (fun i => xs.length - i) 0 ⟨Nat.zero_le _, rfl, _, rfl⟩ ?_
  rintro i σ ⟨hi, ht, K, rfl⟩
  by_cases hlt : i < xs.length
  · have hly : i < ys.length := hl ▸ hlt
    have hxy := take_eq ht hlt hly
    have hw := wrap_nat (show i < 9223372036854775807 by omega)
    have hgc := hg xs[i] (List.getElem_mem hlt) ys[i] (List.getElem_mem hly)
    generalize hx : xs[i] = x at hxy hgc
    generalize hy : ys[i] = y at hxy hgc
    simp [hlt, hly, hx, hy, hw, Func.row]
    refine callk rfl hcall hgc rfl ?_
    simp
    refine ⟨fun h hc => ?_, fun h => ⟨i + 1, ⟨hlt, hxy.2 h, hw⟩, by omega⟩⟩
    subst hc
    exact h (hx.symm.trans hy)
  · simp [hlt]
    have : i = xs.length := by omega
    rw [this, List.take_length, hl, List.take_length] at ht
    exact ht

theorem sameFunc (x y : Func) (hx : x.Ok) : PureS Try.prog 41 [.g x.row, .g y.row] (.b (decide (x = y))) := by
  refine fun_go hmx Try.func41 r41 s41 (by rw [Try.ntmps41]; simp) ?_
  unfold c41
  simp [Func.row]
  refine callkg rfl Try.call51 rfl (fun _ => equal_51 x.code y.code (hx.few.lt (by decide))) (by simp) rfl ?_
  simp
  refine callkg rfl Try.call52 rfl (fun _ => equalf_52 x.selects y.selects (hx.fews.lt (by decide)) 53 Try.call53 (fun s hs t ht => sameSelect s t (hx.sel s hs).few)) (by simp) rfl ?_
  simp
  obtain ⟨a, b, c, d⟩ := x
  obtain ⟨a', b', c', d'⟩ := y
  simp
  by_cases h1 : a = a' <;> by_cases h2 : b = b' <;> by_cases h3 : c = c' <;> by_cases h4 : d = d' <;> simp [h1, h2, h3, h4]

theorem same (x y : Prog) (hx : x.Ok) : PureS Try.prog 14 [.g x.row, .g y.row] (.b (decide (x = y))) := by
  refine fun_go hmx Try.func14 r14 s14 (by rw [Try.ntmps14]; simp) ?_
  unfold c14
  simp [Prog.row]
  refine callk rfl Try.call38 (equal_38 x.vars y.vars (hx.fewv.lt (by decide))) rfl ?_
  simp
  refine callkg rfl Try.call39 rfl (fun _ => equal_39 x.chans y.chans (hx.fewc.lt (by decide))) (by simp) rfl ?_
  simp
  refine callkg rfl Try.call40 rfl (fun _ => equalf_40 x.funcs y.funcs (hx.fewf.lt (by decide)) 41 Try.call41 (fun s hs t ht => sameFunc s t (hx.funcs s hs))) (by simp) rfl ?_
  simp
  obtain ⟨a, b, c, d⟩ := x
  obtain ⟨a', b', c', d'⟩ := y
  simp
  by_cases h1 : a = a' <;> by_cases h2 : b = b' <;> by_cases h3 : c = c' <;> by_cases h4 : d = d' <;> simp [h1, h2, h3, h4]
end Go.Sc.Q03
