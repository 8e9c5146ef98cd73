/- Chapter 03: how many instructions there are: both texts say the same. No condition. -/
import Derived.Test.YtdjcfjfgdblefaaXT3n
import Derived.Test.YtdjcfjfgdblefaaXScCheck3
set_option linter.constructorNameAsVariable false
namespace Go.Sc.Q03
open Go Go.RowKit Go.Av Go.Proofs
set_option linter.unusedSimpArgs false
set_option linter.unusedVariables false
/-- scarab/prog.Count -/
def c23 : ACode :=
  (.seq (.reg none [⟨some 1, none, .m (.box (.t 0))⟩, ⟨some 2, none, .q (.mv (.c (.i .i64 0)))⟩, ⟨some 3, none, .q (.mv (.c (.i .i64 0)))⟩, ⟨some 4, none, .q (.mv (.c (.i .i64 0)))⟩])
  (.keep [1]
  (.seq (.seq (.reg none [⟨some 14, none, .q (.ld (some 4) (.t 1))⟩, ⟨some 15, none, .call (.f 21) [(.t 14)]⟩, ⟨some 13, none, .q (.mv (.t 15))⟩, ⟨some 16, none, .q (.ext 0 (.t 13))⟩, ⟨some 17, none, .q (.ext 1 (.t 13))⟩, ⟨some 6, none, .m (.alloc (.g [(.i .i64 0), (.i .i64 0)]))⟩, ⟨some 5, none, .q (.mv (.t 16))⟩, ⟨none, none, .m (.st 2 (.t 6) (.t 17))⟩])
    (.keep [1, 5]
    (.seq (.reg none [⟨some 18, none, .q (.mv (.t 5))⟩, ⟨some 19, none, .q (.bin .neq (.t 18) (.c (.i .i64 0)))⟩])
    (.keep [1, 19]
    (.cond (.t 19) (.seq (.reg none [⟨some 2, none, .q (.mv (.c (.i .i64 0)))⟩, ⟨some 3, none, .q (.mv (.c (.i .i64 0)))⟩, ⟨some 4, none, .q (.mv (.c (.i .i64 3)))⟩])
      .ret)
    .skip)))))
  (.seq (.reg none [⟨some 7, none, .q (.mv (.c (.i .i64 0)))⟩, ⟨some 8, none, .q (.mv (.c (.i .i64 0)))⟩])
  (.keep [1, 7, 8]
  (.seq (.seq (.reg none [⟨some 20, none, .q (.fa 3 (.t 1))⟩, ⟨some 21, none, .q (.ld none (.t 20))⟩, ⟨some 22, none, .q (.len false (.t 21))⟩, ⟨some 23, none, .q (.mv (.c (.i .i64 0)))⟩])
    (.keep [7, 8, 21, 22, 23]
    (.blk 0 (.keep [7, 8, 21, 22, 23]
    (.loop (.fin [7, 8, 21, 22, 23]
      (.seq (.reg none [⟨some 24, none, .q (.bin .lss (.t 23) (.t 22))⟩])
      (.keep [7, 8, 21, 22, 23, 24]
      (.seq (.cond (.t 24) .skip
        (.exit 0))
      (.seq (.blk 1 (.seq (.reg none [⟨some 25, none, .q (.ias 4 (.t 21) (.t 23))⟩, ⟨some 26, none, .q (.ld (some 4) (.t 25))⟩, ⟨some 10, none, .m (.alloc (.g [(.i .i64 0), (.i .i64 0), .nil, .nil]))⟩, ⟨none, none, .m (.st 4 (.t 10) (.t 26))⟩])
        (.keep [7, 8, 10, 21, 22, 23]
        (.seq (.reg none [⟨some 27, none, .q (.fa 2 (.t 10))⟩, ⟨some 28, none, .q (.ld none (.t 27))⟩, ⟨some 29, none, .q (.len false (.t 28))⟩, ⟨some 30, none, .q (.mv (.c (.i .i64 0)))⟩])
        (.keep [7, 8, 21, 22, 23, 28, 29, 30]
        (.blk 2 (.keep [7, 8, 21, 22, 23, 28, 29, 30]
        (.loop (.fin [7, 8, 21, 22, 23, 28, 29, 30]
          (.seq (.reg none [⟨some 31, none, .q (.bin .lss (.t 30) (.t 29))⟩])
          (.keep [7, 8, 21, 22, 23, 28, 29, 30, 31]
          (.seq (.cond (.t 31) .skip
            (.exit 2))
          (.seq (.blk 3 (.seq (.reg none [⟨some 32, none, .q (.ias 5 (.t 28) (.t 30))⟩, ⟨some 33, none, .q (.ld (some 5) (.t 32))⟩, ⟨some 12, none, .m (.alloc (.g [(.i .i64 0), (.i .i64 0), (.i .i64 0), (.i .i64 0), (.i .i64 0)]))⟩, ⟨none, none, .m (.st 5 (.t 12) (.t 33))⟩])
            (.keep [7, 8, 12, 21, 22, 23, 28, 29, 30]
            (.seq (.reg none [⟨some 34, none, .q (.mv (.t 7))⟩, ⟨some 35, none, .q (.bin .add (.t 34) (.c (.i .i64 1)))⟩, ⟨some 7, none, .q (.mv (.t 35))⟩])
            (.keep [7, 8, 12, 21, 22, 23, 28, 29, 30]
            (.seq (.reg none [⟨some 36, none, .q (.fa 0 (.t 12))⟩, ⟨some 37, none, .q (.ld none (.t 36))⟩, ⟨some 38, none, .call (.f 19) [(.t 37)]⟩])
            (.keep [7, 8, 21, 22, 23, 28, 29, 30, 38]
            (.cond (.t 38) (.reg none [⟨some 39, none, .q (.mv (.t 8))⟩, ⟨some 40, none, .q (.bin .add (.t 39) (.c (.i .i64 1)))⟩, ⟨some 8, none, .q (.mv (.t 40))⟩])
            .skip))))))))
          (.keep [7, 8, 21, 22, 23, 28, 29, 30]
          (.reg none [⟨some 41, none, .q (.bin .add (.t 30) (.c (.i .i64 1)))⟩, ⟨some 30, none, .q (.mv (.t 41))⟩])))))))))))))))
      (.keep [7, 8, 21, 22, 23]
      (.reg none [⟨some 42, none, .q (.bin .add (.t 23) (.c (.i .i64 1)))⟩, ⟨some 23, none, .q (.mv (.t 42))⟩]))))))))))))
  (.seq (.reg none [⟨some 43, none, .q (.mv (.t 7))⟩, ⟨some 44, none, .q (.mv (.t 8))⟩, ⟨some 2, none, .q (.mv (.t 43))⟩, ⟨some 3, none, .q (.mv (.t 44))⟩, ⟨some 4, none, .q (.mv (.c (.i .i64 0)))⟩])
  .ret)))))))
theorem r23 : (Try.f23.body.bind (resC Try.prog Try.f23.ntmps)) = some (strip c23) := by kernel_rfl
theorem s23 : Try.f23.results.toList.mapM (resRes Try.prog) = some [.t 2, .t 3, .t 4] := by kernel_rfl
/-- scarab/scarabref03.Count -/
def c24 : ACode :=
  (.seq (.reg none [⟨some 1, none, .m (.box (.t 0))⟩, ⟨some 2, none, .q (.mv (.c (.i .i64 0)))⟩, ⟨some 3, none, .q (.mv (.c (.i .i64 0)))⟩, ⟨some 4, none, .q (.mv (.c (.i .i64 0)))⟩])
  (.keep [1]
  (.seq (.seq (.reg none [⟨some 11, none, .q (.ld (some 4) (.t 1))⟩, ⟨some 12, none, .call (.f 22) [(.t 11)]⟩, ⟨some 13, none, .q (.un .not (.t 12))⟩])
    (.keep [1, 13]
    (.cond (.t 13) (.seq (.reg none [⟨some 2, none, .q (.mv (.c (.i .i64 0)))⟩, ⟨some 3, none, .q (.mv (.c (.i .i64 0)))⟩, ⟨some 4, none, .q (.mv (.c (.i .i64 3)))⟩])
      .ret)
    .skip)))
  (.seq (.reg none [⟨some 5, none, .q (.mv (.c (.i .i64 0)))⟩])
  (.keep [1, 5]
  (.seq (.reg none [⟨some 6, none, .q (.mv (.c (.i .i64 0)))⟩])
  (.keep [1, 5, 6]
  (.seq (.seq (.reg none [⟨some 14, none, .q (.fa 3 (.t 1))⟩, ⟨some 15, none, .q (.ld none (.t 14))⟩, ⟨some 16, none, .q (.len false (.t 15))⟩, ⟨some 17, none, .q (.mv (.c (.i .i64 0)))⟩])
    (.keep [5, 6, 15, 16, 17]
    (.blk 0 (.keep [5, 6, 15, 16, 17]
    (.loop (.fin [5, 6, 15, 16, 17]
      (.seq (.reg none [⟨some 18, none, .q (.bin .lss (.t 17) (.t 16))⟩])
      (.keep [5, 6, 15, 16, 17, 18]
      (.seq (.cond (.t 18) .skip
        (.exit 0))
      (.seq (.blk 1 (.seq (.reg none [⟨some 19, none, .q (.ias 4 (.t 15) (.t 17))⟩, ⟨some 20, none, .q (.ld (some 4) (.t 19))⟩, ⟨some 8, none, .m (.alloc (.g [(.i .i64 0), (.i .i64 0), .nil, .nil]))⟩, ⟨none, none, .m (.st 4 (.t 8) (.t 20))⟩])
        (.keep [5, 6, 8, 15, 16, 17]
        (.seq (.reg none [⟨some 21, none, .q (.fa 2 (.t 8))⟩, ⟨some 22, none, .q (.ld none (.t 21))⟩, ⟨some 23, none, .q (.len false (.t 22))⟩, ⟨some 24, none, .q (.mv (.c (.i .i64 0)))⟩])
        (.keep [5, 6, 15, 16, 17, 22, 23, 24]
        (.blk 2 (.keep [5, 6, 15, 16, 17, 22, 23, 24]
        (.loop (.fin [5, 6, 15, 16, 17, 22, 23, 24]
          (.seq (.reg none [⟨some 25, none, .q (.bin .lss (.t 24) (.t 23))⟩])
          (.keep [5, 6, 15, 16, 17, 22, 23, 24, 25]
          (.seq (.cond (.t 25) .skip
            (.exit 2))
          (.seq (.blk 3 (.seq (.reg none [⟨some 26, none, .q (.ias 5 (.t 22) (.t 24))⟩, ⟨some 27, none, .q (.ld (some 5) (.t 26))⟩, ⟨some 10, none, .m (.alloc (.g [(.i .i64 0), (.i .i64 0), (.i .i64 0), (.i .i64 0), (.i .i64 0)]))⟩, ⟨none, none, .m (.st 5 (.t 10) (.t 27))⟩])
            (.keep [5, 6, 10, 15, 16, 17, 22, 23, 24]
            (.seq (.reg none [⟨some 28, none, .q (.mv (.t 5))⟩, ⟨some 29, none, .q (.bin .add (.t 28) (.c (.i .i64 1)))⟩, ⟨some 5, none, .q (.mv (.t 29))⟩])
            (.keep [5, 6, 10, 15, 16, 17, 22, 23, 24]
            (.seq (.reg none [⟨some 30, none, .q (.fa 0 (.t 10))⟩, ⟨some 31, none, .q (.ld none (.t 30))⟩, ⟨some 32, none, .call (.f 20) [(.t 31)]⟩])
            (.keep [5, 6, 15, 16, 17, 22, 23, 24, 32]
            (.cond (.t 32) (.reg none [⟨some 33, none, .q (.mv (.t 6))⟩, ⟨some 34, none, .q (.bin .add (.t 33) (.c (.i .i64 1)))⟩, ⟨some 6, none, .q (.mv (.t 34))⟩])
            .skip))))))))
          (.keep [5, 6, 15, 16, 17, 22, 23, 24]
          (.reg none [⟨some 35, none, .q (.bin .add (.t 24) (.c (.i .i64 1)))⟩, ⟨some 24, none, .q (.mv (.t 35))⟩])))))))))))))))
      (.keep [5, 6, 15, 16, 17]
      (.reg none [⟨some 36, none, .q (.bin .add (.t 17) (.c (.i .i64 1)))⟩, ⟨some 17, none, .q (.mv (.t 36))⟩]))))))))))))
  (.seq (.reg none [⟨some 37, none, .q (.mv (.t 5))⟩, ⟨some 38, none, .q (.mv (.t 6))⟩, ⟨some 2, none, .q (.mv (.t 37))⟩, ⟨some 3, none, .q (.mv (.t 38))⟩, ⟨some 4, none, .q (.mv (.c (.i .i64 0)))⟩])
  .ret)))))))))
theorem r24 : (Try.f24.body.bind (resC Try.prog Try.f24.ntmps)) = some (strip c24) := by kernel_rfl
theorem s24 : Try.f24.results.toList.mapM (resRes Try.prog) = some [.t 2, .t 3, .t 4] := by kernel_rfl
/-- scarab/scarablaw03.small -/
def c25 : ACode :=
  (.seq (.reg none [⟨some 0, none, .q (.mv (.c (.b false)))⟩])
  (.keep []
  (.seq (.reg none [⟨some 6, none, .q (.bld [(.i .i64 0), (.i .i64 0), (.i .i64 0), (.i .i64 0), (.i .i64 0)] [(0, 1, .c (.i .i64 45))])⟩, ⟨some 7, none, .m (.bsl 1 5 [(.i .i64 0), (.i .i64 0), (.i .i64 0), (.i .i64 0), (.i .i64 0)] [(0, 5, .t 6)])⟩, ⟨some 8, none, .q (.bld [(.i .i64 0), (.i .i64 0), .nil, .nil] [(2, 1, .t 7)])⟩, ⟨some 9, none, .m (.bsl 1 4 [(.i .i64 0), (.i .i64 0), .nil, .nil] [(0, 4, .t 8)])⟩, ⟨some 10, none, .q (.bld [.nil, (.i .i64 0), .nil, .nil] [(3, 1, .t 9)])⟩, ⟨some 1, none, .m (.alloc (.g [.nil, (.i .i64 0), .nil, .nil]))⟩, ⟨none, none, .m (.st 4 (.t 1) (.t 10))⟩])
  (.keep [1]
  (.seq (.reg none [⟨some 12, none, .q (.ld (some 4) (.t 1))⟩, ⟨some 13, none, .call (.f 21) [(.t 12)]⟩, ⟨some 11, none, .q (.mv (.t 13))⟩, ⟨some 14, none, .q (.ext 0 (.t 11))⟩, ⟨some 15, none, .q (.ext 1 (.t 11))⟩, ⟨some 3, none, .m (.alloc (.g [(.i .i64 0), (.i .i64 0)]))⟩, ⟨some 2, none, .q (.mv (.t 14))⟩, ⟨none, none, .m (.st 2 (.t 3) (.t 15))⟩])
  (.keep [2]
  (.seq (.reg none [⟨some 17, none, .q (.bld [.nil, (.i .i64 0), .nil, .nil] [])⟩, ⟨some 18, none, .call (.f 21) [(.t 17)]⟩, ⟨some 16, none, .q (.mv (.t 18))⟩, ⟨some 19, none, .q (.ext 0 (.t 16))⟩, ⟨some 20, none, .q (.ext 1 (.t 16))⟩, ⟨some 5, none, .m (.alloc (.g [(.i .i64 0), (.i .i64 0)]))⟩, ⟨some 4, none, .q (.mv (.t 19))⟩, ⟨none, none, .m (.st 2 (.t 5) (.t 20))⟩])
  (.keep [2, 4, 5]
  (.seq (.reg none [⟨some 21, none, .q (.mv (.t 2))⟩, ⟨some 22, none, .q (.bin .eql (.t 21) (.c (.i .i64 0)))⟩, ⟨some 23, none, .q (.mv (.t 22))⟩, ⟨some 24, some (23, true), .q (.mv (.t 4))⟩, ⟨some 25, some (23, true), .q (.bin .eql (.t 24) (.c (.i .i64 30)))⟩, ⟨some 26, none, .pk (.t 23) (.t 25) (.c (.b false))⟩, ⟨some 27, none, .q (.mv (.t 26))⟩, ⟨some 28, some (27, true), .q (.ld (some 2) (.t 5))⟩, ⟨some 29, some (27, true), .q (.bld [(.i .i64 0), (.i .i64 0)] [])⟩, ⟨some 30, some (27, true), .q (.eqg false [.i, .i] (.t 28) (.t 29))⟩, ⟨some 31, none, .pk (.t 27) (.t 30) (.c (.b false))⟩, ⟨some 0, none, .q (.mv (.t 31))⟩])
  .ret)))))))))
theorem r25 : (Try.f25.body.bind (resC Try.prog Try.f25.ntmps)) = some (strip c25) := by kernel_rfl
theorem s25 : Try.f25.results.toList.mapM (resRes Try.prog) = some [.t 0] := by kernel_rfl
/-- scarab/scarablaw03.ProgCounts -/
def c7 : ACode :=
  (.seq (.reg none [⟨some 1, none, .m (.box (.t 0))⟩, ⟨some 2, none, .q (.mv (.c (.b false)))⟩])
  (.keep [1]
  (.seq (.reg none [⟨some 10, none, .q (.ld (some 4) (.t 1))⟩, ⟨some 11, none, .call (.f 23) [(.t 10)]⟩, ⟨some 9, none, .q (.mv (.t 11))⟩, ⟨some 12, none, .q (.ext 0 (.t 9))⟩, ⟨some 13, none, .q (.ext 1 (.t 9))⟩, ⟨some 14, none, .q (.ext 2 (.t 9))⟩, ⟨some 3, none, .q (.mv (.t 12))⟩, ⟨some 4, none, .q (.mv (.t 13))⟩, ⟨some 5, none, .q (.mv (.t 14))⟩])
  (.keep [1, 3, 4, 5]
  (.seq (.reg none [⟨some 16, none, .q (.ld (some 4) (.t 1))⟩, ⟨some 17, none, .call (.f 24) [(.t 16)]⟩, ⟨some 15, none, .q (.mv (.t 17))⟩, ⟨some 18, none, .q (.ext 0 (.t 15))⟩, ⟨some 19, none, .q (.ext 1 (.t 15))⟩, ⟨some 20, none, .q (.ext 2 (.t 15))⟩, ⟨some 6, none, .q (.mv (.t 18))⟩, ⟨some 7, none, .q (.mv (.t 19))⟩, ⟨some 8, none, .q (.mv (.t 20))⟩])
  (.keep [3, 4, 5, 6, 7, 8]
  (.seq (.reg none [⟨some 21, none, .q (.mv (.t 3))⟩, ⟨some 22, none, .q (.mv (.t 6))⟩, ⟨some 23, none, .q (.bin .eql (.t 21) (.t 22))⟩, ⟨some 24, none, .q (.mv (.t 23))⟩, ⟨some 25, some (24, true), .q (.mv (.t 4))⟩, ⟨some 26, some (24, true), .q (.mv (.t 7))⟩, ⟨some 27, some (24, true), .q (.bin .eql (.t 25) (.t 26))⟩, ⟨some 28, none, .pk (.t 24) (.t 27) (.c (.b false))⟩, ⟨some 29, none, .q (.mv (.t 28))⟩, ⟨some 30, some (29, true), .q (.mv (.t 5))⟩, ⟨some 31, some (29, true), .q (.mv (.t 8))⟩, ⟨some 32, some (29, true), .q (.bin .eql (.t 30) (.t 31))⟩, ⟨some 33, none, .pk (.t 29) (.t 32) (.c (.b false))⟩, ⟨some 34, none, .q (.mv (.t 33))⟩, ⟨some 35, some (34, true), .call (.f 25) []⟩, ⟨some 36, none, .pk (.t 34) (.t 35) (.c (.b false))⟩, ⟨some 2, none, .q (.mv (.t 36))⟩])
  .ret)))))))
theorem r7 : (Try.f7.body.bind (resC Try.prog Try.f7.ntmps)) = some (strip c7) := by kernel_rfl
theorem s7 : Try.f7.results.toList.mapM (resRes Try.prog) = some [.t 2] := by kernel_rfl


theorem count23 (p : Prog) (hp : p.Ok) : PureS Try.prog 23 [.g p.row] (if (check p).1 = 0 then .tup [.i .i64 (cnt p).1, .i .i64 (cnt p).2, .i .i64 0] else .tup [.i .i64 0, .i .i64 0, .i .i64 3]) := by
  refine fun_go hmx Try.func23 r23 s23 (by rw [Try.ntmps23]; simp) ?_
  unfold c23
  simp [Prog.row]
  refine callk rfl Try.call21 (check21 p hp) rfl ?_
  simp [told]
  intro h
  rw [if_pos h]
  refine go_rounds hmx (fun i σ => i ≤ p.funcs.length ∧ ∃ K A, A = (p.funcs.take i).foldl cntF (0, 0) ∧ σ = ⟨[(7, .v (.i .i64 A.1)), (8, .v (.i .i64 A.2)), (21, .v (.sl 4 (p.funcs.map Func.row))), (22, .v (.i .i64 p.funcs.length)), (23, .v (.i .i64 (i : Int)))], K⟩) (fun i => p.funcs.length - i) 0 ⟨Nat.zero_le _, _, (0, 0), rfl, rfl⟩ ?_
  rintro i σ ⟨hi, K, A, hA, rfl⟩
  by_cases hlt : i < p.funcs.length
  · have hw := wrap_nat (show i < 9223372036854775807 from Nat.lt_trans hlt (hp.fewf.lt (by decide)))
    have hok := hp.funcs p.funcs[i] (List.getElem_mem hlt)
    have hst := foldl_take (g := cntF) (b := ((0 : Int), (0 : Int))) hlt
    rw [← hA] at hst
    generalize hx' : p.funcs[i] = f at *
    simp [hlt, hx', Func.row]
    refine go_rounds hmx (fun j σ => j ≤ f.code.length ∧ ∃ K B, B = (f.code.take j).foldl cntI A ∧ σ = ⟨[(7, .v (.i .i64 B.1)), (8, .v (.i .i64 B.2)), (21, .v (.sl 4 (p.funcs.map Func.row))), (22, .v (.i .i64 p.funcs.length)), (23, .v (.i .i64 (i : Int))), (28, .v (.sl 5 (f.code.map Instr.row))), (29, .v (.i .i64 f.code.length)), (30, .v (.i .i64 (j : Int)))], K⟩) (fun j => f.code.length - j) 0 ⟨Nat.zero_le _, _, A, rfl, rfl⟩ ?_
    rintro j σ ⟨hj, K', B, hB, rfl⟩
    by_cases hlt2 : j < f.code.length
    · have hw2 := wrap_nat (show j < 9223372036854775807 from Nat.lt_trans hlt2 (hok.few.lt (by decide)))
      have hst2 := foldl_take (g := cntI) (b := A) hlt2
      rw [← hB] at hst2
      generalize hx2 : f.code[j] = x at *
      simp [hlt2, hx2, Instr.row]
      refine callk rfl Try.call19 (visible19 x.op) rfl ?_
      simp
      cases hv : isVisible x.op with
      | true =>
        simp
        exact ⟨j + 1, ⟨hlt2, by rw [hst2]; simp [cntI, hv], by rw [hst2]; simp [cntI, hv], hw2⟩, by omega⟩
      | false =>
        simp
        exact ⟨j + 1, ⟨hlt2, by rw [hst2]; simp [cntI, hv], by rw [hst2]; simp [cntI, hv], hw2⟩, by omega⟩
    · obtain rfl : j = f.code.length := by omega
      rw [List.take_length] at hB
      simp
      exact ⟨i + 1, ⟨hlt, by rw [hst, hB]; rfl, by rw [hst, hB]; rfl, hw⟩, by omega⟩
  · obtain rfl : i = p.funcs.length := by omega
    rw [List.take_length] at hA
    simp [cnt, hA]

theorem count24 (p : Prog) (hp : p.Ok) : PureS Try.prog 24 [.g p.row] (if (check p).1 = 0 then .tup [.i .i64 (cnt p).1, .i .i64 (cnt p).2, .i .i64 0] else .tup [.i .i64 0, .i .i64 0, .i .i64 3]) := by
  refine fun_go hmx Try.func24 r24 s24 (by rw [Try.ntmps24]; simp) ?_
  unfold c24
  simp [Prog.row]
  refine callk rfl Try.call22 (right22 p hp) rfl ?_
  simp
  intro h
  rw [if_pos h]
  refine go_rounds hmx (fun i σ => i ≤ p.funcs.length ∧ ∃ K A, A = (p.funcs.take i).foldl cntF (0, 0) ∧ σ = ⟨[(5, .v (.i .i64 A.1)), (6, .v (.i .i64 A.2)), (15, .v (.sl 4 (p.funcs.map Func.row))), (16, .v (.i .i64 p.funcs.length)), (17, .v (.i .i64 (i : Int)))], K⟩) (fun i => p.funcs.length - i) 0 ⟨Nat.zero_le _, _, (0, 0), rfl, rfl⟩ ?_
  rintro i σ ⟨hi, K, A, hA, rfl⟩
  by_cases hlt : i < p.funcs.length
  · have hw := wrap_nat (show i < 9223372036854775807 from Nat.lt_trans hlt (hp.fewf.lt (by decide)))
    have hok := hp.funcs p.funcs[i] (List.getElem_mem hlt)
    have hst := foldl_take (g := cntF) (b := ((0 : Int), (0 : Int))) hlt
    rw [← hA] at hst
    generalize hx' : p.funcs[i] = f at *
    simp [hlt, hx', Func.row]
    refine go_rounds hmx (fun j σ => j ≤ f.code.length ∧ ∃ K B, B = (f.code.take j).foldl cntI A ∧ σ = ⟨[(5, .v (.i .i64 B.1)), (6, .v (.i .i64 B.2)), (15, .v (.sl 4 (p.funcs.map Func.row))), (16, .v (.i .i64 p.funcs.length)), (17, .v (.i .i64 (i : Int))), (22, .v (.sl 5 (f.code.map Instr.row))), (23, .v (.i .i64 f.code.length)), (24, .v (.i .i64 (j : Int)))], K⟩) (fun j => f.code.length - j) 0 ⟨Nat.zero_le _, _, A, rfl, rfl⟩ ?_
    rintro j σ ⟨hj, K', B, hB, rfl⟩
    by_cases hlt2 : j < f.code.length
    · have hw2 := wrap_nat (show j < 9223372036854775807 from Nat.lt_trans hlt2 (hok.few.lt (by decide)))
      have hst2 := foldl_take (g := cntI) (b := A) hlt2
      rw [← hB] at hst2
      generalize hx2 : f.code[j] = x at *
      simp [hlt2, hx2, Instr.row]
      refine callk rfl Try.call20 (visible20 x.op) rfl ?_
      simp
      cases hv : isVisible x.op with
      | true =>
        simp
        exact ⟨j + 1, ⟨hlt2, by rw [hst2]; simp [cntI, hv], by rw [hst2]; simp [cntI, hv], hw2⟩, by omega⟩
      | false =>
        simp
        exact ⟨j + 1, ⟨hlt2, by rw [hst2]; simp [cntI, hv], by rw [hst2]; simp [cntI, hv], hw2⟩, by omega⟩
    · obtain rfl : j = f.code.length := by omega
      rw [List.take_length] at hB
      simp
      exact ⟨i + 1, ⟨hlt, by rw [hst, hB]; rfl, by rw [hst, hB]; rfl, hw⟩, by omega⟩
  · obtain rfl : i = p.funcs.length := by omega
    rw [List.take_length] at hA
    simp [cnt, hA]

def smallP : Prog := ⟨[], 0, [], [⟨0, 0, [⟨45, 0, 0, 0, 0⟩], []⟩]⟩
def emptyP : Prog := ⟨[], 0, [], []⟩
theorem small_ok : smallP.Ok := by
  refine ⟨by simp [Few, smallP], by simp [smallP], by simp [I64, smallP], by simp [Few, smallP], by simp [smallP], by simp [Few, smallP], ?_⟩
  intro f hf
  simp [smallP] at hf
  subst hf
  refine ⟨by simp [I64], by simp [I64], by simp [Few], by simp [Few], by simp [I64], by simp⟩
theorem empty_ok : emptyP.Ok := ⟨by simp [Few, emptyP], by simp [emptyP], by simp [I64, emptyP], by simp [Few, emptyP], by simp [emptyP], by simp [Few, emptyP], by simp [emptyP]⟩
theorem check_small : check smallP = (0, 0, 0) := by decide +kernel
theorem check_empty : check emptyP = (30, 0, 0) := by decide +kernel

def FrzR (H : List AObj) : List (List RV) → List (List AV) → Prop
  | [], [] => True
  | r :: rs, r' :: rs' => FrzL H r r' ∧ FrzR H rs rs'
  | _, _ => False
theorem FrzR.get {H : List AObj} : ∀ {rs : List (List RV)} {rs' : List (List AV)}, FrzR H rs rs' → rs'.length = rs.length ∧ ∀ (j : Nat) r r', rs[j]? = some r → rs'[j]? = some r' → FrzL H r r'
  | [], [], _ => ⟨rfl, fun j x y h => by simp at h⟩
  | r :: rs, r' :: rs', h => by
    obtain ⟨h1, h2⟩ := h
    obtain ⟨h3, h4⟩ := FrzR.get h2
    refine ⟨by simp [h3], fun j a b ha hb => ?_⟩
    cases j with
    | zero => simp at ha hb; subst ha; subst hb; exact h1
    | succ j => exact h4 j a b (by simpa using ha) (by simpa using hb)
  | [], _ :: _, h => h.elim
  | _ :: _, [], h => h.elim
theorem frz_g {H : List AObj} {cs cs' : List AV} (h : FrzL H (cs.map .v) cs') : Frz H (.v (.g cs)) (.g cs') :=
  .g (by have := h.get.1; simpa using this.symm) (fun j x x' hx hx' => h.get.2 j (.v x) x' (by simp [hx]) hx')
theorem frz_os {H : List AObj} {o ver sz : Nat} {rows : List (List RV)} {rows' : List (List AV)} (h : H[o]? = some (.arr ver sz rows)) (hr : FrzR H rows rows') : Frz H (.os o ver) (.sl sz rows') :=
  .os h hr.get.1 (fun r row row' h1 h2 => ((hr.get.2 r row row' h1 h2).get.1).symm) (fun r row row' j x x' h1 h2 h3 h4 => (hr.get.2 r row row' h1 h2).get.2 j x x' h3 h4)

theorem flat_told (t : Told) : Flat (told t) := by
  refine .tup (fun x hx => ?_)
  simp at hx
  rcases hx with rfl | rfl
  · exact .i _ _
  · refine .g (fun y hy => ?_)
    simp at hy
    rcases hy with rfl | rfl <;> exact .i _ _

theorem small25 : PureS Try.prog 25 [] (.b true) := by
  refine fun_go hmx Try.func25 r25 s25 (by rw [Try.ntmps25]; simp) ?_
  unfold c25
  simp
  refine callz rfl Try.call21 (check21 smallP small_ok) (flat_told _) ⟨frz_gr ⟨.nil 2, .v _, .nil 1, frz_os rfl ⟨⟨.v _, .v _, frz_os rfl ⟨⟨.v _, .v _, .v _, .v _, .v _, trivial⟩, trivial⟩, .nil 2, trivial⟩, trivial⟩, trivial⟩, trivial⟩ ?_
  simp [told, check_small]
  refine callz rfl Try.call21 (check21 emptyP empty_ok) (flat_told _) ⟨frz_g ⟨.nil 2, .v _, .nil 1, .nil 4, trivial⟩, trivial⟩ ?_
  simp [told, check_empty]

theorem progCounts (p : Prog) (hp : p.Ok) : PureS Try.prog 7 [.g p.row] (.b true) := by
  refine fun_go hmx Try.func7 r7 s7 (by rw [Try.ntmps7]; simp) ?_
  unfold c7
  simp [Prog.row]
  refine callk rfl Try.call23 (count23 p hp) rfl ?_
  refine (?_ : ∀ a b c : Int, (if (check p).1 = 0 then AV.tup [.i .i64 (cnt p).1, .i .i64 (cnt p).2, .i .i64 0] else .tup [.i .i64 0, .i .i64 0, .i .i64 3]) = .tup [.i .i64 a, .i .i64 b, .i .i64 c] → _) (if (check p).1 = 0 then (cnt p).1 else 0) (if (check p).1 = 0 then (cnt p).2 else 0) (if (check p).1 = 0 then 0 else 3) (by split <;> rfl)
  intro a b c he
  have h24 := count24 p hp
  rw [he] at h24 ⊢
  simp [Prog.row]
  refine callk rfl Try.call24 h24 rfl ?_
  simp
  refine callkg rfl Try.call25 rfl (fun _ => small25) (by simp) rfl ?_
  simp
end Go.Sc.Q03
