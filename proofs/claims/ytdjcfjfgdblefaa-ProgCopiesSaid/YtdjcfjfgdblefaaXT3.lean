/- Chapter 03: lists, functions, programs are compared. No condition. -/
import Derived.Test.YtdjcfjfgdblefaaXSc
import Derived.Test.YtdjcfjfgdblefaaXWd
import Derived.Test.YtdjcfjfgdblefaaProg
import Derived.KernelRfl
set_option linter.constructorNameAsVariable false
namespace Go.Sc.Q03
open Go Go.RowKit Go.Av Go.Proofs
set_option linter.unusedSimpArgs false
set_option linter.unusedVariables false
theorem hmx : Try.prog.follows .mixedOrders = true := by kernel_rfl
/-- scarab/scarabref03.sameFunc -/
def c37 : ACode :=
  (.seq (.reg none [⟨some 2, none, .m (.box (.t 0))⟩, ⟨some 3, none, .m (.box (.t 1))⟩, ⟨some 4, none, .q (.mv (.c (.b false)))⟩])
  (.keep [2, 3]
  (.seq (.seq (.reg none [⟨some 10, none, .q (.fa 0 (.t 2))⟩, ⟨some 11, none, .q (.ld none (.t 10))⟩, ⟨some 12, none, .q (.fa 0 (.t 3))⟩, ⟨some 13, none, .q (.ld none (.t 12))⟩, ⟨some 14, none, .q (.bin .neq (.t 11) (.t 13))⟩, ⟨some 15, none, .q (.mv (.t 14))⟩, ⟨some 16, some (15, false), .q (.fa 1 (.t 2))⟩, ⟨some 17, some (15, false), .q (.ld none (.t 16))⟩, ⟨some 18, some (15, false), .q (.fa 1 (.t 3))⟩, ⟨some 19, some (15, false), .q (.ld none (.t 18))⟩, ⟨some 20, some (15, false), .q (.bin .neq (.t 17) (.t 19))⟩, ⟨some 21, none, .pk (.t 15) (.c (.b true)) (.t 20)⟩, ⟨some 22, none, .q (.mv (.t 21))⟩, ⟨some 23, some (22, false), .q (.fa 2 (.t 2))⟩, ⟨some 24, some (22, false), .q (.ld none (.t 23))⟩, ⟨some 25, some (22, false), .q (.len false (.t 24))⟩, ⟨some 26, some (22, false), .q (.fa 2 (.t 3))⟩, ⟨some 27, some (22, false), .q (.ld none (.t 26))⟩, ⟨some 28, some (22, false), .q (.len false (.t 27))⟩, ⟨some 29, some (22, false), .q (.bin .neq (.t 25) (.t 28))⟩, ⟨some 30, none, .pk (.t 22) (.c (.b true)) (.t 29)⟩, ⟨some 31, none, .q (.mv (.t 30))⟩, ⟨some 32, some (31, false), .q (.fa 3 (.t 2))⟩, ⟨some 33, some (31, false), .q (.ld none (.t 32))⟩, ⟨some 34, some (31, false), .q (.len false (.t 33))⟩, ⟨some 35, some (31, false), .q (.fa 3 (.t 3))⟩, ⟨some 36, some (31, false), .q (.ld none (.t 35))⟩, ⟨some 37, some (31, false), .q (.len false (.t 36))⟩, ⟨some 38, some (31, false), .q (.bin .neq (.t 34) (.t 37))⟩, ⟨some 39, none, .pk (.t 31) (.c (.b true)) (.t 38)⟩])
    (.keep [2, 3, 39]
    (.cond (.t 39) (.seq (.reg none [⟨some 4, none, .q (.mv (.c (.b false)))⟩])
      .ret)
    .skip)))
  (.seq (.seq (.reg none [⟨some 40, none, .q (.fa 2 (.t 2))⟩, ⟨some 41, none, .q (.ld none (.t 40))⟩, ⟨some 42, none, .q (.len false (.t 41))⟩, ⟨some 43, none, .q (.mv (.c (.i .i64 0)))⟩])
    (.keep [2, 3, 42, 43]
    (.blk 0 (.keep [2, 3, 42, 43]
    (.loop (.fin [2, 3, 42, 43]
      (.seq (.reg none [⟨some 44, none, .q (.bin .lss (.t 43) (.t 42))⟩])
      (.keep [2, 3, 42, 43, 44]
      (.seq (.cond (.t 44) .skip
        (.exit 0))
      (.seq (.blk 1 (.seq (.reg none [⟨some 45, none, .q (.mv (.t 43))⟩, ⟨some 5, none, .q (.mv (.t 45))⟩])
        (.keep [2, 3, 5, 42, 43]
        (.seq (.reg (some (11, [])) [⟨some 46, none, .q (.fa 2 (.t 2))⟩, ⟨some 47, none, .q (.ld none (.t 46))⟩, ⟨some 48, none, .q (.mv (.t 5))⟩, ⟨some 49, none, .q (.ias 5 (.t 47) (.t 48))⟩, ⟨some 50, none, .q (.ld (some 5) (.t 49))⟩, ⟨some 51, none, .q (.fa 2 (.t 3))⟩, ⟨some 52, none, .q (.ld none (.t 51))⟩, ⟨some 53, none, .q (.mv (.t 5))⟩, ⟨some 54, none, .q (.ias 5 (.t 52) (.t 53))⟩, ⟨some 55, none, .q (.ld (some 5) (.t 54))⟩, ⟨some 56, none, .q (.eqg true [.i, .i, .i, .i, .i] (.t 50) (.t 55))⟩])
        (.keep [2, 3, 42, 43, 56]
        (.cond (.t 56) (.seq (.reg none [⟨some 4, none, .q (.mv (.c (.b false)))⟩])
          .ret)
        .skip))))))
      (.keep [2, 3, 42, 43]
      (.reg none [⟨some 57, none, .q (.bin .add (.t 43) (.c (.i .i64 1)))⟩, ⟨some 43, none, .q (.mv (.t 57))⟩]))))))))))))
  (.seq (.seq (.reg none [⟨some 58, none, .q (.fa 3 (.t 2))⟩, ⟨some 59, none, .q (.ld none (.t 58))⟩, ⟨some 60, none, .q (.len false (.t 59))⟩, ⟨some 61, none, .q (.mv (.c (.i .i64 0)))⟩])
    (.keep [2, 3, 60, 61]
    (.blk 2 (.keep [2, 3, 60, 61]
    (.loop (.fin [2, 3, 60, 61]
      (.seq (.reg none [⟨some 62, none, .q (.bin .lss (.t 61) (.t 60))⟩])
      (.keep [2, 3, 60, 61, 62]
      (.seq (.cond (.t 62) .skip
        (.exit 2))
      (.seq (.blk 3 (.seq (.reg none [⟨some 63, none, .q (.mv (.t 61))⟩, ⟨some 6, none, .q (.mv (.t 63))⟩])
        (.keep [2, 3, 6, 60, 61]
        (.seq (.reg none [⟨some 64, none, .q (.fa 3 (.t 2))⟩, ⟨some 65, none, .q (.ld none (.t 64))⟩, ⟨some 66, none, .q (.mv (.t 6))⟩, ⟨some 67, none, .q (.ias 2 (.t 65) (.t 66))⟩, ⟨some 68, none, .q (.ld (some 2) (.t 67))⟩, ⟨some 7, none, .m (.alloc (.g [.nil, (.i .i64 0)]))⟩, ⟨none, none, .m (.st 2 (.t 7) (.t 68))⟩])
        (.keep [2, 3, 6, 7, 60, 61]
        (.seq (.reg none [⟨some 69, none, .q (.fa 3 (.t 3))⟩, ⟨some 70, none, .q (.ld none (.t 69))⟩, ⟨some 71, none, .q (.mv (.t 6))⟩, ⟨some 72, none, .q (.ias 2 (.t 70) (.t 71))⟩, ⟨some 73, none, .q (.ld (some 2) (.t 72))⟩, ⟨some 8, none, .m (.alloc (.g [.nil, (.i .i64 0)]))⟩, ⟨none, none, .m (.st 2 (.t 8) (.t 73))⟩])
        (.keep [2, 3, 7, 8, 60, 61]
        (.seq (.seq (.reg none [⟨some 74, none, .q (.fa 1 (.t 7))⟩, ⟨some 75, none, .q (.ld none (.t 74))⟩, ⟨some 76, none, .q (.fa 1 (.t 8))⟩, ⟨some 77, none, .q (.ld none (.t 76))⟩, ⟨some 78, none, .q (.bin .neq (.t 75) (.t 77))⟩, ⟨some 79, none, .q (.mv (.t 78))⟩, ⟨some 80, some (79, false), .q (.fa 0 (.t 7))⟩, ⟨some 81, some (79, false), .q (.ld none (.t 80))⟩, ⟨some 82, some (79, false), .q (.len false (.t 81))⟩, ⟨some 83, some (79, false), .q (.fa 0 (.t 8))⟩, ⟨some 84, some (79, false), .q (.ld none (.t 83))⟩, ⟨some 85, some (79, false), .q (.len false (.t 84))⟩, ⟨some 86, some (79, false), .q (.bin .neq (.t 82) (.t 85))⟩, ⟨some 87, none, .pk (.t 79) (.c (.b true)) (.t 86)⟩])
          (.keep [2, 3, 7, 8, 60, 61, 87]
          (.cond (.t 87) (.seq (.reg none [⟨some 4, none, .q (.mv (.c (.b false)))⟩])
            .ret)
          .skip)))
        (.seq (.reg none [⟨some 88, none, .q (.fa 0 (.t 7))⟩, ⟨some 89, none, .q (.ld none (.t 88))⟩, ⟨some 90, none, .q (.len false (.t 89))⟩, ⟨some 91, none, .q (.mv (.c (.i .i64 0)))⟩])
        (.keep [2, 3, 7, 8, 60, 61, 90, 91]
        (.blk 4 (.keep [2, 3, 7, 8, 60, 61, 90, 91]
        (.loop (.fin [2, 3, 7, 8, 60, 61, 90, 91]
          (.seq (.reg none [⟨some 92, none, .q (.bin .lss (.t 91) (.t 90))⟩])
          (.keep [2, 3, 7, 8, 60, 61, 90, 91, 92]
          (.seq (.cond (.t 92) .skip
            (.exit 4))
          (.seq (.blk 5 (.seq (.reg none [⟨some 93, none, .q (.mv (.t 91))⟩, ⟨some 9, none, .q (.mv (.t 93))⟩])
            (.keep [2, 3, 7, 8, 9, 60, 61, 90, 91]
            (.seq (.reg (some (11, [])) [⟨some 94, none, .q (.fa 0 (.t 7))⟩, ⟨some 95, none, .q (.ld none (.t 94))⟩, ⟨some 96, none, .q (.mv (.t 9))⟩, ⟨some 97, none, .q (.ias 4 (.t 95) (.t 96))⟩, ⟨some 98, none, .q (.ld (some 4) (.t 97))⟩, ⟨some 99, none, .q (.fa 0 (.t 8))⟩, ⟨some 100, none, .q (.ld none (.t 99))⟩, ⟨some 101, none, .q (.mv (.t 9))⟩, ⟨some 102, none, .q (.ias 4 (.t 100) (.t 101))⟩, ⟨some 103, none, .q (.ld (some 4) (.t 102))⟩, ⟨some 104, none, .q (.eqg true [.b, .i, .i, .i] (.t 98) (.t 103))⟩])
            (.keep [2, 3, 7, 8, 60, 61, 90, 91, 104]
            (.cond (.t 104) (.seq (.reg none [⟨some 4, none, .q (.mv (.c (.b false)))⟩])
              .ret)
            .skip))))))
          (.keep [2, 3, 7, 8, 60, 61, 90, 91]
          (.reg none [⟨some 105, none, .q (.bin .add (.t 91) (.c (.i .i64 1)))⟩, ⟨some 91, none, .q (.mv (.t 105))⟩]))))))))))))))))))))
      (.keep [2, 3, 60, 61]
      (.reg none [⟨some 106, none, .q (.bin .add (.t 61) (.c (.i .i64 1)))⟩, ⟨some 61, none, .q (.mv (.t 106))⟩]))))))))))))
  (.seq (.reg none [⟨some 4, none, .q (.mv (.c (.b true)))⟩])
  .ret))))))
theorem r37 : (Try.f37.body.bind (resC Try.prog Try.f37.ntmps)) = some (strip c37) := by kernel_rfl
theorem s37 : Try.f37.results.toList.mapM (resRes Try.prog) = some [.t 4] := by kernel_rfl
/-- scarab/scarabref03.Same -/
def c12 : ACode :=
  (.seq (.reg none [⟨some 2, none, .m (.box (.t 0))⟩, ⟨some 3, none, .m (.box (.t 1))⟩, ⟨some 4, none, .q (.mv (.c (.b false)))⟩])
  (.keep [2, 3]
  (.seq (.seq (.reg none [⟨some 8, none, .q (.fa 0 (.t 2))⟩, ⟨some 9, none, .q (.ld none (.t 8))⟩, ⟨some 10, none, .q (.len false (.t 9))⟩, ⟨some 11, none, .q (.fa 0 (.t 3))⟩, ⟨some 12, none, .q (.ld none (.t 11))⟩, ⟨some 13, none, .q (.len false (.t 12))⟩, ⟨some 14, none, .q (.bin .neq (.t 10) (.t 13))⟩, ⟨some 15, none, .q (.mv (.t 14))⟩, ⟨some 16, some (15, false), .q (.fa 1 (.t 2))⟩, ⟨some 17, some (15, false), .q (.ld none (.t 16))⟩, ⟨some 18, some (15, false), .q (.fa 1 (.t 3))⟩, ⟨some 19, some (15, false), .q (.ld none (.t 18))⟩, ⟨some 20, some (15, false), .q (.bin .neq (.t 17) (.t 19))⟩, ⟨some 21, none, .pk (.t 15) (.c (.b true)) (.t 20)⟩, ⟨some 22, none, .q (.mv (.t 21))⟩, ⟨some 23, some (22, false), .q (.fa 2 (.t 2))⟩, ⟨some 24, some (22, false), .q (.ld none (.t 23))⟩, ⟨some 25, some (22, false), .q (.len false (.t 24))⟩, ⟨some 26, some (22, false), .q (.fa 2 (.t 3))⟩, ⟨some 27, some (22, false), .q (.ld none (.t 26))⟩, ⟨some 28, some (22, false), .q (.len false (.t 27))⟩, ⟨some 29, some (22, false), .q (.bin .neq (.t 25) (.t 28))⟩, ⟨some 30, none, .pk (.t 22) (.c (.b true)) (.t 29)⟩, ⟨some 31, none, .q (.mv (.t 30))⟩, ⟨some 32, some (31, false), .q (.fa 3 (.t 2))⟩, ⟨some 33, some (31, false), .q (.ld none (.t 32))⟩, ⟨some 34, some (31, false), .q (.len false (.t 33))⟩, ⟨some 35, some (31, false), .q (.fa 3 (.t 3))⟩, ⟨some 36, some (31, false), .q (.ld none (.t 35))⟩, ⟨some 37, some (31, false), .q (.len false (.t 36))⟩, ⟨some 38, some (31, false), .q (.bin .neq (.t 34) (.t 37))⟩, ⟨some 39, none, .pk (.t 31) (.c (.b true)) (.t 38)⟩])
    (.keep [2, 3, 39]
    (.cond (.t 39) (.seq (.reg none [⟨some 4, none, .q (.mv (.c (.b false)))⟩])
      .ret)
    .skip)))
  (.seq (.seq (.reg none [⟨some 40, none, .q (.fa 0 (.t 2))⟩, ⟨some 41, none, .q (.ld none (.t 40))⟩, ⟨some 42, none, .q (.len false (.t 41))⟩, ⟨some 43, none, .q (.mv (.c (.i .i64 0)))⟩])
    (.keep [2, 3, 42, 43]
    (.blk 0 (.keep [2, 3, 42, 43]
    (.loop (.fin [2, 3, 42, 43]
      (.seq (.reg none [⟨some 44, none, .q (.bin .lss (.t 43) (.t 42))⟩])
      (.keep [2, 3, 42, 43, 44]
      (.seq (.cond (.t 44) .skip
        (.exit 0))
      (.seq (.blk 1 (.seq (.reg none [⟨some 45, none, .q (.mv (.t 43))⟩, ⟨some 5, none, .q (.mv (.t 45))⟩])
        (.keep [2, 3, 5, 42, 43]
        (.seq (.reg (some (11, [])) [⟨some 46, none, .q (.fa 0 (.t 2))⟩, ⟨some 47, none, .q (.ld none (.t 46))⟩, ⟨some 48, none, .q (.mv (.t 5))⟩, ⟨some 49, none, .q (.ias 2 (.t 47) (.t 48))⟩, ⟨some 50, none, .q (.ld (some 2) (.t 49))⟩, ⟨some 51, none, .q (.fa 0 (.t 3))⟩, ⟨some 52, none, .q (.ld none (.t 51))⟩, ⟨some 53, none, .q (.mv (.t 5))⟩, ⟨some 54, none, .q (.ias 2 (.t 52) (.t 53))⟩, ⟨some 55, none, .q (.ld (some 2) (.t 54))⟩, ⟨some 56, none, .q (.eqg true [.b, .i] (.t 50) (.t 55))⟩])
        (.keep [2, 3, 42, 43, 56]
        (.cond (.t 56) (.seq (.reg none [⟨some 4, none, .q (.mv (.c (.b false)))⟩])
          .ret)
        .skip))))))
      (.keep [2, 3, 42, 43]
      (.reg none [⟨some 57, none, .q (.bin .add (.t 43) (.c (.i .i64 1)))⟩, ⟨some 43, none, .q (.mv (.t 57))⟩]))))))))))))
  (.seq (.seq (.reg none [⟨some 58, none, .q (.fa 2 (.t 2))⟩, ⟨some 59, none, .q (.ld none (.t 58))⟩, ⟨some 60, none, .q (.len false (.t 59))⟩, ⟨some 61, none, .q (.mv (.c (.i .i64 0)))⟩])
    (.keep [2, 3, 60, 61]
    (.blk 2 (.keep [2, 3, 60, 61]
    (.loop (.fin [2, 3, 60, 61]
      (.seq (.reg none [⟨some 62, none, .q (.bin .lss (.t 61) (.t 60))⟩])
      (.keep [2, 3, 60, 61, 62]
      (.seq (.cond (.t 62) .skip
        (.exit 2))
      (.seq (.blk 3 (.seq (.reg none [⟨some 63, none, .q (.mv (.t 61))⟩, ⟨some 6, none, .q (.mv (.t 63))⟩])
        (.keep [2, 3, 6, 60, 61]
        (.seq (.reg (some (11, [])) [⟨some 64, none, .q (.fa 2 (.t 2))⟩, ⟨some 65, none, .q (.ld none (.t 64))⟩, ⟨some 66, none, .q (.mv (.t 6))⟩, ⟨some 67, none, .q (.ias 1 (.t 65) (.t 66))⟩, ⟨some 68, none, .q (.ld none (.t 67))⟩, ⟨some 69, none, .q (.fa 2 (.t 3))⟩, ⟨some 70, none, .q (.ld none (.t 69))⟩, ⟨some 71, none, .q (.mv (.t 6))⟩, ⟨some 72, none, .q (.ias 1 (.t 70) (.t 71))⟩, ⟨some 73, none, .q (.ld none (.t 72))⟩, ⟨some 74, none, .q (.bin .neq (.t 68) (.t 73))⟩])
        (.keep [2, 3, 60, 61, 74]
        (.cond (.t 74) (.seq (.reg none [⟨some 4, none, .q (.mv (.c (.b false)))⟩])
          .ret)
        .skip))))))
      (.keep [2, 3, 60, 61]
      (.reg none [⟨some 75, none, .q (.bin .add (.t 61) (.c (.i .i64 1)))⟩, ⟨some 61, none, .q (.mv (.t 75))⟩]))))))))))))
  (.seq (.seq (.reg none [⟨some 76, none, .q (.fa 3 (.t 2))⟩, ⟨some 77, none, .q (.ld none (.t 76))⟩, ⟨some 78, none, .q (.len false (.t 77))⟩, ⟨some 79, none, .q (.mv (.c (.i .i64 0)))⟩])
    (.keep [2, 3, 78, 79]
    (.blk 4 (.keep [2, 3, 78, 79]
    (.loop (.fin [2, 3, 78, 79]
      (.seq (.reg none [⟨some 80, none, .q (.bin .lss (.t 79) (.t 78))⟩])
      (.keep [2, 3, 78, 79, 80]
      (.seq (.cond (.t 80) .skip
        (.exit 4))
      (.seq (.blk 5 (.seq (.reg none [⟨some 81, none, .q (.mv (.t 79))⟩, ⟨some 7, none, .q (.mv (.t 81))⟩])
        (.keep [2, 3, 7, 78, 79]
        (.seq (.reg (some (10, [])) [⟨some 82, none, .q (.fa 3 (.t 2))⟩, ⟨some 83, none, .q (.ld none (.t 82))⟩, ⟨some 84, none, .q (.mv (.t 7))⟩, ⟨some 85, none, .q (.ias 4 (.t 83) (.t 84))⟩, ⟨some 86, none, .q (.ld (some 4) (.t 85))⟩, ⟨some 87, none, .q (.fa 3 (.t 3))⟩, ⟨some 88, none, .q (.ld none (.t 87))⟩, ⟨some 89, none, .q (.mv (.t 7))⟩, ⟨some 90, none, .q (.ias 4 (.t 88) (.t 89))⟩, ⟨some 91, none, .q (.ld (some 4) (.t 90))⟩, ⟨some 92, none, .call (.f 37) [(.t 86), (.t 91)]⟩, ⟨some 93, none, .q (.un .not (.t 92))⟩])
        (.keep [2, 3, 78, 79, 93]
        (.cond (.t 93) (.seq (.reg none [⟨some 4, none, .q (.mv (.c (.b false)))⟩])
          .ret)
        .skip))))))
      (.keep [2, 3, 78, 79]
      (.reg none [⟨some 94, none, .q (.bin .add (.t 79) (.c (.i .i64 1)))⟩, ⟨some 79, none, .q (.mv (.t 94))⟩]))))))))))))
  (.seq (.reg none [⟨some 4, none, .q (.mv (.c (.b true)))⟩])
  .ret)))))))
theorem r12 : (Try.f12.body.bind (resC Try.prog Try.f12.ntmps)) = some (strip c12) := by kernel_rfl
theorem s12 : Try.f12.results.toList.mapM (resRes Try.prog) = some [.t 4] := by kernel_rfl

theorem refSame (x y : Prog) (hx : x.Ok) (hs : ∀ f ∈ x.funcs, ∀ g ∈ y.funcs, PureS Try.prog 37 [.g f.row, .g g.row] (.b (decide (f = g)))) : PureS Try.prog 12 [.g x.row, .g y.row] (.b (decide (x = y))) := by
  refine fun_go hmx Try.func12 r12 s12 (by rw [Try.ntmps12]; simp) ?_
  unfold c12
  simp [Prog.row]
  constructor
  · rintro (((h | h) | h) | h) rfl <;> exact h rfl
  intro l1 l2 l3 l4
  replace l1 : x.vars.length = y.vars.length := by omega
  replace l3 : x.chans.length = y.chans.length := by omega
  replace l4 : x.funcs.length = y.funcs.length := by omega
  refine go_rounds hmx (fun i σ => i ≤ x.vars.length ∧ x.vars.take i = y.vars.take i ∧ σ = ⟨[(2, .pt 0 0 0 0), (3, .pt 1 0 0 0), (42, .v (.i .i64 x.vars.length)), (43, .v (.i .i64 (i : Int)))], [AObj.var (x.row.map .v), AObj.var (y.row.map .v)]⟩) (fun i => x.vars.length - i) 0 ⟨Nat.zero_le _, rfl, rfl⟩ ?_
  rintro i σ ⟨hi, ht, rfl⟩
  by_cases hlt : i < x.vars.length
  · have hly : i < y.vars.length := l1 ▸ hlt
    have hxy := take_eq ht hlt hly
    have hw := wrap_nat (show i < 9223372036854775807 from Nat.lt_trans hlt (hx.fewv.lt (by decide)))
    generalize hx' : x.vars[i] = a at *
    generalize hy' : y.vars[i] = b at *
    simp [hlt, hly, hx', hy', hw, Prog.row]
    refine ⟨fun h hc => ?_, fun h => ⟨i + 1, ⟨hlt, hxy.2 h, rfl⟩, by omega⟩⟩
    subst hc
    exact h (hx'.symm.trans hy')
  have e1 := eq_of_take ht hi hlt l1
  simp [hlt, Prog.row]
  refine go_rounds hmx (fun i σ => i ≤ x.chans.length ∧ x.chans.take i = y.chans.take i ∧ σ = ⟨[(2, .pt 0 0 0 0), (3, .pt 1 0 0 0), (60, .v (.i .i64 x.chans.length)), (61, .v (.i .i64 (i : Int)))], [AObj.var (x.row.map .v), AObj.var (y.row.map .v)]⟩) (fun i => x.chans.length - i) 0 ⟨Nat.zero_le _, rfl, rfl⟩ ?_
  rintro i σ ⟨hi, ht, rfl⟩
  by_cases hlt : i < x.chans.length
  · have hly : i < y.chans.length := l3 ▸ hlt
    have hxy := take_eq ht hlt hly
    have hw := wrap_nat (show i < 9223372036854775807 from Nat.lt_trans hlt (hx.fewc.lt (by decide)))
    generalize hx' : x.chans[i] = a at *
    generalize hy' : y.chans[i] = b at *
    simp [hlt, hly, hx', hy', hw, Prog.row, irow]
    refine ⟨fun h hc => ?_, fun h => ⟨i + 1, ⟨hlt, hxy.2 h, rfl⟩, by omega⟩⟩
    subst hc
    exact h (hx'.symm.trans hy')
  have e2 := eq_of_take ht hi hlt l3
  simp [hlt, Prog.row]
  refine go_rounds hmx (fun i σ => i ≤ x.funcs.length ∧ x.funcs.take i = y.funcs.take i ∧ σ = ⟨[(2, .pt 0 0 0 0), (3, .pt 1 0 0 0), (78, .v (.i .i64 x.funcs.length)), (79, .v (.i .i64 (i : Int)))], [AObj.var (x.row.map .v), AObj.var (y.row.map .v)]⟩) (fun i => x.funcs.length - i) 0 ⟨Nat.zero_le _, rfl, rfl⟩ ?_
  rintro i σ ⟨hi, ht, rfl⟩
  by_cases hlt : i < x.funcs.length
  · have hly : i < y.funcs.length := l4 ▸ hlt
    have hxy := take_eq ht hlt hly
    have hw := wrap_nat (show i < 9223372036854775807 from Nat.lt_trans hlt (hx.fewf.lt (by decide)))
    have hsc := hs x.funcs[i] (List.getElem_mem hlt) y.funcs[i] (List.getElem_mem hly)
    generalize hx' : x.funcs[i] = a at *
    generalize hy' : y.funcs[i] = b at *
    simp [hlt, hly, hx', hy', hw, Prog.row]
    refine callk rfl Try.call37 hsc rfl ?_
    simp
    refine ⟨fun h hc => ?_, fun h => ⟨i + 1, ⟨hlt, hxy.2 h, hw⟩, by omega⟩⟩
    subst hc
    exact h (hx'.symm.trans hy')
  have e3 := eq_of_take ht hi hlt l4
  simp [hlt]
  obtain ⟨a, b, c, d⟩ := x
  obtain ⟨a', b', c', d'⟩ := y
  simp at *
  exact ⟨e1, l2, e2, e3⟩
end Go.Sc.Q03
/- Chapter 03: lists, functions, programs are compared. No condition. -/
set_option linter.constructorNameAsVariable false
namespace Go.Sc.Q03
open Go Go.RowKit Go.Av Go.Proofs
set_option linter.unusedSimpArgs false
set_option linter.unusedVariables false

theorem refSameFunc (x y : Func) (hx : x.Ok) : PureS Try.prog 37 [.g x.row, .g y.row] (.b (decide (x = y))) := by
  refine fun_go hmx Try.func37 r37 s37 (by rw [Try.ntmps37]; simp) ?_
  unfold c37
  simp [Func.row]
  constructor
  · rintro (((h | h) | h) | h) rfl <;> exact h rfl
  intro l1 l2 l3 l4
  replace l3 : x.code.length = y.code.length := by omega
  replace l4 : x.selects.length = y.selects.length := by omega
  refine go_count hmx 43 0 x.code.length (fun i hp => hp = [AObj.var (x.row.map .v), AObj.var (y.row.map .v)] ∧ x.code.take i = y.code.take i) (Nat.zero_le _) (hx.few.lt (by decide)) rfl ⟨rfl, rfl⟩ ?_ ?_
  · rintro i hp - hlt ⟨rfl, ht⟩ hw
    have hly : i < y.code.length := l3 ▸ hlt
    have hxy := take_eq ht hlt hly
    generalize hx' : x.code[i] = a at *
    generalize hy' : y.code[i] = b at *
    simp [hlt, hly, hx', hy', hw, Func.row]
    refine ⟨fun h hc => ?_, fun h => hxy.2 h⟩
    subst hc
    exact h (hx'.symm.trans hy')
  rintro hp ⟨rfl, ht⟩
  have e1 := eq_of_take ht (Nat.le_refl _) (Nat.lt_irrefl _) l3
  simp [Func.row]
  refine go_count hmx 61 0 x.selects.length (fun i hp => (∃ K, hp = AObj.var (x.row.map .v) :: AObj.var (y.row.map .v) :: K) ∧ x.selects.take i = y.selects.take i) (Nat.zero_le _) (hx.fews.lt (by decide)) rfl ⟨⟨_, rfl⟩, rfl⟩ ?_ ?_
  · rintro i hp - hlt ⟨⟨K, rfl⟩, ht⟩ hw
    have hly : i < y.selects.length := l4 ▸ hlt
    have hxy := take_eq ht hlt hly
    have hok := hx.sel x.selects[i] (List.getElem_mem hlt)
    generalize hx' : x.selects[i] = a at *
    generalize hy' : y.selects[i] = b at *
    simp [hlt, hly, hx', hy', hw, Func.row, Select.row]
    constructor
    · intro h hc
      subst hc
      obtain rfl := hx'.symm.trans hy'
      rcases h with h | h <;> exact h rfl
    intro k1 k2
    replace k2 : a.cases.length = b.cases.length := by omega
    refine go_count hmx 91 0 a.cases.length (fun j hp => hp = _ ∧ a.cases.take j = b.cases.take j) (Nat.zero_le _) (hok.few.lt (by decide)) rfl ⟨rfl, rfl⟩ ?_ ?_
    · rintro j hp - hlt2 ⟨rfl, ht2⟩ hw2
      have hly2 : j < b.cases.length := k2 ▸ hlt2
      have hxy2 := take_eq ht2 hlt2 hly2
      generalize hx2 : a.cases[j] = u at *
      generalize hy2 : b.cases[j] = v at *
      simp [hlt2, hly2, hx2, hy2, hw2]
      refine ⟨fun h hc => ?_, fun h => hxy2.2 h⟩
      subst hc
      obtain rfl := hx'.symm.trans hy'
      exact h (hx2.symm.trans hy2)
    rintro hp ⟨rfl, ht2⟩
    have e3 := eq_of_take ht2 (Nat.le_refl _) (Nat.lt_irrefl _) k2
    simp [hw, Func.row]
    refine hxy.2 ?_
    cases a; cases b; simp at *; exact ⟨e3, k1⟩
  rintro hp ⟨⟨K, rfl⟩, ht⟩
  have e2 := eq_of_take ht (Nat.le_refl _) (Nat.lt_irrefl _) l4
  simp
  obtain ⟨a, b, c, d⟩ := x
  obtain ⟨a', b', c', d'⟩ := y
  simp at *
  exact ⟨l1, l2, e1, e2⟩
end Go.Sc.Q03
/- Chapter 03: lists, functions, programs are compared. No condition. -/
set_option linter.constructorNameAsVariable false
namespace Go.Sc.Q03
open Go Go.RowKit Go.Av Go.Proofs
set_option linter.unusedSimpArgs false
set_option linter.unusedVariables false

/-- scarab/scarabplain.Prog -/
def c10 : ACode :=
  (.seq (.reg none [⟨some 1, none, .m (.box (.t 0))⟩, ⟨some 2, none, .m (.alloc (.g [.nil, (.i .i64 0), .nil, .nil]))⟩])
  (.keep [1, 2]
  (.seq (.reg none [⟨some 3, none, .m (.alloc (.g [.nil, (.i .i64 0), .nil, .nil]))⟩])
  (.gst (.nilC 3 3 4)
  (.keep [1, 2, 3]
  (.seq (.reg none [⟨some 10, none, .q (.fa 1 (.t 1))⟩, ⟨some 11, none, .q (.ld none (.t 10))⟩, ⟨some 12, none, .q (.fa 1 (.t 3))⟩, ⟨none, none, .m (.st 1 (.t 12) (.t 11))⟩])
  (.keep [1, 2, 3]
  (.seq (.reg none [⟨some 13, none, .q (.fa 0 (.t 3))⟩, ⟨some 14, none, .q (.ld none (.t 13))⟩, ⟨some 15, none, .q (.fa 0 (.t 1))⟩, ⟨some 16, none, .q (.ld none (.t 15))⟩, ⟨some 17, none, .m (.app 2 16 (.t 14) (.t 16))⟩, ⟨some 18, none, .q (.fa 0 (.t 3))⟩, ⟨none, none, .m (.st 1 (.t 18) (.t 17))⟩])
  (.keep [1, 2, 3]
  (.seq (.reg none [⟨some 19, none, .q (.fa 2 (.t 3))⟩, ⟨some 20, none, .q (.ld none (.t 19))⟩, ⟨some 21, none, .q (.fa 2 (.t 1))⟩, ⟨some 22, none, .q (.ld none (.t 21))⟩, ⟨some 23, none, .m (.app 1 8 (.t 20) (.t 22))⟩, ⟨some 24, none, .q (.fa 2 (.t 3))⟩, ⟨none, none, .m (.st 1 (.t 24) (.t 23))⟩])
  (.keep [1, 2, 3]
  (.seq (.seq (.reg none [⟨some 25, none, .q (.fa 3 (.t 1))⟩, ⟨some 26, none, .q (.ld none (.t 25))⟩, ⟨some 27, none, .q (.len false (.t 26))⟩, ⟨some 28, none, .q (.mv (.c (.i .i64 0)))⟩])
    (.keep [2, 3, 26, 27, 28]
    (.blk 0 (.keep [2, 3, 26, 27, 28]
    (.loop (.fin [2, 3, 26, 27, 28]
      (.seq (.reg none [⟨some 29, none, .q (.bin .lss (.t 28) (.t 27))⟩])
      (.keep [2, 3, 26, 27, 28, 29]
      (.seq (.cond (.t 29) .skip
        (.exit 0))
      (.seq (.blk 1 (.seq (.reg none [⟨some 30, none, .q (.ias 4 (.t 26) (.t 28))⟩, ⟨some 31, none, .q (.ld (some 4) (.t 30))⟩, ⟨some 5, none, .m (.alloc (.g [(.i .i64 0), (.i .i64 0), .nil, .nil]))⟩, ⟨none, none, .m (.st 4 (.t 5) (.t 31))⟩])
        (.keep [2, 3, 5, 26, 27, 28]
        (.seq (.reg none [⟨some 6, none, .m (.alloc (.g [(.i .i64 0), (.i .i64 0), .nil, .nil]))⟩])
        (.gst (.nilC 6 3 2)
        (.keep [2, 3, 5, 6, 26, 27, 28]
        (.seq (.reg none [⟨some 32, none, .q (.fa 0 (.t 5))⟩, ⟨some 33, none, .q (.ld none (.t 32))⟩, ⟨some 34, none, .q (.fa 0 (.t 6))⟩, ⟨none, none, .m (.st 1 (.t 34) (.t 33))⟩])
        (.keep [2, 3, 5, 6, 26, 27, 28]
        (.seq (.reg none [⟨some 35, none, .q (.fa 1 (.t 5))⟩, ⟨some 36, none, .q (.ld none (.t 35))⟩, ⟨some 37, none, .q (.fa 1 (.t 6))⟩, ⟨none, none, .m (.st 1 (.t 37) (.t 36))⟩])
        (.keep [2, 3, 5, 6, 26, 27, 28]
        (.seq (.reg none [⟨some 38, none, .q (.fa 2 (.t 6))⟩, ⟨some 39, none, .q (.ld none (.t 38))⟩, ⟨some 40, none, .q (.fa 2 (.t 5))⟩, ⟨some 41, none, .q (.ld none (.t 40))⟩, ⟨some 42, none, .m (.app 5 40 (.t 39) (.t 41))⟩, ⟨some 43, none, .q (.fa 2 (.t 6))⟩, ⟨none, none, .m (.st 1 (.t 43) (.t 42))⟩])
        (.keep [2, 3, 5, 6, 26, 27, 28]
        (.seq (.seq (.reg none [⟨some 44, none, .q (.fa 3 (.t 5))⟩, ⟨some 45, none, .q (.ld none (.t 44))⟩, ⟨some 46, none, .q (.len false (.t 45))⟩, ⟨some 47, none, .q (.mv (.c (.i .i64 0)))⟩])
          (.keep [2, 3, 6, 26, 27, 28, 45, 46, 47]
          (.blk 2 (.keep [2, 3, 6, 26, 27, 28, 45, 46, 47]
          (.loop (.fin [2, 3, 6, 26, 27, 28, 45, 46, 47]
            (.seq (.reg none [⟨some 48, none, .q (.bin .lss (.t 47) (.t 46))⟩])
            (.keep [2, 3, 6, 26, 27, 28, 45, 46, 47, 48]
            (.seq (.cond (.t 48) .skip
              (.exit 2))
            (.seq (.blk 3 (.seq (.reg none [⟨some 49, none, .q (.ias 2 (.t 45) (.t 47))⟩, ⟨some 50, none, .q (.ld (some 2) (.t 49))⟩, ⟨some 8, none, .m (.alloc (.g [.nil, (.i .i64 0)]))⟩, ⟨none, none, .m (.st 2 (.t 8) (.t 50))⟩])
              (.keep [2, 3, 6, 8, 26, 27, 28, 45, 46, 47]
              (.seq (.reg none [⟨some 9, none, .m (.alloc (.g [.nil, (.i .i64 0)]))⟩])
              (.keep [2, 3, 6, 8, 9, 26, 27, 28, 45, 46, 47]
              (.seq (.reg none [⟨some 51, none, .q (.fa 1 (.t 8))⟩, ⟨some 52, none, .q (.ld none (.t 51))⟩, ⟨some 53, none, .q (.fa 1 (.t 9))⟩, ⟨none, none, .m (.st 1 (.t 53) (.t 52))⟩])
              (.keep [2, 3, 6, 8, 9, 26, 27, 28, 45, 46, 47]
              (.seq (.reg none [⟨some 54, none, .q (.fa 0 (.t 9))⟩, ⟨some 55, none, .q (.ld none (.t 54))⟩, ⟨some 56, none, .q (.fa 0 (.t 8))⟩, ⟨some 57, none, .q (.ld none (.t 56))⟩, ⟨some 58, none, .m (.app 4 32 (.t 55) (.t 57))⟩, ⟨some 59, none, .q (.fa 0 (.t 9))⟩, ⟨none, none, .m (.st 1 (.t 59) (.t 58))⟩])
              (.keep [2, 3, 6, 9, 26, 27, 28, 45, 46, 47]
              (.reg none [⟨some 60, none, .q (.fa 3 (.t 6))⟩, ⟨some 61, none, .q (.ld none (.t 60))⟩, ⟨some 62, none, .q (.ld (some 2) (.t 9))⟩, ⟨some 63, none, .m (.bsl 1 2 [.nil, (.i .i64 0)] [(0, 2, .t 62)])⟩, ⟨some 64, none, .m (.app 2 32 (.t 61) (.t 63))⟩, ⟨some 65, none, .q (.fa 3 (.t 6))⟩, ⟨none, none, .m (.st 1 (.t 65) (.t 64))⟩]))))))))))
            (.keep [2, 3, 6, 26, 27, 28, 45, 46, 47]
            (.reg none [⟨some 66, none, .q (.bin .add (.t 47) (.c (.i .i64 1)))⟩, ⟨some 47, none, .q (.mv (.t 66))⟩]))))))))))))
        (.gst (.frzC 6 3)
        (.reg none [⟨some 67, none, .q (.fa 3 (.t 3))⟩, ⟨some 68, none, .q (.ld none (.t 67))⟩, ⟨some 69, none, .q (.ld (some 4) (.t 6))⟩, ⟨some 70, none, .m (.bsl 1 4 [(.i .i64 0), (.i .i64 0), .nil, .nil] [(0, 4, .t 69)])⟩, ⟨some 71, none, .m (.app 4 64 (.t 68) (.t 70))⟩, ⟨some 72, none, .q (.fa 3 (.t 3))⟩, ⟨none, none, .m (.st 1 (.t 72) (.t 71))⟩])))))))))))))))
      (.keep [2, 3, 26, 27, 28]
      (.reg none [⟨some 73, none, .q (.bin .add (.t 28) (.c (.i .i64 1)))⟩, ⟨some 28, none, .q (.mv (.t 73))⟩]))))))))))))
  (.seq (.gst (.frzC 3 3)
    (.reg none [⟨some 74, none, .q (.ld (some 4) (.t 3))⟩, ⟨none, none, .m (.st 4 (.t 2) (.t 74))⟩]))
  .ret)))))))))))))
theorem r10 : (Try.f10.body.bind (resC Try.prog Try.f10.ntmps)) = some (strip c10) := by kernel_rfl
theorem s10 : Try.f10.results.toList.mapM (resRes Try.prog) = some [.c 2 (some 4)] := by kernel_rfl

theorem plainProg (p : Prog) (hp : p.Ok) : PureS Try.prog 10 [.g p.row] (.g p.row) := by
  refine fun_go hmx Try.func10 r10 s10 (by rw [Try.ntmps10]; simp) ?_
  unfold c10
  simp [Prog.row]
  refine ⟨⟨by have := hp.fewv; unfold Few at this; omega, by have := hp.fewv.lt (by decide); omega⟩, ⟨by have := hp.fewc; unfold Few at this; omega, by have := hp.fewc.lt (by decide); omega⟩, ?_⟩
  refine go_count hmx 28 0 p.funcs.length (fun i h => ∃ ver K, h = AObj.var (p.row.map .v) :: AObj.var [.v .nil, .v (.i .i64 0), .v .nil, .v .nil] :: AObj.var [.v (.sl 2 (p.vars.map Var.row)), .v (.i .i64 p.locks), .v (.sl 1 (p.chans.map irow)), .os 3 ver] :: AObj.arr ver 4 (vrows ((p.funcs.take i).map Func.row)) :: K) (Nat.zero_le _) (hp.fewf.lt (by decide)) rfl ⟨0, [], rfl⟩ ?_ ?_
  · rintro i hp' - hlt ⟨ver, K, rfl⟩ hw
    have hok := hp.funcs p.funcs[i] (List.getElem_mem hlt)
    generalize hx' : p.funcs[i] = f at *
    simp [hlt, hx', hw, Func.row]
    refine ⟨⟨by have := hok.few; unfold Few at this; omega, by have := hok.few.lt (by decide); omega⟩, ?_⟩
    refine go_count hmx 47 0 f.selects.length (fun j h => ∃ ver2 K2, h = AObj.var (p.row.map .v) :: AObj.var [.v .nil, .v (.i .i64 0), .v .nil, .v .nil] :: AObj.var [.v (.sl 2 (p.vars.map Var.row)), .v (.i .i64 p.locks), .v (.sl 1 (p.chans.map irow)), .os 3 ver] :: AObj.arr ver 4 (vrows (List.take i (List.map Func.row p.funcs))) ::
      (K ++ (AObj.var (f.row.map .v) :: AObj.var [.v (.i .i64 f.params), .v (.i .i64 f.regs), .v (.sl 5 (f.code.map Instr.row)), .os (K.length + 2 + 1 + 1 + 1 + 1) ver2] :: AObj.arr ver2 2 (vrows (List.take j (f.selects.map Select.row))) :: K2))) (Nat.zero_le _) (hok.fews.lt (by decide)) rfl ⟨0, [], rfl⟩ ?_ ?_
    · rintro j hp'' - hlt2 ⟨ver2, K2, rfl⟩ hw2
      have hok2 := hok.sel f.selects[j] (List.getElem_mem hlt2)
      generalize hx2 : f.selects[j] = s at *
      simp [hlt2, hx2, hw2, Select.row]
      have q1 := hok2.few
      have q2 := hok.fews
      unfold Few at q1 q2
      refine ⟨⟨by omega, by omega⟩, ⟨by omega, by omega⟩, vrows_snoc hlt2 ?_⟩
      rw [hx2]
      rfl
    rintro hp'' ⟨ver2, K2, rfl⟩
    simp
    have q1 := hok.few
    have q2 := hp.fewf
    unfold Few at q1 q2
    refine ⟨⟨by omega, by omega⟩, hw, vrows_snoc hlt ?_⟩
    rw [hx']
    simp [Func.row, List.take_of_length_le]
  rintro hp' ⟨ver, K, rfl⟩
  simp
end Go.Sc.Q03
