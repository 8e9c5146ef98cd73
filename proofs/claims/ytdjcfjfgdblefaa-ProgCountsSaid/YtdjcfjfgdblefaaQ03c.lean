/- Chapter 03: lists, functions, programs are compared. No condition. -/
import Derived.Test.YtdjcfjfgdblefaaQ03b
import Derived.Test.YtdjcfjfgdblefaaProg
import Derived.KernelRfl
set_option linter.constructorNameAsVariable false
namespace Go.Sc.Q03
open Go Go.RowKit Go.Av Go.Proofs
set_option linter.unusedSimpArgs false
set_option linter.unusedVariables false
/-- scarab/scarabref03.sameFunc -/
def c37 : ACode :=
  (.seq (.reg none [⟨some 2, none, .m (.box (.t 0))⟩, ⟨some 3, none, .m (.box (.t 1))⟩, ⟨some 4, none, .q (.mv (.c (.b false)))⟩])
  (.keep [2, 3]
  (.seq (.seq (.reg none [⟨some 10, none, .q (.fa 0 (.t 2))⟩, ⟨some 11, none, .q (.ld none (.t 10))⟩, ⟨some 12, none, .q (.fa 0 (.t 3))⟩, ⟨some 13, none, .q (.ld none (.t 12))⟩, ⟨some 14, none, .q (.bin .neq (.t 11) (.t 13))⟩, ⟨some 15, none, .q (.mv (.t 14))⟩, ⟨some 16, some (15, false), .q (.fa 1 (.t 2))⟩, ⟨some 17, some (15, false), .q (.ld none (.t 16))⟩, ⟨some 18, some (15, false), .q (.fa 1 (.t 3))⟩, ⟨some 19, some (15, false), .q (.ld none (.t 18))⟩, ⟨some 20, some (15, false), .q (.bin .neq (.t 17) (.t 19))⟩, ⟨some 21, none, .pk (.t 15) (.c (.b true)) (.t 20)⟩, ⟨some 22, none, .q (.mv (.t 21))⟩, ⟨some 23, some (22, false), .q (.fa 2 (.t 2))⟩, ⟨some 24, some (22, false), .q (.ld none (.t 23))⟩, ⟨some 25, some (22, false), .q (.len false (.t 24))⟩, ⟨some 26, some (22, false), .q (.fa 2 (.t 3))⟩, ⟨some 27, some (22, false), .q (.ld none (.t 26))⟩, ⟨some 28, some (22, false), .q (.len false (.t 27))⟩, ⟨some 29, some (22, false), .q (.bin .neq (.t 25) (.t 28))⟩, ⟨some 30, none, .pk (.t 22) (.c (.b true)) (.t 29)⟩, ⟨some 31, none, .q (.mv (.t 30))⟩, ⟨some 32, some (31, false), .q (.fa 3 (.t 2))⟩, ⟨some 33, some (31, false), .q (.ld none (.t 32))⟩, ⟨some 34, some (31, false), .q (.len false (.t 33))⟩, ⟨some 35, some (31, false), .q (.fa 3 (.t 3))⟩, ⟨some 36, some (31, false), .q (.ld none (.t 35))⟩, ⟨some 37, some (31, false), .q (.len false (.t 36))⟩, ⟨some 38, some (31, false), .q (.bin .neq (.t 34) (.t 37))⟩, ⟨some 39, none, .pk (.t 31) (.c (.b true)) (.t 38)⟩])
    (.keep [2, 3, 39]
    (.cond (.t 39) (.seq (.reg none [⟨some 4, none, .q (.mv (.c (.b false)))⟩])
      .ret)
    .skip)))
  (.seq (.seq (.reg none [⟨some 40, none, .q (.fa 2 (.t 2))⟩, ⟨some 41, none, .q (.ld none (.t 40))⟩, ⟨some 42, none, .q (.len false (.t 41))⟩, ⟨some 43, none, .q (.mv (.c (.i .i64 0)))⟩])
    (.keep [2, 3, 42, 43]
    (.blk 0 (.keep [2, 3, 42, 43]
    (.loop (.fin [2, 3, 42, 43]
      (.seq (.reg none [⟨some 44, none, .q (.bin .lss (.t 43) (.t 42))⟩])
      (.keep [2, 3, 42, 43, 44]
      (.seq (.cond (.t 44) .skip
        (.exit 0))
      (.seq (.blk 1 (.seq (.reg none [⟨some 45, none, .q (.mv (.t 43))⟩, ⟨some 5, none, .q (.mv (.t 45))⟩])
        (.keep [2, 3, 5, 42, 43]
        (.seq (.reg (some 11) [⟨some 46, none, .q (.fa 2 (.t 2))⟩, ⟨some 47, none, .q (.ld none (.t 46))⟩, ⟨some 48, none, .q (.mv (.t 5))⟩, ⟨some 49, none, .q (.ias 5 (.t 47) (.t 48))⟩, ⟨some 50, none, .q (.ld (some 5) (.t 49))⟩, ⟨some 51, none, .q (.fa 2 (.t 3))⟩, ⟨some 52, none, .q (.ld none (.t 51))⟩, ⟨some 53, none, .q (.mv (.t 5))⟩, ⟨some 54, none, .q (.ias 5 (.t 52) (.t 53))⟩, ⟨some 55, none, .q (.ld (some 5) (.t 54))⟩, ⟨some 56, none, .q (.eqg true [.i, .i, .i, .i, .i] (.t 50) (.t 55))⟩])
        (.keep [2, 3, 42, 43, 56]
        (.cond (.t 56) (.seq (.reg none [⟨some 4, none, .q (.mv (.c (.b false)))⟩])
          .ret)
        .skip))))))
      (.keep [2, 3, 42, 43]
      (.reg none [⟨some 57, none, .q (.bin .add (.t 43) (.c (.i .i64 1)))⟩, ⟨some 43, none, .q (.mv (.t 57))⟩]))))))))))))
  (.seq (.seq (.reg none [⟨some 58, none, .q (.fa 3 (.t 2))⟩, ⟨some 59, none, .q (.ld none (.t 58))⟩, ⟨some 60, none, .q (.len false (.t 59))⟩, ⟨some 61, none, .q (.mv (.c (.i .i64 0)))⟩])
    (.keep [2, 3, 60, 61]
    (.blk 2 (.keep [2, 3, 60, 61]
    (.loop (.fin [2, 3, 60, 61]
      (.seq (.reg none [⟨some 62, none, .q (.bin .lss (.t 61) (.t 60))⟩])
      (.keep [2, 3, 60, 61, 62]
      (.seq (.cond (.t 62) .skip
        (.exit 2))
      (.seq (.blk 3 (.seq (.reg none [⟨some 63, none, .q (.mv (.t 61))⟩, ⟨some 6, none, .q (.mv (.t 63))⟩])
        (.keep [2, 3, 6, 60, 61]
        (.seq (.reg none [⟨some 64, none, .q (.fa 3 (.t 2))⟩, ⟨some 65, none, .q (.ld none (.t 64))⟩, ⟨some 66, none, .q (.mv (.t 6))⟩, ⟨some 67, none, .q (.ias 2 (.t 65) (.t 66))⟩, ⟨some 68, none, .q (.ld (some 2) (.t 67))⟩, ⟨some 7, none, .m (.alloc (.g [.nil, (.i .i64 0)]))⟩, ⟨none, none, .m (.st 2 (.t 7) (.t 68))⟩])
        (.keep [2, 3, 6, 7, 60, 61]
        (.seq (.reg none [⟨some 69, none, .q (.fa 3 (.t 3))⟩, ⟨some 70, none, .q (.ld none (.t 69))⟩, ⟨some 71, none, .q (.mv (.t 6))⟩, ⟨some 72, none, .q (.ias 2 (.t 70) (.t 71))⟩, ⟨some 73, none, .q (.ld (some 2) (.t 72))⟩, ⟨some 8, none, .m (.alloc (.g [.nil, (.i .i64 0)]))⟩, ⟨none, none, .m (.st 2 (.t 8) (.t 73))⟩])
        (.keep [2, 3, 7, 8, 60, 61]
        (.seq (.seq (.reg none [⟨some 74, none, .q (.fa 1 (.t 7))⟩, ⟨some 75, none, .q (.ld none (.t 74))⟩, ⟨some 76, none, .q (.fa 1 (.t 8))⟩, ⟨some 77, none, .q (.ld none (.t 76))⟩, ⟨some 78, none, .q (.bin .neq (.t 75) (.t 77))⟩, ⟨some 79, none, .q (.mv (.t 78))⟩, ⟨some 80, some (79, false), .q (.fa 0 (.t 7))⟩, ⟨some 81, some (79, false), .q (.ld none (.t 80))⟩, ⟨some 82, some (79, false), .q (.len false (.t 81))⟩, ⟨some 83, some (79, false), .q (.fa 0 (.t 8))⟩, ⟨some 84, some (79, false), .q (.ld none (.t 83))⟩, ⟨some 85, some (79, false), .q (.len false (.t 84))⟩, ⟨some 86, some (79, false), .q (.bin .neq (.t 82) (.t 85))⟩, ⟨some 87, none, .pk (.t 79) (.c (.b true)) (.t 86)⟩])
          (.keep [2, 3, 7, 8, 60, 61, 87]
          (.cond (.t 87) (.seq (.reg none [⟨some 4, none, .q (.mv (.c (.b false)))⟩])
            .ret)
          .skip)))
        (.seq (.reg none [⟨some 88, none, .q (.fa 0 (.t 7))⟩, ⟨some 89, none, .q (.ld none (.t 88))⟩, ⟨some 90, none, .q (.len false (.t 89))⟩, ⟨some 91, none, .q (.mv (.c (.i .i64 0)))⟩])
        (.keep [2, 3, 7, 8, 60, 61, 90, 91]
        (.blk 4 (.keep [2, 3, 7, 8, 60, 61, 90, 91]
        (.loop (.fin [2, 3, 7, 8, 60, 61, 90, 91]
          (.seq (.reg none [⟨some 92, none, .q (.bin .lss (.t 91) (.t 90))⟩])
          (.keep [2, 3, 7, 8, 60, 61, 90, 91, 92]
          (.seq (.cond (.t 92) .skip
            (.exit 4))
          (.seq (.blk 5 (.seq (.reg none [⟨some 93, none, .q (.mv (.t 91))⟩, ⟨some 9, none, .q (.mv (.t 93))⟩])
            (.keep [2, 3, 7, 8, 9, 60, 61, 90, 91]
            (.seq (.reg (some 11) [⟨some 94, none, .q (.fa 0 (.t 7))⟩, ⟨some 95, none, .q (.ld none (.t 94))⟩, ⟨some 96, none, .q (.mv (.t 9))⟩, ⟨some 97, none, .q (.ias 4 (.t 95) (.t 96))⟩, ⟨some 98, none, .q (.ld (some 4) (.t 97))⟩, ⟨some 99, none, .q (.fa 0 (.t 8))⟩, ⟨some 100, none, .q (.ld none (.t 99))⟩, ⟨some 101, none, .q (.mv (.t 9))⟩, ⟨some 102, none, .q (.ias 4 (.t 100) (.t 101))⟩, ⟨some 103, none, .q (.ld (some 4) (.t 102))⟩, ⟨some 104, none, .q (.eqg true [.b, .i, .i, .i] (.t 98) (.t 103))⟩])
            (.keep [2, 3, 7, 8, 60, 61, 90, 91, 104]
            (.cond (.t 104) (.seq (.reg none [⟨some 4, none, .q (.mv (.c (.b false)))⟩])
              .ret)
            .skip))))))
          (.keep [2, 3, 7, 8, 60, 61, 90, 91]
          (.reg none [⟨some 105, none, .q (.bin .add (.t 91) (.c (.i .i64 1)))⟩, ⟨some 91, none, .q (.mv (.t 105))⟩]))))))))))))))))))))
      (.keep [2, 3, 60, 61]
      (.reg none [⟨some 106, none, .q (.bin .add (.t 61) (.c (.i .i64 1)))⟩, ⟨some 61, none, .q (.mv (.t 106))⟩]))))))))))))
  (.seq (.reg none [⟨some 4, none, .q (.mv (.c (.b true)))⟩])
  .ret))))))
theorem r37 : (Try.f37.body.bind (resC Try.prog Try.f37.ntmps)) = some (strip c37) := by kernel_rfl
theorem s37 : Try.f37.results.toList.mapM (resRes Try.prog) = some [.t 4] := by kernel_rfl
/-- scarab/scarabref03.Same -/
def c12 : ACode :=
  (.seq (.reg none [⟨some 2, none, .m (.box (.t 0))⟩, ⟨some 3, none, .m (.box (.t 1))⟩, ⟨some 4, none, .q (.mv (.c (.b false)))⟩])
  (.keep [2, 3]
  (.seq (.seq (.reg none [⟨some 8, none, .q (.fa 0 (.t 2))⟩, ⟨some 9, none, .q (.ld none (.t 8))⟩, ⟨some 10, none, .q (.len false (.t 9))⟩, ⟨some 11, none, .q (.fa 0 (.t 3))⟩, ⟨some 12, none, .q (.ld none (.t 11))⟩, ⟨some 13, none, .q (.len false (.t 12))⟩, ⟨some 14, none, .q (.bin .neq (.t 10) (.t 13))⟩, ⟨some 15, none, .q (.mv (.t 14))⟩, ⟨some 16, some (15, false), .q (.fa 1 (.t 2))⟩, ⟨some 17, some (15, false), .q (.ld none (.t 16))⟩, ⟨some 18, some (15, false), .q (.fa 1 (.t 3))⟩, ⟨some 19, some (15, false), .q (.ld none (.t 18))⟩, ⟨some 20, some (15, false), .q (.bin .neq (.t 17) (.t 19))⟩, ⟨some 21, none, .pk (.t 15) (.c (.b true)) (.t 20)⟩, ⟨some 22, none, .q (.mv (.t 21))⟩, ⟨some 23, some (22, false), .q (.fa 2 (.t 2))⟩, ⟨some 24, some (22, false), .q (.ld none (.t 23))⟩, ⟨some 25, some (22, false), .q (.len false (.t 24))⟩, ⟨some 26, some (22, false), .q (.fa 2 (.t 3))⟩, ⟨some 27, some (22, false), .q (.ld none (.t 26))⟩, ⟨some 28, some (22, false), .q (.len false (.t 27))⟩, ⟨some 29, some (22, false), .q (.bin .neq (.t 25) (.t 28))⟩, ⟨some 30, none, .pk (.t 22) (.c (.b true)) (.t 29)⟩, ⟨some 31, none, .q (.mv (.t 30))⟩, ⟨some 32, some (31, false), .q (.fa 3 (.t 2))⟩, ⟨some 33, some (31, false), .q (.ld none (.t 32))⟩, ⟨some 34, some (31, false), .q (.len false (.t 33))⟩, ⟨some 35, some (31, false), .q (.fa 3 (.t 3))⟩, ⟨some 36, some (31, false), .q (.ld none (.t 35))⟩, ⟨some 37, some (31, false), .q (.len false (.t 36))⟩, ⟨some 38, some (31, false), .q (.bin .neq (.t 34) (.t 37))⟩, ⟨some 39, none, .pk (.t 31) (.c (.b true)) (.t 38)⟩])
    (.keep [2, 3, 39]
    (.cond (.t 39) (.seq (.reg none [⟨some 4, none, .q (.mv (.c (.b false)))⟩])
      .ret)
    .skip)))
  (.seq (.seq (.reg none [⟨some 40, none, .q (.fa 0 (.t 2))⟩, ⟨some 41, none, .q (.ld none (.t 40))⟩, ⟨some 42, none, .q (.len false (.t 41))⟩, ⟨some 43, none, .q (.mv (.c (.i .i64 0)))⟩])
    (.keep [2, 3, 42, 43]
    (.blk 0 (.keep [2, 3, 42, 43]
    (.loop (.fin [2, 3, 42, 43]
      (.seq (.reg none [⟨some 44, none, .q (.bin .lss (.t 43) (.t 42))⟩])
      (.keep [2, 3, 42, 43, 44]
      (.seq (.cond (.t 44) .skip
        (.exit 0))
      (.seq (.blk 1 (.seq (.reg none [⟨some 45, none, .q (.mv (.t 43))⟩, ⟨some 5, none, .q (.mv (.t 45))⟩])
        (.keep [2, 3, 5, 42, 43]
        (.seq (.reg (some 11) [⟨some 46, none, .q (.fa 0 (.t 2))⟩, ⟨some 47, none, .q (.ld none (.t 46))⟩, ⟨some 48, none, .q (.mv (.t 5))⟩, ⟨some 49, none, .q (.ias 2 (.t 47) (.t 48))⟩, ⟨some 50, none, .q (.ld (some 2) (.t 49))⟩, ⟨some 51, none, .q (.fa 0 (.t 3))⟩, ⟨some 52, none, .q (.ld none (.t 51))⟩, ⟨some 53, none, .q (.mv (.t 5))⟩, ⟨some 54, none, .q (.ias 2 (.t 52) (.t 53))⟩, ⟨some 55, none, .q (.ld (some 2) (.t 54))⟩, ⟨some 56, none, .q (.eqg true [.b, .i] (.t 50) (.t 55))⟩])
        (.keep [2, 3, 42, 43, 56]
        (.cond (.t 56) (.seq (.reg none [⟨some 4, none, .q (.mv (.c (.b false)))⟩])
          .ret)
        .skip))))))
      (.keep [2, 3, 42, 43]
      (.reg none [⟨some 57, none, .q (.bin .add (.t 43) (.c (.i .i64 1)))⟩, ⟨some 43, none, .q (.mv (.t 57))⟩]))))))))))))
  (.seq (.seq (.reg none [⟨some 58, none, .q (.fa 2 (.t 2))⟩, ⟨some 59, none, .q (.ld none (.t 58))⟩, ⟨some 60, none, .q (.len false (.t 59))⟩, ⟨some 61, none, .q (.mv (.c (.i .i64 0)))⟩])
    (.keep [2, 3, 60, 61]
    (.blk 2 (.keep [2, 3, 60, 61]
    (.loop (.fin [2, 3, 60, 61]
      (.seq (.reg none [⟨some 62, none, .q (.bin .lss (.t 61) (.t 60))⟩])
      (.keep [2, 3, 60, 61, 62]
      (.seq (.cond (.t 62) .skip
        (.exit 2))
      (.seq (.blk 3 (.seq (.reg none [⟨some 63, none, .q (.mv (.t 61))⟩, ⟨some 6, none, .q (.mv (.t 63))⟩])
        (.keep [2, 3, 6, 60, 61]
        (.seq (.reg (some 11) [⟨some 64, none, .q (.fa 2 (.t 2))⟩, ⟨some 65, none, .q (.ld none (.t 64))⟩, ⟨some 66, none, .q (.mv (.t 6))⟩, ⟨some 67, none, .q (.ias 1 (.t 65) (.t 66))⟩, ⟨some 68, none, .q (.ld none (.t 67))⟩, ⟨some 69, none, .q (.fa 2 (.t 3))⟩, ⟨some 70, none, .q (.ld none (.t 69))⟩, ⟨some 71, none, .q (.mv (.t 6))⟩, ⟨some 72, none, .q (.ias 1 (.t 70) (.t 71))⟩, ⟨some 73, none, .q (.ld none (.t 72))⟩, ⟨some 74, none, .q (.bin .neq (.t 68) (.t 73))⟩])
        (.keep [2, 3, 60, 61, 74]
        (.cond (.t 74) (.seq (.reg none [⟨some 4, none, .q (.mv (.c (.b false)))⟩])
          .ret)
        .skip))))))
      (.keep [2, 3, 60, 61]
      (.reg none [⟨some 75, none, .q (.bin .add (.t 61) (.c (.i .i64 1)))⟩, ⟨some 61, none, .q (.mv (.t 75))⟩]))))))))))))
  (.seq (.seq (.reg none [⟨some 76, none, .q (.fa 3 (.t 2))⟩, ⟨some 77, none, .q (.ld none (.t 76))⟩, ⟨some 78, none, .q (.len false (.t 77))⟩, ⟨some 79, none, .q (.mv (.c (.i .i64 0)))⟩])
    (.keep [2, 3, 78, 79]
    (.blk 4 (.keep [2, 3, 78, 79]
    (.loop (.fin [2, 3, 78, 79]
      (.seq (.reg none [⟨some 80, none, .q (.bin .lss (.t 79) (.t 78))⟩])
      (.keep [2, 3, 78, 79, 80]
      (.seq (.cond (.t 80) .skip
        (.exit 4))
      (.seq (.blk 5 (.seq (.reg none [⟨some 81, none, .q (.mv (.t 79))⟩, ⟨some 7, none, .q (.mv (.t 81))⟩])
        (.keep [2, 3, 7, 78, 79]
        (.seq (.reg (some 12) [⟨some 82, none, .q (.fa 3 (.t 2))⟩, ⟨some 83, none, .q (.ld none (.t 82))⟩, ⟨some 84, none, .q (.mv (.t 7))⟩, ⟨some 85, none, .q (.ias 4 (.t 83) (.t 84))⟩, ⟨some 86, none, .q (.ld (some 4) (.t 85))⟩, ⟨some 87, none, .q (.fa 3 (.t 3))⟩, ⟨some 88, none, .q (.ld none (.t 87))⟩, ⟨some 89, none, .q (.mv (.t 7))⟩, ⟨some 90, none, .q (.ias 4 (.t 88) (.t 89))⟩, ⟨some 91, none, .q (.ld (some 4) (.t 90))⟩, ⟨some 92, none, .call (.f 37) [(.t 86), (.t 91)]⟩, ⟨some 93, none, .q (.un .not (.t 92))⟩])
        (.keep [2, 3, 78, 79, 93]
        (.cond (.t 93) (.seq (.reg none [⟨some 4, none, .q (.mv (.c (.b false)))⟩])
          .ret)
        .skip))))))
      (.keep [2, 3, 78, 79]
      (.reg none [⟨some 94, none, .q (.bin .add (.t 79) (.c (.i .i64 1)))⟩, ⟨some 79, none, .q (.mv (.t 94))⟩]))))))))))))
  (.seq (.reg none [⟨some 4, none, .q (.mv (.c (.b true)))⟩])
  .ret)))))))
theorem r12 : (Try.f12.body.bind (resC Try.prog Try.f12.ntmps)) = some (strip c12) := by kernel_rfl
theorem s12 : Try.f12.results.toList.mapM (resRes Try.prog) = some [.t 4] := by kernel_rfl

theorem refSame (x y : Prog) (hx : x.Ok) (hs : ∀ f ∈ x.funcs, ∀ g ∈ y.funcs, PureS Try.prog 37 [.g f.row, .g g.row] (.b (decide (f = g)))) : PureS Try.prog 12 [.g x.row, .g y.row] (.b (decide (x = y))) := by
  refine fun_go hmx Try.func12 r12 s12 (by rw [Try.ntmps12]; simp) ?_
  unfold c12
  simp [Prog.row]
  constructor
  · rintro (((h | h) | h) | h) rfl <;> exact h rfl
  intro l1 l2 l3 l4
  replace l1 : x.vars.length = y.vars.length := by omega
  replace l3 : x.chans.length = y.chans.length := by omega
  replace l4 : x.funcs.length = y.funcs.length := by omega
  refine go_rounds hmx (fun i σ => i ≤ x.vars.length ∧ x.vars.take i = y.vars.take i ∧ σ = ⟨[(2, .pt 0 0 0 0), (3, .pt 1 0 0 0), (42, .v (.i .i64 x.vars.length)), (43, .v (.i .i64 (i : Int)))], [AObj.var (x.row.map .v), AObj.var (y.row.map .v)]⟩) (fun i => x.vars.length - i) 0 ⟨Nat.zero_le _, rfl, rfl⟩ ?_
  rintro i σ ⟨hi, ht, rfl⟩
  by_cases hlt : i < x.vars.length
  · have hly : i < y.vars.length := l1 ▸ hlt
    have hxy := take_eq ht hlt hly
    have hw := wrap_nat (show i < 9223372036854775807 from Nat.lt_trans hlt (hx.fewv.lt (by decide)))
    generalize hx' : x.vars[i] = a at *
    generalize hy' : y.vars[i] = b at *
    simp [hlt, hly, hx', hy', hw, Prog.row]
    refine ⟨fun h hc => ?_, fun h => ⟨i + 1, ⟨hlt, hxy.2 h, rfl⟩, by omega⟩⟩
    subst hc
    exact h (hx'.symm.trans hy')
  have e1 := eq_of_take ht hi hlt l1
  simp [hlt, Prog.row]
  refine go_rounds hmx (fun i σ => i ≤ x.chans.length ∧ x.chans.take i = y.chans.take i ∧ σ = ⟨[(2, .pt 0 0 0 0), (3, .pt 1 0 0 0), (60, .v (.i .i64 x.chans.length)), (61, .v (.i .i64 (i : Int)))], [AObj.var (x.row.map .v), AObj.var (y.row.map .v)]⟩) (fun i => x.chans.length - i) 0 ⟨Nat.zero_le _, rfl, rfl⟩ ?_
  rintro i σ ⟨hi, ht, rfl⟩
  by_cases hlt : i < x.chans.length
  · have hly : i < y.chans.length := l3 ▸ hlt
    have hxy := take_eq ht hlt hly
    have hw := wrap_nat (show i < 9223372036854775807 from Nat.lt_trans hlt (hx.fewc.lt (by decide)))
    generalize hx' : x.chans[i] = a at *
    generalize hy' : y.chans[i] = b at *
    simp [hlt, hly, hx', hy', hw, Prog.row, irow]
    refine ⟨fun h hc => ?_, fun h => ⟨i + 1, ⟨hlt, hxy.2 h, rfl⟩, by omega⟩⟩
    subst hc
    exact h (hx'.symm.trans hy')
  have e2 := eq_of_take ht hi hlt l3
  simp [hlt, Prog.row]
  refine go_rounds hmx (fun i σ => i ≤ x.funcs.length ∧ x.funcs.take i = y.funcs.take i ∧ σ = ⟨[(2, .pt 0 0 0 0), (3, .pt 1 0 0 0), (78, .v (.i .i64 x.funcs.length)), (79, .v (.i .i64 (i : Int)))], [AObj.var (x.row.map .v), AObj.var (y.row.map .v)]⟩) (fun i => x.funcs.length - i) 0 ⟨Nat.zero_le _, rfl, rfl⟩ ?_
  rintro i σ ⟨hi, ht, rfl⟩
  by_cases hlt : i < x.funcs.length
  · have hly : i < y.funcs.length := l4 ▸ hlt
    have hxy := take_eq ht hlt hly
    have hw := wrap_nat (show i < 9223372036854775807 from Nat.lt_trans hlt (hx.fewf.lt (by decide)))
    have hsc := hs x.funcs[i] (List.getElem_mem hlt) y.funcs[i] (List.getElem_mem hly)
    generalize hx' : x.funcs[i] = a at *
    generalize hy' : y.funcs[i] = b at *
    simp [hlt, hly, hx', hy', hw, Prog.row]
    refine callq rfl Try.call37 hsc rfl ?_
    simp
    refine ⟨fun h hc => ?_, fun h => ⟨i + 1, ⟨hlt, hxy.2 h, hw⟩, by omega⟩⟩
    subst hc
    exact h (hx'.symm.trans hy')
  have e3 := eq_of_take ht hi hlt l4
  simp [hlt]
  obtain ⟨a, b, c, d⟩ := x
  obtain ⟨a', b', c', d'⟩ := y
  simp at *
  exact ⟨e1, l2, e2, e3⟩
end Go.Sc.Q03
