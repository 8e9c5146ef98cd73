/- Chapter 03: what is wrong with selects and sizes: both texts say the same. No condition. -/
import Derived.Test.YtinpjecafkdikaaXT3j
import Derived.Test.YtinpjecafkdikaaXSc
set_option linter.constructorNameAsVariable false
namespace Go.Sc.Q03
open Go Go.RowKit Go.Av Go.Proofs
set_option linter.unusedSimpArgs false
set_option linter.unusedVariables false
/-- (*scarab/prog.checker).selects -/
def c66 : ACode :=
  (.seq (.reg none [⟨some 2, none, .q (.mv (.c (.i .i64 0)))⟩])
  (.keep [0]
  (.seq (.seq (.reg none [⟨some 11, none, .q (.mv (.t 0))⟩, ⟨some 12, none, .q (.nck (.t 11))⟩, ⟨some 13, none, .q (.fa 4 (.t 12))⟩, ⟨some 14, none, .q (.fa 3 (.t 13))⟩, ⟨some 15, none, .q (.ld none (.t 14))⟩, ⟨some 16, none, .q (.len false (.t 15))⟩, ⟨some 17, none, .q (.mv (.c (.i .i64 0)))⟩])
    (.keep [0, 15, 16, 17]
    (.blk 0 (.keep [0, 15, 16, 17]
    (.loop (.fin [0, 15, 16, 17]
      (.seq (.reg none [⟨some 18, none, .q (.bin .lss (.t 17) (.t 16))⟩])
      (.keep [0, 15, 16, 17, 18]
      (.seq (.cond (.t 18) .skip
        (.exit 0))
      (.seq (.blk 1 (.seq (.reg none [⟨some 19, none, .q (.ias 2 (.t 15) (.t 17))⟩, ⟨some 20, none, .q (.ld (some 2) (.t 19))⟩, ⟨some 4, none, .m (.alloc (.g [.nil, (.i .i64 0)]))⟩, ⟨none, none, .m (.st 2 (.t 4) (.t 20))⟩])
        (.keep [0, 4, 15, 16, 17]
        (.seq (.seq (.reg none [⟨some 21, none, .q (.fa 0 (.t 4))⟩, ⟨some 22, none, .q (.ld none (.t 21))⟩, ⟨some 23, none, .q (.len false (.t 22))⟩, ⟨some 24, none, .q (.mv (.c (.i .i64 0)))⟩])
          (.keep [0, 4, 15, 16, 17, 22, 23, 24]
          (.blk 2 (.keep [0, 4, 15, 16, 17, 22, 23, 24]
          (.loop (.fin [0, 4, 15, 16, 17, 22, 23, 24]
            (.seq (.reg none [⟨some 25, none, .q (.bin .lss (.t 24) (.t 23))⟩])
            (.keep [0, 4, 15, 16, 17, 22, 23, 24, 25]
            (.seq (.cond (.t 25) .skip
              (.exit 2))
            (.seq (.blk 3 (.seq (.reg none [⟨some 26, none, .q (.ias 4 (.t 22) (.t 24))⟩, ⟨some 27, none, .q (.ld (some 4) (.t 26))⟩, ⟨some 6, none, .m (.alloc (.g [(.b false), (.i .i64 0), (.i .i64 0), (.i .i64 0)]))⟩, ⟨none, none, .m (.st 4 (.t 6) (.t 27))⟩])
              (.keep [0, 4, 6, 15, 16, 17, 22, 23, 24]
              (.seq (.seq (.reg (some (8, [])) [⟨some 28, none, .q (.fa 1 (.t 6))⟩, ⟨some 29, none, .q (.ld none (.t 28))⟩, ⟨some 30, none, .q (.mv (.t 0))⟩, ⟨some 31, none, .q (.nck (.t 30))⟩, ⟨some 32, none, .q (.fa 0 (.t 31))⟩, ⟨some 33, none, .q (.fa 2 (.t 32))⟩, ⟨some 34, none, .q (.ld none (.t 33))⟩, ⟨some 35, none, .q (.len false (.t 34))⟩, ⟨some 36, none, .call (.f 72) [(.t 29), (.t 35)]⟩, ⟨some 7, none, .q (.mv (.t 36))⟩])
                (.keep [0, 4, 6, 7, 15, 16, 17, 22, 23, 24]
                (.seq (.reg none [⟨some 37, none, .q (.mv (.t 7))⟩, ⟨some 38, none, .q (.bin .neq (.t 37) (.c (.i .i64 0)))⟩])
                (.keep [0, 4, 6, 7, 15, 16, 17, 22, 23, 24, 38]
                (.cond (.t 38) (.seq (.reg none [⟨some 39, none, .q (.mv (.t 7))⟩, ⟨some 2, none, .q (.mv (.t 39))⟩])
                  .ret)
                .skip)))))
              (.seq (.seq (.reg none [⟨some 40, none, .q (.fa 0 (.t 6))⟩, ⟨some 41, none, .q (.ld none (.t 40))⟩, ⟨some 42, none, .q (.mv (.t 41))⟩, ⟨some 43, some (42, false), .q (.fa 2 (.t 6))⟩, ⟨some 44, some (42, false), .q (.ld none (.t 43))⟩, ⟨some 45, some (42, false), .q (.bin .neq (.t 44) (.c (.i .i64 (-1))))⟩, ⟨some 46, none, .pk (.t 42) (.c (.b true)) (.t 45)⟩])
                (.keep [0, 4, 6, 15, 16, 17, 22, 23, 24, 46]
                (.cond (.t 46) (.seq (.reg none [⟨some 47, none, .q (.mv (.t 0))⟩, ⟨some 48, none, .q (.fa 2 (.t 6))⟩, ⟨some 49, none, .q (.ld none (.t 48))⟩, ⟨some 50, none, .call (.f 73) [(.t 47), (.t 49)]⟩, ⟨some 8, none, .q (.mv (.t 50))⟩])
                  (.keep [0, 4, 6, 8, 15, 16, 17, 22, 23, 24]
                  (.seq (.reg none [⟨some 51, none, .q (.mv (.t 8))⟩, ⟨some 52, none, .q (.bin .neq (.t 51) (.c (.i .i64 0)))⟩])
                  (.keep [0, 4, 6, 8, 15, 16, 17, 22, 23, 24, 52]
                  (.cond (.t 52) (.seq (.reg none [⟨some 53, none, .q (.mv (.t 8))⟩, ⟨some 2, none, .q (.mv (.t 53))⟩])
                    .ret)
                  .skip)))))
                .skip)))
              (.seq (.seq (.reg (some (14, [])) [⟨some 54, none, .q (.fa 0 (.t 6))⟩, ⟨some 55, none, .q (.ld none (.t 54))⟩, ⟨some 56, none, .q (.mv (.t 55))⟩, ⟨some 57, some (56, true), .q (.mv (.t 0))⟩, ⟨some 58, some (56, true), .q (.nck (.t 57))⟩, ⟨some 59, some (56, true), .q (.fa 0 (.t 58))⟩, ⟨some 60, some (56, true), .q (.fa 2 (.t 59))⟩, ⟨some 61, some (56, true), .q (.ld none (.t 60))⟩, ⟨some 62, some (56, true), .q (.fa 1 (.t 6))⟩, ⟨some 63, some (56, true), .q (.ld none (.t 62))⟩, ⟨some 64, some (56, true), .q (.ias 1 (.t 61) (.t 63))⟩, ⟨some 65, some (56, true), .q (.ld none (.t 64))⟩, ⟨some 66, some (56, true), .q (.bin .eql (.t 65) (.c (.i .i64 0)))⟩, ⟨some 67, none, .pk (.t 56) (.t 66) (.c (.b false))⟩])
                (.keep [0, 4, 6, 15, 16, 17, 22, 23, 24, 67]
                (.cond (.t 67) (.seq (.reg none [⟨some 2, none, .q (.mv (.c (.i .i64 37)))⟩])
                  .ret)
                .skip)))
              (.seq (.reg none [⟨some 68, none, .q (.mv (.t 0))⟩, ⟨some 69, none, .q (.fa 3 (.t 6))⟩, ⟨some 70, none, .q (.ld none (.t 69))⟩, ⟨some 71, none, .call (.f 74) [(.t 68), (.t 70)]⟩, ⟨some 9, none, .q (.mv (.t 71))⟩])
              (.keep [0, 4, 9, 15, 16, 17, 22, 23, 24]
              (.seq (.reg none [⟨some 72, none, .q (.mv (.t 9))⟩, ⟨some 73, none, .q (.bin .neq (.t 72) (.c (.i .i64 0)))⟩])
              (.keep [0, 4, 9, 15, 16, 17, 22, 23, 24, 73]
              (.cond (.t 73) (.seq (.reg none [⟨some 74, none, .q (.mv (.t 9))⟩, ⟨some 2, none, .q (.mv (.t 74))⟩])
                .ret)
              .skip)))))))))))
            (.keep [0, 4, 15, 16, 17, 22, 23, 24]
            (.reg none [⟨some 75, none, .q (.bin .add (.t 24) (.c (.i .i64 1)))⟩, ⟨some 24, none, .q (.mv (.t 75))⟩]))))))))))))
        (.seq (.reg none [⟨some 76, none, .q (.fa 1 (.t 4))⟩, ⟨some 77, none, .q (.ld none (.t 76))⟩, ⟨some 78, none, .q (.bin .neq (.t 77) (.c (.i .i64 (-1))))⟩])
        (.keep [0, 4, 15, 16, 17, 78]
        (.cond (.t 78) (.seq (.reg none [⟨some 79, none, .q (.mv (.t 0))⟩, ⟨some 80, none, .q (.fa 1 (.t 4))⟩, ⟨some 81, none, .q (.ld none (.t 80))⟩, ⟨some 82, none, .call (.f 74) [(.t 79), (.t 81)]⟩, ⟨some 10, none, .q (.mv (.t 82))⟩])
          (.keep [0, 10, 15, 16, 17]
          (.seq (.reg none [⟨some 83, none, .q (.mv (.t 10))⟩, ⟨some 84, none, .q (.bin .neq (.t 83) (.c (.i .i64 0)))⟩])
          (.keep [0, 10, 15, 16, 17, 84]
          (.cond (.t 84) (.seq (.reg none [⟨some 85, none, .q (.mv (.t 10))⟩, ⟨some 2, none, .q (.mv (.t 85))⟩])
            .ret)
          .skip)))))
        .skip)))))))
      (.keep [0, 15, 16, 17]
      (.reg none [⟨some 86, none, .q (.bin .add (.t 17) (.c (.i .i64 1)))⟩, ⟨some 17, none, .q (.mv (.t 86))⟩]))))))))))))
  (.seq (.reg none [⟨some 2, none, .q (.mv (.c (.i .i64 0)))⟩])
  .ret))))
theorem r66 : (Try.f66.body.bind (resC Try.prog Try.f66.ntmps)) = some (strip c66) := by kernel_rfl
theorem s66 : Try.f66.results.toList.mapM (resRes Try.prog) = some [.t 2] := by kernel_rfl
/-- scarab/prog.sizes -/
def c65 : ACode :=
  (.seq (.reg none [⟨some 2, none, .m (.box (.t 0))⟩, ⟨some 4, none, .q (.mv (.c (.i .i64 0)))⟩])
  (.keep [1, 2]
  (.seq (.reg none [⟨some 8, none, .q (.fa 1 (.t 2))⟩, ⟨some 9, none, .q (.ld none (.t 8))⟩, ⟨some 10, none, .q (.bin .geq (.t 9) (.c (.i .i64 0)))⟩, ⟨some 11, none, .q (.mv (.t 10))⟩, ⟨some 12, some (11, true), .q (.fa 1 (.t 2))⟩, ⟨some 13, some (11, true), .q (.ld none (.t 12))⟩, ⟨some 14, some (11, true), .q (.bin .leq (.t 13) (.c (.i .i64 8)))⟩, ⟨some 15, none, .pk (.t 11) (.t 14) (.c (.b false))⟩, ⟨some 16, none, .q (.mv (.t 15))⟩, ⟨some 17, some (16, true), .q (.fa 0 (.t 2))⟩, ⟨some 18, some (16, true), .q (.ld none (.t 17))⟩, ⟨some 19, some (16, true), .q (.bin .geq (.t 18) (.c (.i .i64 0)))⟩, ⟨some 20, none, .pk (.t 16) (.t 19) (.c (.b false))⟩, ⟨some 21, none, .q (.mv (.t 20))⟩, ⟨some 22, some (21, true), .q (.fa 0 (.t 2))⟩, ⟨some 23, some (21, true), .q (.ld none (.t 22))⟩, ⟨some 24, some (21, true), .q (.fa 1 (.t 2))⟩, ⟨some 25, some (21, true), .q (.ld none (.t 24))⟩, ⟨some 26, some (21, true), .q (.bin .leq (.t 23) (.t 25))⟩, ⟨some 27, none, .pk (.t 21) (.t 26) (.c (.b false))⟩, ⟨some 28, none, .q (.mv (.t 27))⟩, ⟨some 29, some (28, true), .q (.mv (.t 1))⟩, ⟨some 30, some (28, true), .q (.mv (.t 29))⟩, ⟨some 31, some (30, true), .q (.fa 0 (.t 2))⟩, ⟨some 32, some (30, true), .q (.ld none (.t 31))⟩, ⟨some 33, some (30, true), .q (.bin .gtr (.t 32) (.c (.i .i64 0)))⟩, ⟨some 34, some (28, true), .pk (.t 30) (.t 33) (.c (.b false))⟩, ⟨some 35, some (28, true), .q (.un .not (.t 34))⟩, ⟨some 36, none, .pk (.t 28) (.t 35) (.c (.b false))⟩, ⟨some 5, none, .q (.mv (.t 36))⟩])
  (.keep [2, 5]
  (.seq (.reg none [⟨some 37, none, .q (.mv (.t 5))⟩, ⟨some 38, none, .q (.mv (.t 37))⟩, ⟨some 39, some (38, true), .q (.fa 2 (.t 2))⟩, ⟨some 40, some (38, true), .q (.ld none (.t 39))⟩, ⟨some 41, some (38, true), .q (.len false (.t 40))⟩, ⟨some 42, some (38, true), .q (.bin .geq (.t 41) (.c (.i .i64 1)))⟩, ⟨some 43, none, .pk (.t 38) (.t 42) (.c (.b false))⟩, ⟨some 44, none, .q (.mv (.t 43))⟩, ⟨some 45, some (44, true), .q (.fa 2 (.t 2))⟩, ⟨some 46, some (44, true), .q (.ld none (.t 45))⟩, ⟨some 47, some (44, true), .q (.len false (.t 46))⟩, ⟨some 48, some (44, true), .q (.bin .leq (.t 47) (.c (.i .i64 64)))⟩, ⟨some 49, none, .pk (.t 44) (.t 48) (.c (.b false))⟩, ⟨some 50, none, .q (.mv (.t 49))⟩, ⟨some 51, some (50, true), .q (.fa 3 (.t 2))⟩, ⟨some 52, some (50, true), .q (.ld none (.t 51))⟩, ⟨some 53, some (50, true), .q (.len false (.t 52))⟩, ⟨some 54, some (50, true), .q (.bin .leq (.t 53) (.c (.i .i64 4)))⟩, ⟨some 55, none, .pk (.t 50) (.t 54) (.c (.b false))⟩, ⟨some 5, none, .q (.mv (.t 55))⟩])
  (.keep [2, 5]
  (.seq (.seq (.reg none [⟨some 56, none, .q (.fa 3 (.t 2))⟩, ⟨some 57, none, .q (.ld none (.t 56))⟩, ⟨some 58, none, .q (.len false (.t 57))⟩, ⟨some 59, none, .q (.mv (.c (.i .i64 0)))⟩])
    (.keep [5, 57, 58, 59]
    (.blk 0 (.keep [5, 57, 58, 59]
    (.loop (.fin [5, 57, 58, 59]
      (.seq (.reg none [⟨some 60, none, .q (.bin .lss (.t 59) (.t 58))⟩])
      (.keep [5, 57, 58, 59, 60]
      (.seq (.cond (.t 60) .skip
        (.exit 0))
      (.seq (.blk 1 (.seq (.reg none [⟨some 61, none, .q (.ias 2 (.t 57) (.t 59))⟩, ⟨some 62, none, .q (.ld (some 2) (.t 61))⟩, ⟨some 7, none, .m (.alloc (.g [.nil, (.i .i64 0)]))⟩, ⟨none, none, .m (.st 2 (.t 7) (.t 62))⟩])
        (.keep [5, 7, 57, 58, 59]
        (.reg none [⟨some 63, none, .q (.mv (.t 5))⟩, ⟨some 64, none, .q (.mv (.t 63))⟩, ⟨some 65, some (64, true), .q (.fa 0 (.t 7))⟩, ⟨some 66, some (64, true), .q (.ld none (.t 65))⟩, ⟨some 67, some (64, true), .q (.len false (.t 66))⟩, ⟨some 68, some (64, true), .q (.bin .geq (.t 67) (.c (.i .i64 1)))⟩, ⟨some 69, none, .pk (.t 64) (.t 68) (.c (.b false))⟩, ⟨some 70, none, .q (.mv (.t 69))⟩, ⟨some 71, some (70, true), .q (.fa 0 (.t 7))⟩, ⟨some 72, some (70, true), .q (.ld none (.t 71))⟩, ⟨some 73, some (70, true), .q (.len false (.t 72))⟩, ⟨some 74, some (70, true), .q (.bin .leq (.t 73) (.c (.i .i64 4)))⟩, ⟨some 75, none, .pk (.t 70) (.t 74) (.c (.b false))⟩, ⟨some 5, none, .q (.mv (.t 75))⟩]))))
      (.keep [5, 57, 58, 59]
      (.reg none [⟨some 76, none, .q (.bin .add (.t 59) (.c (.i .i64 1)))⟩, ⟨some 59, none, .q (.mv (.t 76))⟩]))))))))))))
  (.seq (.seq (.reg none [⟨some 77, none, .q (.mv (.t 5))⟩, ⟨some 78, none, .q (.un .not (.t 77))⟩])
    (.keep [78]
    (.cond (.t 78) (.seq (.reg none [⟨some 4, none, .q (.mv (.c (.i .i64 32)))⟩])
      .ret)
    .skip)))
  (.seq (.reg none [⟨some 4, none, .q (.mv (.c (.i .i64 0)))⟩])
  .ret)))))))))
theorem r65 : (Try.f65.body.bind (resC Try.prog Try.f65.ntmps)) = some (strip c65) := by kernel_rfl
theorem s65 : Try.f65.results.toList.mapM (resRes Try.prog) = some [.t 4] := by kernel_rfl
/-- scarab/prog.whole -/
def c64 : ACode :=
  (.seq (.reg none [⟨some 1, none, .m (.box (.t 0))⟩, ⟨some 2, none, .q (.mv (.c (.i .i64 0)))⟩])
  (.keep [1]
  (.seq (.seq (.reg none [⟨some 5, none, .q (.fa 0 (.t 1))⟩, ⟨some 6, none, .q (.ld none (.t 5))⟩, ⟨some 7, none, .q (.len false (.t 6))⟩, ⟨some 8, none, .q (.bin .gtr (.t 7) (.c (.i .i64 8)))⟩, ⟨some 9, none, .q (.mv (.t 8))⟩, ⟨some 10, some (9, false), .q (.fa 1 (.t 1))⟩, ⟨some 11, some (9, false), .q (.ld none (.t 10))⟩, ⟨some 12, some (9, false), .q (.bin .lss (.t 11) (.c (.i .i64 0)))⟩, ⟨some 13, none, .pk (.t 9) (.c (.b true)) (.t 12)⟩, ⟨some 14, none, .q (.mv (.t 13))⟩, ⟨some 15, some (14, false), .q (.fa 1 (.t 1))⟩, ⟨some 16, some (14, false), .q (.ld none (.t 15))⟩, ⟨some 17, some (14, false), .q (.bin .gtr (.t 16) (.c (.i .i64 4)))⟩, ⟨some 18, none, .pk (.t 14) (.c (.b true)) (.t 17)⟩, ⟨some 19, none, .q (.mv (.t 18))⟩, ⟨some 20, some (19, false), .q (.fa 2 (.t 1))⟩, ⟨some 21, some (19, false), .q (.ld none (.t 20))⟩, ⟨some 22, some (19, false), .q (.len false (.t 21))⟩, ⟨some 23, some (19, false), .q (.bin .gtr (.t 22) (.c (.i .i64 4)))⟩, ⟨some 24, none, .pk (.t 19) (.c (.b true)) (.t 23)⟩, ⟨some 25, none, .q (.mv (.t 24))⟩, ⟨some 26, some (25, false), .q (.fa 3 (.t 1))⟩, ⟨some 27, some (25, false), .q (.ld none (.t 26))⟩, ⟨some 28, some (25, false), .q (.len false (.t 27))⟩, ⟨some 29, some (25, false), .q (.bin .lss (.t 28) (.c (.i .i64 1)))⟩, ⟨some 30, none, .pk (.t 25) (.c (.b true)) (.t 29)⟩, ⟨some 31, none, .q (.mv (.t 30))⟩, ⟨some 32, some (31, false), .q (.fa 3 (.t 1))⟩, ⟨some 33, some (31, false), .q (.ld none (.t 32))⟩, ⟨some 34, some (31, false), .q (.len false (.t 33))⟩, ⟨some 35, some (31, false), .q (.bin .gtr (.t 34) (.c (.i .i64 8)))⟩, ⟨some 36, none, .pk (.t 31) (.c (.b true)) (.t 35)⟩])
    (.keep [1, 36]
    (.cond (.t 36) (.seq (.reg none [⟨some 2, none, .q (.mv (.c (.i .i64 30)))⟩])
      .ret)
    .skip)))
  (.seq (.seq (.reg none [⟨some 37, none, .q (.fa 2 (.t 1))⟩, ⟨some 38, none, .q (.ld none (.t 37))⟩, ⟨some 39, none, .q (.len false (.t 38))⟩, ⟨some 40, none, .q (.mv (.c (.i .i64 0)))⟩])
    (.keep [38, 39, 40]
    (.blk 0 (.keep [38, 39, 40]
    (.loop (.fin [38, 39, 40]
      (.seq (.reg none [⟨some 41, none, .q (.bin .lss (.t 40) (.t 39))⟩])
      (.keep [38, 39, 40, 41]
      (.seq (.cond (.t 41) .skip
        (.exit 0))
      (.seq (.blk 1 (.seq (.reg none [⟨some 42, none, .q (.ias 1 (.t 38) (.t 40))⟩, ⟨some 43, none, .q (.ld none (.t 42))⟩, ⟨some 4, none, .q (.mv (.t 43))⟩])
        (.keep [4, 38, 39, 40]
        (.seq (.reg none [⟨some 44, none, .q (.mv (.t 4))⟩, ⟨some 45, none, .q (.bin .lss (.t 44) (.c (.i .i64 0)))⟩, ⟨some 46, none, .q (.mv (.t 45))⟩, ⟨some 47, some (46, false), .q (.mv (.t 4))⟩, ⟨some 48, some (46, false), .q (.bin .gtr (.t 47) (.c (.i .i64 4)))⟩, ⟨some 49, none, .pk (.t 46) (.c (.b true)) (.t 48)⟩])
        (.keep [38, 39, 40, 49]
        (.cond (.t 49) (.seq (.reg none [⟨some 2, none, .q (.mv (.c (.i .i64 31)))⟩])
          .ret)
        .skip))))))
      (.keep [38, 39, 40]
      (.reg none [⟨some 50, none, .q (.bin .add (.t 40) (.c (.i .i64 1)))⟩, ⟨some 40, none, .q (.mv (.t 50))⟩]))))))))))))
  (.seq (.reg none [⟨some 2, none, .q (.mv (.c (.i .i64 0)))⟩])
  .ret)))))
theorem r64 : (Try.f64.body.bind (resC Try.prog Try.f64.ntmps)) = some (strip c64) := by kernel_rfl
theorem s64 : Try.f64.results.toList.mapM (resRes Try.prog) = some [.t 2] := by kernel_rfl

theorem whole42 (p : Prog) (hp : p.Ok) : PureS Try.prog 64 [.g p.row] (.i .i64 (wholeE p)) := by
  refine fun_go hmx Try.func64 r64 s64 (by rw [Try.ntmps64]; simp) ?_
  unfold c64
  simp [Prog.row]
  refine ⟨fun h => by rw [wholeE, if_pos (by omega)], fun a b c d e g => ?_⟩
  have hE : wholeE p = firstE (fun n : Int => if n < 0 ∨ 4 < n then 31 else 0) p.chans := by rw [wholeE, if_neg (by omega)]
  rw [hE]
  refine go_count hmx 40 0 p.chans.length (fun i _ => firstE (fun n : Int => if n < 0 ∨ 4 < n then 31 else 0) p.chans = firstE (fun n : Int => if n < 0 ∨ 4 < n then 31 else 0) (p.chans.drop i)) (Nat.zero_le _) (hp.fewc.lt (by decide)) rfl rfl ?_ ?_
  · intro i hp' _ hlt hj hw
    obtain ⟨h1, h2⟩ := firstE_at hj hlt
    generalize hx' : p.chans[i] = x at *
    simp [hlt, hx', hw, irow]
    refine ⟨fun h => ?_, fun k1 k2 => h2 (by rw [if_neg (by omega)])⟩
    rw [h1 (by rw [if_pos h]; decide), if_pos h]
  intro hp' hj
  simp
  exact (firstE_end hj).symm

theorem sizes43 (main : Bool) (f : Func) (hf : f.Ok) : PureS Try.prog 65 [.g f.row, .b main] (.i .i64 (if formed main f = true then 0 else 32)) := by
  refine fun_go hmx Try.func65 r65 s65 (by rw [Try.ntmps65]; simp) ?_
  unfold c65
  simp [Func.row]
  refine ⟨fun a b c d => ⟨⟨⟨⟨a, b⟩, c⟩, d⟩, fun e => ⟨⟨⟨⟨a, b⟩, c⟩, d⟩, e⟩⟩, ?_⟩
  refine go_rounds hmx (fun i σ => i ≤ f.selects.length ∧ ∃ K, σ = ⟨[(5, .v (.b ((decide (0 ≤ f.regs) && decide (f.regs ≤ 8) && decide (0 ≤ f.params) && decide (f.params ≤ f.regs) && (!main || decide (f.params ≤ 0)) && decide (1 ≤ (f.code.length : Int)) && decide ((f.code.length : Int) ≤ 64) && decide ((f.selects.length : Int) ≤ 4)) && (f.selects.take i).all fun s => decide (1 ≤ s.cases.length ∧ s.cases.length ≤ 4)))),
    (57, .v (.sl 2 (f.selects.map Select.row))), (58, .v (.i .i64 f.selects.length)), (59, .v (.i .i64 (i : Int)))], K⟩) (fun i => f.selects.length - i) 0 ⟨Nat.zero_le _, [AObj.var (f.row.map .v)], by simp [Func.row]⟩ ?_
  rintro i σ ⟨hi, K, rfl⟩
  by_cases hlt : i < f.selects.length
  · have hw := wrap_nat (show i < 9223372036854775807 from Nat.lt_trans hlt (hf.fews.lt (by decide)))
    generalize hx' : f.selects[i] = s at *
    have ht : f.selects.take (i + 1) = f.selects.take i ++ [s] := by rw [List.take_add_one, List.getElem?_eq_getElem hlt, hx']; rfl
    generalize (decide (0 ≤ f.regs) && decide (f.regs ≤ 8) && decide (0 ≤ f.params) && decide (f.params ≤ f.regs) && (!main || decide (f.params ≤ 0)) && decide (1 ≤ (f.code.length : Int)) && decide ((f.code.length : Int) ≤ 64) && decide ((f.selects.length : Int) ≤ 4)) = b0
    generalize hA : ((f.selects.take i).all fun s => decide (1 ≤ s.cases.length ∧ s.cases.length ≤ 4)) = A
    simp [hlt, hx', hw, Select.row]
    refine ⟨i + 1, ⟨hlt, ?_, rfl⟩, by omega⟩
    have e1 : decide (1 ≤ (s.cases.length : Int)) = decide (1 ≤ s.cases.length) := by congr 1; apply propext; omega
    have e2 : decide ((s.cases.length : Int) ≤ 4) = decide (s.cases.length ≤ 4) := by congr 1; apply propext; omega
    rw [ht, List.all_append, e1, e2, ← hA]
    simp [Bool.and_assoc]
  · obtain rfl : i = f.selects.length := by omega
    have hF : formed main f = ((decide (0 ≤ f.regs) && decide (f.regs ≤ 8) && decide (0 ≤ f.params) && decide (f.params ≤ f.regs) && (!main || decide (f.params ≤ 0)) && decide (1 ≤ (f.code.length : Int)) && decide ((f.code.length : Int) ≤ 64) && decide ((f.selects.length : Int) ≤ 4)) && (f.selects.take f.selects.length).all fun s => decide (1 ≤ s.cases.length ∧ s.cases.length ≤ 4)) := by
      rw [formed, List.take_length]
      congr 1
      rw [Bool.eq_iff_iff]
      simp
      constructor
      · rintro ⟨a, b, c, d, e, g, h, i⟩
        exact ⟨⟨⟨⟨⟨⟨⟨a, b⟩, c⟩, d⟩, e⟩, by omega⟩, by omega⟩, by omega⟩
      · rintro ⟨⟨⟨⟨⟨⟨⟨a, b⟩, c⟩, d⟩, e⟩, g⟩, h⟩, i⟩
        exact ⟨a, b, c, d, e, by omega, by omega, by omega⟩
    rw [← hF]
    generalize formed main f = b
    cases b <;> simp

theorem selects44 (p : Prog) (f : Func) (hf : f.Ok) : PureS Try.prog 66 [.pim (p.row ++ f.row)] (.i .i64 (selsE p f)) := by
  refine fun_go hmx Try.func66 r66 s66 (by rw [Try.ntmps66]; simp) ?_
  unfold c66
  simp [Prog.row, Func.row]
  have hgE : ∀ n, ¬ regE f n = 0 → regE f n = 35 := fun n h => by unfold regE at h ⊢; split <;> simp_all
  refine go_count hmx 17 0 f.selects.length (fun i _ => firstE (selE p f) f.selects = firstE (selE p f) (f.selects.drop i)) (Nat.zero_le _) (hf.fews.lt (by decide)) rfl rfl ?_ ?_
  · intro i H _ hlt hj hw
    obtain ⟨h1, h2⟩ := firstE_at hj hlt
    have hok := hf.sel f.selects[i] (List.getElem_mem hlt)
    generalize hx' : f.selects[i] = s at *
    simp [hlt, hx', hw, Select.row]
    refine go_count hmx 24 0 s.cases.length (fun j h => (∃ K, h = H ++ AObj.var (s.row.map .v) :: K) ∧ firstE (caseE p f) s.cases = firstE (caseE p f) (s.cases.drop j)) (Nat.zero_le _) (hok.few.lt (by decide)) rfl ⟨⟨_, rfl⟩, rfl⟩ ?_ ?_
    · rintro j _ - hlt2 ⟨⟨K, rfl⟩, hj2⟩ hw2
      obtain ⟨k1, k2⟩ := firstE_at hj2 hlt2
      generalize hx2 : s.cases[j] = c at *
      have hbad : caseE p f c ≠ 0 → selsE p f = caseE p f c := fun hc => by
        have e1 := k1 hc
        have e2 : selE p f s = caseE p f c := by rw [selE, if_pos (by rw [e1]; exact hc), e1]
        rw [selsE, h1 (by rw [e2]; exact hc), e2]
      simp [hlt2, hx2, hw2, Case.row, Select.row]
      refine callk rfl Try.call72 (object54 c.chan p.chans.length) rfl ?_
      simp
      constructor
      · intro hc
        have := (objE_not hc).1
        rw [this]
        have e : caseE p f c = 36 := by rw [caseE, if_pos hc]
        rw [hbad (by rw [e]; decide), e]
      intro hc
      obtain ⟨q1, q2⟩ := objE_zero.1 hc
      have hlc : c.chan.toNat < p.chans.length := by omega
      have hgd : p.chans.getD c.chan.toNat 0 = p.chans[c.chan.toNat] := by simp [hlc]
      have n36 : ¬ (objE c.chan p.chans.length ≠ 0) := by simpa using hc
      have e35 : (c.send = true ∨ c.reg ≠ -1) → regE f c.reg ≠ 0 → caseE p f c = 35 := fun u v => by rw [caseE, if_neg n36, if_pos ⟨u, v⟩]
      have e37 : ¬ ((c.send = true ∨ c.reg ≠ -1) ∧ regE f c.reg ≠ 0) → c.send = true → p.chans[c.chan.toNat] = 0 → caseE p f c = 37 := fun u v w => by rw [caseE, if_neg n36, if_neg u, if_pos ⟨v, by rw [hgd]; exact w⟩]
      have eT : ¬ ((c.send = true ∨ c.reg ≠ -1) ∧ regE f c.reg ≠ 0) → (c.send = true → ¬ p.chans[c.chan.toNat] = 0) → caseE p f c = tgtE f c.to := fun u v => by rw [caseE, if_neg n36, if_neg u, if_neg (fun w => v w.1 (by rw [← hgd]; exact w.2))]
      constructor
      · intro hsr
        refine callk rfl Try.call73 (register55 p f c.reg) rfl ?_
        simp [q1, q2, hlc, irow]
        refine ⟨fun h => ?_, fun h => ?_⟩
        · have e := e35 hsr h
          rw [hbad (by rw [e]; decide), e, hgE _ h]
        have nr : ¬ ((c.send = true ∨ c.reg ≠ -1) ∧ regE f c.reg ≠ 0) := fun w => w.2 h
        refine ⟨fun g1 g2 => ?_, fun g => ?_⟩
        · have e := e37 nr g1 g2
          rw [hbad (by rw [e]; decide), e]
        have e := eT nr g
        refine callk rfl Try.call74 (target56 p f c.to) rfl ?_
        simp [hw2, Select.row]
        refine ⟨fun h => ?_, fun h => k2 (by rw [e]; exact h)⟩
        rw [hbad (by rw [e]; exact h), e]
      · intro hs1 hs2
        have nr : ¬ ((c.send = true ∨ c.reg ≠ -1) ∧ regE f c.reg ≠ 0) := fun w => by
          rcases w.1 with u | u
          · rw [hs1] at u; cases u
          · exact u hs2
        have e := eT nr (fun u => by rw [hs1] at u; cases u)
        simp [hs1, hs2, q1, q2, hlc, irow]
        refine callk rfl Try.call74 (target56 p f c.to) rfl ?_
        simp [hw2, Select.row]
        refine ⟨fun h => ?_, fun h => k2 (by rw [e]; exact h)⟩
        rw [hbad (by rw [e]; exact h), e]
    rintro _ ⟨⟨K, rfl⟩, hj2⟩
    have hz := firstE_end hj2
    simp [Select.row]
    have eS : selE p f s = if s.els ≠ -1 then tgtE f s.els else 0 := by rw [selE, hz]; rfl
    refine ⟨fun he => ?_, fun he => ⟨hw, h2 (by rw [eS, if_neg (by simpa using he)])⟩⟩
    rw [if_pos he] at eS
    refine callk rfl Try.call74 (target56 p f s.els) rfl ?_
    simp [hw]
    refine ⟨fun h => ?_, fun h => h2 (by rw [eS]; exact h)⟩
    rw [selsE, h1 (by rw [eS]; exact h), eS]
  intro H hj
  simp
  exact (firstE_end hj).symm
end Go.Sc.Q03
