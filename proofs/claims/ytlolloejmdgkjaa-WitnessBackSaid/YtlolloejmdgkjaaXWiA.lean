/- Chapter 27: what is right, by both texts. No condition. -/
import Derived.Test.YtlolloejmdgkjaaXOctB
import Derived.Test.YtlolloejmdgkjaaXWit
import Derived.Test.YtlolloejmdgkjaaXAv14
set_option linter.constructorNameAsVariable false
namespace Go.Sc.Wi
open Go Go.RowKit Go.Av Go.Proofs Go.Sc.Oct Go.Sc Go.Sc.Cw
set_option linter.unusedSimpArgs false
set_option linter.unusedVariables false
/-- scarab/witness.in -/
def c38 : ACode :=
  (.seq (.reg none [⟨some 6, none, .q (.mv (.c (.b false)))⟩])
  (.keep [0, 1, 2]
  (.seq (.reg none [⟨some 7, none, .q (.mv (.t 0))⟩, ⟨some 8, none, .q (.mv (.t 1))⟩, ⟨some 9, none, .q (.bin .geq (.t 7) (.t 8))⟩, ⟨some 10, none, .q (.mv (.t 9))⟩, ⟨some 11, some (10, true), .q (.mv (.t 0))⟩, ⟨some 12, some (10, true), .q (.mv (.t 2))⟩, ⟨some 13, some (10, true), .q (.bin .leq (.t 11) (.t 12))⟩, ⟨some 14, none, .pk (.t 10) (.t 13) (.c (.b false))⟩, ⟨some 6, none, .q (.mv (.t 14))⟩])
  .ret)))
theorem r38 : (Try.f38.body.bind (resC Try.prog Try.f38.ntmps)) = some (strip c38) := by kernel_rfl
theorem s38 : Try.f38.results.toList.mapM (resRes Try.prog) = some [.t 6] := by kernel_rfl
/-- scarab/witness.budget -/
def c39 : ACode :=
  (.seq (.reg none [⟨some 1, none, .m (.box (.t 0))⟩, ⟨some 2, none, .q (.mv (.c (.b false)))⟩])
  (.keep [1]
  (.seq (.reg none [⟨some 3, none, .q (.fa 0 (.t 1))⟩, ⟨some 4, none, .q (.ld none (.t 3))⟩, ⟨some 5, none, .call (.f 38) [(.t 4), (.c (.i .i64 0)), (.c (.i .i64 256))]⟩, ⟨some 6, none, .q (.mv (.t 5))⟩, ⟨some 7, some (6, true), .q (.fa 1 (.t 1))⟩, ⟨some 8, some (6, true), .q (.ld none (.t 7))⟩, ⟨some 9, some (6, true), .call (.f 38) [(.t 8), (.c (.i .i64 0)), (.c (.i .i64 4096))]⟩, ⟨some 10, none, .pk (.t 6) (.t 9) (.c (.b false))⟩, ⟨some 11, none, .q (.mv (.t 10))⟩, ⟨some 12, some (11, true), .q (.fa 2 (.t 1))⟩, ⟨some 13, some (11, true), .q (.ld none (.t 12))⟩, ⟨some 14, some (11, true), .call (.f 38) [(.t 13), (.c (.i .i64 0)), (.c (.i .i64 65536))]⟩, ⟨some 15, none, .pk (.t 11) (.t 14) (.c (.b false))⟩, ⟨some 2, none, .q (.mv (.t 15))⟩])
  .ret)))
theorem r39 : (Try.f39.body.bind (resC Try.prog Try.f39.ntmps)) = some (strip c39) := by kernel_rfl
theorem s39 : Try.f39.results.toList.mapM (resRes Try.prog) = some [.t 2] := by kernel_rfl
/-- scarab/witness.right -/
def c19 : ACode :=
  (.seq (.reg none [⟨some 1, none, .m (.box (.t 0))⟩, ⟨some 2, none, .q (.mv (.c (.b false)))⟩])
  (.keep [1]
  (.seq (.reg none [⟨some 9, none, .q (.fa 1 (.t 1))⟩, ⟨some 10, none, .q (.ld (some 7) (.t 9))⟩, ⟨some 3, none, .m (.alloc (.g [(.i .i64 0), (.i .i64 0), (.i .i64 0), (.i .i64 0), (.i .i64 0), (.i .i64 0), (.i .i64 0)]))⟩, ⟨none, none, .m (.st 7 (.t 3) (.t 10))⟩])
  (.keep [1, 3]
  (.seq (.reg none [⟨some 11, none, .q (.fa 0 (.t 3))⟩, ⟨some 12, none, .q (.ld none (.t 11))⟩, ⟨some 13, none, .call (.f 38) [(.t 12), (.c (.i .i64 1)), (.c (.i .i64 5))]⟩, ⟨some 14, none, .q (.mv (.t 13))⟩, ⟨some 15, some (14, true), .q (.fa 5 (.t 3))⟩, ⟨some 16, some (14, true), .q (.ld none (.t 15))⟩, ⟨some 17, some (14, true), .call (.f 38) [(.t 16), (.c (.i .i64 0)), (.c (.i .i64 255))]⟩, ⟨some 18, none, .pk (.t 14) (.t 17) (.c (.b false))⟩, ⟨some 19, none, .q (.mv (.t 18))⟩, ⟨some 20, some (19, true), .q (.fa 6 (.t 3))⟩, ⟨some 21, some (19, true), .q (.ld none (.t 20))⟩, ⟨some 22, some (19, true), .call (.f 38) [(.t 21), (.c (.i .i64 0)), (.c (.i .i64 255))]⟩, ⟨some 23, none, .pk (.t 19) (.t 22) (.c (.b false))⟩, ⟨some 4, none, .q (.mv (.t 23))⟩])
  (.keep [1, 3, 4]
  (.seq (.seq (.reg none [⟨some 24, none, .q (.fa 1 (.t 3))⟩, ⟨some 25, none, .q (.fa 0 (.t 24))⟩, ⟨some 26, none, .q (.ld none (.t 25))⟩, ⟨some 27, none, .q (.fa 1 (.t 3))⟩, ⟨some 28, none, .q (.fa 1 (.t 27))⟩, ⟨some 29, none, .q (.ld none (.t 28))⟩, ⟨some 30, none, .q (.fa 3 (.t 3))⟩, ⟨some 31, none, .q (.fa 0 (.t 30))⟩, ⟨some 32, none, .q (.ld none (.t 31))⟩, ⟨some 33, none, .q (.fa 3 (.t 3))⟩, ⟨some 34, none, .q (.fa 1 (.t 33))⟩, ⟨some 35, none, .q (.ld none (.t 34))⟩, ⟨some 36, none, .q (.bld [(.i .i64 0), (.i .i64 0), (.i .i64 0), (.i .i64 0)] [(0, 1, .t 26), (1, 1, .t 29), (2, 1, .t 32), (3, 1, .t 35)])⟩, ⟨some 37, none, .q (.mv (.c (.i .i64 0)))⟩])
    (.keep [1, 4, 36, 37]
    (.blk 0 (.keep [1, 4, 36, 37]
    (.loop (.fin [1, 4, 36, 37]
      (.seq (.reg none [⟨some 38, none, .q (.bin .lss (.t 37) (.c (.i .i64 4)))⟩])
      (.keep [1, 4, 36, 37, 38]
      (.seq (.cond (.t 38) .skip
        (.exit 0))
      (.seq (.blk 1 (.seq (.reg none [⟨some 39, none, .q (.idx 4 1 false (.t 36) (.t 37))⟩, ⟨some 6, none, .q (.mv (.t 39))⟩])
        (.keep [1, 4, 6, 36, 37]
        (.reg none [⟨some 40, none, .q (.mv (.t 4))⟩, ⟨some 41, none, .q (.mv (.t 40))⟩, ⟨some 42, some (41, true), .q (.mv (.t 6))⟩, ⟨some 43, some (41, true), .call (.f 38) [(.t 42), (.c (.i .i64 0)), (.c (.i .i64 64))]⟩, ⟨some 44, none, .pk (.t 41) (.t 43) (.c (.b false))⟩, ⟨some 4, none, .q (.mv (.t 44))⟩]))))
      (.keep [1, 4, 36, 37]
      (.reg none [⟨some 45, none, .q (.bin .add (.t 37) (.c (.i .i64 1)))⟩, ⟨some 37, none, .q (.mv (.t 45))⟩]))))))))))))
  (.seq (.seq (.reg none [⟨some 46, none, .q (.fa 8 (.t 1))⟩, ⟨some 47, none, .q (.ld none (.t 46))⟩, ⟨some 48, none, .q (.len false (.t 47))⟩, ⟨some 49, none, .q (.mv (.c (.i .i64 0)))⟩])
    (.keep [1, 4, 47, 48, 49]
    (.blk 2 (.keep [1, 4, 47, 48, 49]
    (.loop (.fin [1, 4, 47, 48, 49]
      (.seq (.reg none [⟨some 50, none, .q (.bin .lss (.t 49) (.t 48))⟩])
      (.keep [1, 4, 47, 48, 49, 50]
      (.seq (.cond (.t 50) .skip
        (.exit 2))
      (.seq (.blk 3 (.seq (.reg none [⟨some 51, none, .q (.ias 2 (.t 47) (.t 49))⟩, ⟨some 52, none, .q (.ld (some 2) (.t 51))⟩, ⟨some 8, none, .m (.alloc (.g [(.i .i64 0), (.i .i64 0)]))⟩, ⟨none, none, .m (.st 2 (.t 8) (.t 52))⟩])
        (.keep [1, 4, 8, 47, 48, 49]
        (.reg none [⟨some 53, none, .q (.mv (.t 4))⟩, ⟨some 54, none, .q (.mv (.t 53))⟩, ⟨some 55, some (54, true), .q (.fa 0 (.t 8))⟩, ⟨some 56, some (54, true), .q (.ld none (.t 55))⟩, ⟨some 57, some (54, true), .call (.f 38) [(.t 56), (.c (.i .i64 0)), (.c (.i .i64 5))]⟩, ⟨some 58, none, .pk (.t 54) (.t 57) (.c (.b false))⟩, ⟨some 59, none, .q (.mv (.t 58))⟩, ⟨some 60, some (59, true), .q (.fa 1 (.t 8))⟩, ⟨some 61, some (59, true), .q (.ld none (.t 60))⟩, ⟨some 62, some (59, true), .call (.f 38) [(.t 61), (.c (.i .i64 0)), (.c (.i .i64 4))]⟩, ⟨some 63, none, .pk (.t 59) (.t 62) (.c (.b false))⟩, ⟨some 4, none, .q (.mv (.t 63))⟩]))))
      (.keep [1, 4, 47, 48, 49]
      (.reg none [⟨some 64, none, .q (.bin .add (.t 49) (.c (.i .i64 1)))⟩, ⟨some 49, none, .q (.mv (.t 64))⟩]))))))))))))
  (.seq (.reg none [⟨some 65, none, .q (.mv (.t 4))⟩, ⟨some 66, none, .q (.mv (.t 65))⟩, ⟨some 67, some (66, true), .q (.fa 8 (.t 1))⟩, ⟨some 68, some (66, true), .q (.ld none (.t 67))⟩, ⟨some 69, some (66, true), .q (.len false (.t 68))⟩, ⟨some 70, some (66, true), .q (.bin .leq (.t 69) (.c (.i .i64 256)))⟩, ⟨some 71, none, .pk (.t 66) (.t 70) (.c (.b false))⟩, ⟨some 72, none, .q (.mv (.t 71))⟩, ⟨some 73, some (72, true), .q (.fa 9 (.t 1))⟩, ⟨some 74, some (72, true), .q (.ld (some 3) (.t 73))⟩, ⟨some 75, some (72, true), .call (.f 39) [(.t 74)]⟩, ⟨some 76, none, .pk (.t 72) (.t 75) (.c (.b false))⟩, ⟨some 2, none, .q (.mv (.t 76))⟩])
  .ret)))))))))
theorem r19 : (Try.f19.body.bind (resC Try.prog Try.f19.ntmps)) = some (strip c19) := by kernel_rfl
theorem s19 : Try.f19.results.toList.mapM (resRes Try.prog) = some [.t 2] := by kernel_rfl
/-- scarab/scarabref27.bounds -/
def c33 : ACode :=
  (.seq (.reg none [⟨some 0, none, .q (.mv (.c .nil))⟩])
  (.keep []
  (.seq (.reg none [⟨some 1, none, .m (.bsl 11 1 [(.i .u64 0)] [(0, 1, .c (.i .u64 5)), (1, 1, .c (.i .u64 64)), (2, 1, .c (.i .u64 64)), (3, 1, .c (.i .u64 64)), (4, 1, .c (.i .u64 64)), (5, 1, .c (.i .u64 255)), (6, 1, .c (.i .u64 255)), (7, 1, .c (.i .u64 256)), (8, 1, .c (.i .u64 4096)), (9, 1, .c (.i .u64 65536)), (10, 1, .c (.i .u64 256))])⟩, ⟨some 0, none, .q (.mv (.t 1))⟩])
  .ret)))
theorem r33 : (Try.f33.body.bind (resC Try.prog Try.f33.ntmps)) = some (strip c33) := by kernel_rfl
theorem s33 : Try.f33.results.toList.mapM (resRes Try.prog) = some [.t 0] := by kernel_rfl
/-- scarab/scarabref27.fields -/
def c24 : ACode :=
  (.seq (.reg none [⟨some 1, none, .m (.box (.t 0))⟩, ⟨some 2, none, .q (.mv (.c .nil))⟩])
  (.keep [1]
  (.seq (.reg none [⟨some 4, none, .q (.fa 1 (.t 1))⟩, ⟨some 5, none, .q (.ld (some 7) (.t 4))⟩, ⟨some 3, none, .m (.alloc (.g [(.i .i64 0), (.i .i64 0), (.i .i64 0), (.i .i64 0), (.i .i64 0), (.i .i64 0), (.i .i64 0)]))⟩, ⟨none, none, .m (.st 7 (.t 3) (.t 5))⟩])
  (.keep [1, 3]
  (.seq (.reg none [⟨some 6, none, .q (.fa 0 (.t 3))⟩, ⟨some 7, none, .q (.ld none (.t 6))⟩, ⟨some 8, none, .q (.fa 1 (.t 3))⟩, ⟨some 9, none, .q (.fa 0 (.t 8))⟩, ⟨some 10, none, .q (.ld none (.t 9))⟩, ⟨some 11, none, .q (.fa 1 (.t 3))⟩, ⟨some 12, none, .q (.fa 1 (.t 11))⟩, ⟨some 13, none, .q (.ld none (.t 12))⟩, ⟨some 14, none, .q (.fa 3 (.t 3))⟩, ⟨some 15, none, .q (.fa 0 (.t 14))⟩, ⟨some 16, none, .q (.ld none (.t 15))⟩, ⟨some 17, none, .q (.fa 3 (.t 3))⟩, ⟨some 18, none, .q (.fa 1 (.t 17))⟩, ⟨some 19, none, .q (.ld none (.t 18))⟩, ⟨some 20, none, .q (.fa 5 (.t 3))⟩, ⟨some 21, none, .q (.ld none (.t 20))⟩, ⟨some 22, none, .q (.fa 6 (.t 3))⟩, ⟨some 23, none, .q (.ld none (.t 22))⟩, ⟨some 24, none, .q (.fa 9 (.t 1))⟩, ⟨some 25, none, .q (.fa 0 (.t 24))⟩, ⟨some 26, none, .q (.ld none (.t 25))⟩, ⟨some 27, none, .q (.fa 9 (.t 1))⟩, ⟨some 28, none, .q (.fa 1 (.t 27))⟩, ⟨some 29, none, .q (.ld none (.t 28))⟩, ⟨some 30, none, .q (.fa 9 (.t 1))⟩, ⟨some 31, none, .q (.fa 2 (.t 30))⟩, ⟨some 32, none, .q (.ld none (.t 31))⟩, ⟨some 33, none, .q (.fa 8 (.t 1))⟩, ⟨some 34, none, .q (.ld none (.t 33))⟩, ⟨some 35, none, .q (.len false (.t 34))⟩, ⟨some 36, none, .m (.bsl 11 1 [(.i .i64 0)] [(0, 1, .t 7), (1, 1, .t 10), (2, 1, .t 13), (3, 1, .t 16), (4, 1, .t 19), (5, 1, .t 21), (6, 1, .t 23), (7, 1, .t 26), (8, 1, .t 29), (9, 1, .t 32), (10, 1, .t 35)])⟩, ⟨some 2, none, .q (.mv (.t 36))⟩])
  .ret)))))
theorem r24 : (Try.f24.body.bind (resC Try.prog Try.f24.ntmps)) = some (strip c24) := by kernel_rfl
theorem s24 : Try.f24.results.toList.mapM (resRes Try.prog) = some [.t 2] := by kernel_rfl
/-- scarab/scarabref27.Right -/
def c16 : ACode :=
  (.seq (.reg none [⟨some 1, none, .m (.box (.t 0))⟩, ⟨some 2, none, .q (.mv (.c (.b false)))⟩])
  (.keep [1]
  (.seq (.reg none [⟨some 8, none, .call (.f 33) []⟩, ⟨some 3, none, .q (.mv (.t 8))⟩])
  (.keep [1, 3]
  (.seq (.seq (.reg none [⟨some 9, none, .q (.ld (some 12) (.t 1))⟩, ⟨some 10, none, .call (.f 24) [(.t 9)]⟩, ⟨some 11, none, .q (.len false (.t 10))⟩, ⟨some 12, none, .q (.mv (.c (.i .i64 0)))⟩])
    (.keep [1, 3, 10, 11, 12]
    (.blk 0 (.keep [1, 3, 10, 11, 12]
    (.loop (.fin [1, 3, 10, 11, 12]
      (.seq (.reg none [⟨some 13, none, .q (.bin .lss (.t 12) (.t 11))⟩])
      (.keep [1, 3, 10, 11, 12, 13]
      (.seq (.cond (.t 13) .skip
        (.exit 0))
      (.seq (.blk 1 (.seq (.reg none [⟨some 14, none, .q (.mv (.t 12))⟩, ⟨some 15, none, .q (.ias 1 (.t 10) (.t 12))⟩, ⟨some 16, none, .q (.ld none (.t 15))⟩, ⟨some 4, none, .q (.mv (.t 14))⟩, ⟨some 5, none, .q (.mv (.t 16))⟩])
        (.keep [1, 3, 4, 5, 10, 11, 12]
        (.seq (.reg none [⟨some 17, none, .q (.mv (.t 5))⟩, ⟨some 18, none, .q (.bin .lss (.t 17) (.c (.i .i64 0)))⟩, ⟨some 19, none, .q (.mv (.t 18))⟩, ⟨some 20, some (19, false), .q (.mv (.t 5))⟩, ⟨some 21, some (19, false), .q (.cvi .u64 (.t 20))⟩, ⟨some 22, some (19, false), .q (.mv (.t 3))⟩, ⟨some 23, some (19, false), .q (.mv (.t 4))⟩, ⟨some 24, some (19, false), .q (.ias 1 (.t 22) (.t 23))⟩, ⟨some 25, some (19, false), .q (.ld none (.t 24))⟩, ⟨some 26, some (19, false), .q (.bin .gtr (.t 21) (.t 25))⟩, ⟨some 27, none, .pk (.t 19) (.c (.b true)) (.t 26)⟩])
        (.keep [1, 3, 10, 11, 12, 27]
        (.cond (.t 27) (.seq (.reg none [⟨some 2, none, .q (.mv (.c (.b false)))⟩])
          .ret)
        .skip))))))
      (.keep [1, 3, 10, 11, 12]
      (.reg none [⟨some 28, none, .q (.bin .add (.t 12) (.c (.i .i64 1)))⟩, ⟨some 12, none, .q (.mv (.t 28))⟩]))))))))))))
  (.seq (.seq (.reg none [⟨some 29, none, .q (.fa 8 (.t 1))⟩, ⟨some 30, none, .q (.ld none (.t 29))⟩, ⟨some 31, none, .q (.len false (.t 30))⟩, ⟨some 32, none, .q (.mv (.c (.i .i64 0)))⟩])
    (.keep [1, 30, 31, 32]
    (.blk 2 (.keep [1, 30, 31, 32]
    (.loop (.fin [1, 30, 31, 32]
      (.seq (.reg none [⟨some 33, none, .q (.bin .lss (.t 32) (.t 31))⟩])
      (.keep [1, 30, 31, 32, 33]
      (.seq (.cond (.t 33) .skip
        (.exit 2))
      (.seq (.blk 3 (.seq (.reg none [⟨some 34, none, .q (.ias 2 (.t 30) (.t 32))⟩, ⟨some 35, none, .q (.ld (some 2) (.t 34))⟩, ⟨some 7, none, .m (.alloc (.g [(.i .i64 0), (.i .i64 0)]))⟩, ⟨none, none, .m (.st 2 (.t 7) (.t 35))⟩])
        (.keep [1, 7, 30, 31, 32]
        (.seq (.reg none [⟨some 36, none, .q (.fa 0 (.t 7))⟩, ⟨some 37, none, .q (.ld none (.t 36))⟩, ⟨some 38, none, .q (.bin .lss (.t 37) (.c (.i .i64 0)))⟩, ⟨some 39, none, .q (.mv (.t 38))⟩, ⟨some 40, some (39, false), .q (.fa 0 (.t 7))⟩, ⟨some 41, some (39, false), .q (.ld none (.t 40))⟩, ⟨some 42, some (39, false), .q (.bin .gtr (.t 41) (.c (.i .i64 5)))⟩, ⟨some 43, none, .pk (.t 39) (.c (.b true)) (.t 42)⟩, ⟨some 44, none, .q (.mv (.t 43))⟩, ⟨some 45, some (44, false), .q (.fa 1 (.t 7))⟩, ⟨some 46, some (44, false), .q (.ld none (.t 45))⟩, ⟨some 47, some (44, false), .q (.bin .lss (.t 46) (.c (.i .i64 0)))⟩, ⟨some 48, none, .pk (.t 44) (.c (.b true)) (.t 47)⟩, ⟨some 49, none, .q (.mv (.t 48))⟩, ⟨some 50, some (49, false), .q (.fa 1 (.t 7))⟩, ⟨some 51, some (49, false), .q (.ld none (.t 50))⟩, ⟨some 52, some (49, false), .q (.bin .gtr (.t 51) (.c (.i .i64 4)))⟩, ⟨some 53, none, .pk (.t 49) (.c (.b true)) (.t 52)⟩])
        (.keep [1, 30, 31, 32, 53]
        (.cond (.t 53) (.seq (.reg none [⟨some 2, none, .q (.mv (.c (.b false)))⟩])
          .ret)
        .skip))))))
      (.keep [1, 30, 31, 32]
      (.reg none [⟨some 54, none, .q (.bin .add (.t 32) (.c (.i .i64 1)))⟩, ⟨some 32, none, .q (.mv (.t 54))⟩]))))))))))))
  (.seq (.reg none [⟨some 55, none, .q (.fa 1 (.t 1))⟩, ⟨some 56, none, .q (.fa 0 (.t 55))⟩, ⟨some 57, none, .q (.ld none (.t 56))⟩, ⟨some 58, none, .q (.bin .geq (.t 57) (.c (.i .i64 1)))⟩, ⟨some 2, none, .q (.mv (.t 58))⟩])
  .ret)))))))
theorem r16 : (Try.f16.body.bind (resC Try.prog Try.f16.ntmps)) = some (strip c16) := by kernel_rfl
theorem s16 : Try.f16.results.toList.mapM (resRes Try.prog) = some [.t 2] := by kernel_rfl
/-- scarab/scarabplain.SamePicks -/
def c36 : ACode :=
  (.seq (.reg none [⟨some 4, none, .q (.mv (.c (.b false)))⟩])
  (.keep [0, 1]
  (.seq (.seq (.reg none [⟨some 6, none, .q (.mv (.t 0))⟩, ⟨some 7, none, .q (.len false (.t 6))⟩, ⟨some 8, none, .q (.mv (.t 1))⟩, ⟨some 9, none, .q (.len false (.t 8))⟩, ⟨some 10, none, .q (.bin .neq (.t 7) (.t 9))⟩])
    (.keep [0, 1, 10]
    (.cond (.t 10) (.seq (.reg none [⟨some 4, none, .q (.mv (.c (.b false)))⟩])
      .ret)
    .skip)))
  (.seq (.seq (.reg none [⟨some 11, none, .q (.mv (.t 0))⟩, ⟨some 12, none, .q (.len false (.t 11))⟩, ⟨some 13, none, .q (.mv (.c (.i .i64 0)))⟩])
    (.keep [0, 1, 12, 13]
    (.blk 0 (.keep [0, 1, 12, 13]
    (.loop (.fin [0, 1, 12, 13]
      (.seq (.reg none [⟨some 14, none, .q (.bin .lss (.t 13) (.t 12))⟩])
      (.keep [0, 1, 12, 13, 14]
      (.seq (.cond (.t 14) .skip
        (.exit 0))
      (.seq (.blk 1 (.seq (.reg none [⟨some 15, none, .q (.mv (.t 13))⟩, ⟨some 5, none, .q (.mv (.t 15))⟩])
        (.keep [0, 1, 5, 12, 13]
        (.seq (.reg (some (9, [])) [⟨some 16, none, .q (.mv (.t 0))⟩, ⟨some 17, none, .q (.mv (.t 5))⟩, ⟨some 18, none, .q (.ias 2 (.t 16) (.t 17))⟩, ⟨some 19, none, .q (.ld (some 2) (.t 18))⟩, ⟨some 20, none, .q (.mv (.t 1))⟩, ⟨some 21, none, .q (.mv (.t 5))⟩, ⟨some 22, none, .q (.ias 2 (.t 20) (.t 21))⟩, ⟨some 23, none, .q (.ld (some 2) (.t 22))⟩, ⟨some 24, none, .q (.eqg true [.i, .i] (.t 19) (.t 23))⟩])
        (.keep [0, 1, 12, 13, 24]
        (.cond (.t 24) (.seq (.reg none [⟨some 4, none, .q (.mv (.c (.b false)))⟩])
          .ret)
        .skip))))))
      (.keep [0, 1, 12, 13]
      (.reg none [⟨some 25, none, .q (.bin .add (.t 13) (.c (.i .i64 1)))⟩, ⟨some 13, none, .q (.mv (.t 25))⟩]))))))))))))
  (.seq (.reg none [⟨some 4, none, .q (.mv (.c (.b true)))⟩])
  .ret)))))
theorem r36 : (Try.f36.body.bind (resC Try.prog Try.f36.ntmps)) = some (strip c36) := by kernel_rfl
theorem s36 : Try.f36.results.toList.mapM (resRes Try.prog) = some [.t 4] := by kernel_rfl
/-- scarab/scarabplain.SameBytes -/
def c11 : ACode :=
  (.seq (.reg none [⟨some 4, none, .q (.mv (.c (.b false)))⟩])
  (.keep [0, 1]
  (.seq (.reg none [⟨some 5, none, .q (.mv (.t 0))⟩, ⟨some 6, none, .q (.b2s (.t 5))⟩, ⟨some 7, none, .q (.mv (.t 1))⟩, ⟨some 8, none, .q (.b2s (.t 7))⟩, ⟨some 9, none, .q (.bin .eql (.t 6) (.t 8))⟩, ⟨some 4, none, .q (.mv (.t 9))⟩])
  .ret)))
theorem r11 : (Try.f11.body.bind (resC Try.prog Try.f11.ntmps)) = some (strip c11) := by kernel_rfl
theorem s11 : Try.f11.results.toList.mapM (resRes Try.prog) = some [.t 4] := by kernel_rfl
/-- scarab/scarablaw27.same -/
def c15 : ACode :=
  (.seq (.reg none [⟨some 2, none, .m (.box (.t 0))⟩, ⟨some 3, none, .m (.box (.t 1))⟩, ⟨some 4, none, .q (.mv (.c (.b false)))⟩])
  (.keep [2, 3]
  (.seq (.reg none [⟨some 5, none, .q (.fa 0 (.t 2))⟩, ⟨some 6, none, .q (.ld none (.t 5))⟩, ⟨some 7, none, .q (.fa 0 (.t 3))⟩, ⟨some 8, none, .q (.ld none (.t 7))⟩, ⟨some 9, none, .q (.bin .eql (.t 6) (.t 8))⟩, ⟨some 10, none, .q (.mv (.t 9))⟩, ⟨some 11, some (10, true), .q (.fa 1 (.t 2))⟩, ⟨some 12, some (10, true), .q (.ld (some 7) (.t 11))⟩, ⟨some 13, some (10, true), .q (.fa 1 (.t 3))⟩, ⟨some 14, some (10, true), .q (.ld (some 7) (.t 13))⟩, ⟨some 15, some (10, true), .q (.eqg false [.i, .i, .i, .i, .i, .i, .i] (.t 12) (.t 14))⟩, ⟨some 16, none, .pk (.t 10) (.t 15) (.c (.b false))⟩, ⟨some 17, none, .q (.mv (.t 16))⟩, ⟨some 18, some (17, true), .q (.fa 9 (.t 2))⟩, ⟨some 19, some (17, true), .q (.ld (some 3) (.t 18))⟩, ⟨some 20, some (17, true), .q (.fa 9 (.t 3))⟩, ⟨some 21, some (17, true), .q (.ld (some 3) (.t 20))⟩, ⟨some 22, some (17, true), .q (.eqg false [.i, .i, .i] (.t 19) (.t 21))⟩, ⟨some 23, none, .pk (.t 17) (.t 22) (.c (.b false))⟩, ⟨some 24, none, .q (.mv (.t 23))⟩, ⟨some 25, some (24, true), .q (.fa 8 (.t 2))⟩, ⟨some 26, some (24, true), .q (.ld none (.t 25))⟩, ⟨some 27, some (24, true), .q (.fa 8 (.t 3))⟩, ⟨some 28, some (24, true), .q (.ld none (.t 27))⟩, ⟨some 29, some (24, true), .call (.f 36) [(.t 26), (.t 28)]⟩, ⟨some 30, none, .pk (.t 24) (.t 29) (.c (.b false))⟩, ⟨some 4, none, .q (.mv (.t 30))⟩])
  .ret)))
theorem r15 : (Try.f15.body.bind (resC Try.prog Try.f15.ntmps)) = some (strip c15) := by kernel_rfl
theorem s15 : Try.f15.results.toList.mapM (resRes Try.prog) = some [.t 4] := by kernel_rfl
def inB (n a b : Int) : Bool := decide (a ≤ n ∧ n ≤ b)
theorem in_p (n a b : Int) : PureS Try.prog 38 [.i .i64 n, .i .i64 a, .i .i64 b] (.b (inB n a b)) := by
  refine fun_go hmx Try.func38 r38 s38 (by rw [Try.ntmps38]; simp) ?_
  unfold c38
  simp [inB]
theorem budget_p (s f r : Int) : PureS Try.prog 39 [.g [.i .i64 s, .i .i64 f, .i .i64 r]] (.b (inB s 0 256 && (inB f 0 4096 && inB r 0 65536))) := by
  refine fun_go hmx Try.func39 r39 s39 (by rw [Try.ntmps39]; simp) ?_
  unfold c39
  simp
  first
    | refine callk rfl Try.call38 (in_p s 0 256) rfl ?_
    | refine callks rfl Try.call38 (in_p s 0 256) rfl ?_
    | refine callq rfl Try.call38 (in_p s 0 256) rfl ?_
  simp
  first
    | refine callkg rfl Try.call38 rfl (fun _ => (in_p f 0 4096)) (fun hG => by first | (simp; done) | (simp at hG; done) | simpa using hG) rfl ?_
    | refine callksg rfl Try.call38 rfl (fun _ => (in_p f 0 4096)) (fun hG => by first | (simp; done) | (simp at hG; done) | simpa using hG) rfl ?_
    | refine callqg rfl Try.call38 rfl (fun _ => (in_p f 0 4096)) (fun hG => by first | (simp; done) | (simp at hG; done) | simpa using hG) rfl ?_
  simp
  first
    | refine callkg rfl Try.call38 rfl (fun _ => (in_p r 0 65536)) (fun hG => by first | (simp; done) | (simp at hG; done) | simpa using hG) rfl ?_
    | refine callksg rfl Try.call38 rfl (fun _ => (in_p r 0 65536)) (fun hG => by first | (simp; done) | (simp at hG; done) | simpa using hG) rfl ?_
    | refine callqg rfl Try.call38 rfl (fun _ => (in_p r 0 65536)) (fun hG => by first | (simp; done) | (simp at hG; done) | simpa using hG) rfl ?_
  simp [Bool.and_assoc]
theorem all_four (a b c d : Int) (i : Nat) (x : Int) (rest : List Int) (hi : i < [a, b, c, d].length) (hx : [a, b, c, d][i] = x) : [AV.i .i64 a, AV.i .i64 b, AV.i .i64 c, AV.i .i64 d][i]? = some (AV.i .i64 x) := by
  match i, hi with
  | 0, _ => simp at hx; simp [hx]
  | 1, _ => simp at hx; simp [hx]
  | 2, _ => simp at hx; simp [hx]
  | 3, _ => simp at hx; simp [hx]
theorem right_p (w : Wit) (hw : w.Ok) : PureS Try.prog 19 [.g w.row] (.b w.rightB) := by
  refine fun_go hmx Try.func19 r19 s19 (by rw [Try.ntmps19]; simp) ?_
  unfold c19
  simp [Wit.row]
  first
    | refine callk rfl Try.call38 (in_p w.kind 1 5) rfl ?_
    | refine callks rfl Try.call38 (in_p w.kind 1 5) rfl ?_
    | refine callq rfl Try.call38 (in_p w.kind 1 5) rfl ?_
  simp
  first
    | refine callkg rfl Try.call38 rfl (fun _ => (in_p w.num 0 255)) (fun hG => by first | (simp; done) | (simp at hG; done) | simpa using hG) rfl ?_
    | refine callksg rfl Try.call38 rfl (fun _ => (in_p w.num 0 255)) (fun hG => by first | (simp; done) | (simp at hG; done) | simpa using hG) rfl ?_
    | refine callqg rfl Try.call38 rfl (fun _ => (in_p w.num 0 255)) (fun hG => by first | (simp; done) | (simp at hG; done) | simpa using hG) rfl ?_
  simp
  first
    | refine callkg rfl Try.call38 rfl (fun _ => (in_p w.why 0 255)) (fun hG => by first | (simp; done) | (simp at hG; done) | simpa using hG) rfl ?_
    | refine callksg rfl Try.call38 rfl (fun _ => (in_p w.why 0 255)) (fun hG => by first | (simp; done) | (simp at hG; done) | simpa using hG) rfl ?_
    | refine callqg rfl Try.call38 rfl (fun _ => (in_p w.why 0 255)) (fun hG => by first | (simp; done) | (simp at hG; done) | simpa using hG) rfl ?_
  simp
  have hfew := hw.few
  unfold Few at hfew
  refine go_each hmx 2 37 [w.af, w.ap, w.bf, w.bp] (fun (ok : Bool) => [(4, .v (.b ok))]) (fun _ => [.var (w.row.map .v), .var [.v (.i .i64 w.kind), .v (.i .i64 w.af), .v (.i .i64 w.ap), .v (.i .i64 w.bf), .v (.i .i64 w.bp), .v (.i .i64 w.num), .v (.i .i64 w.why)]]) (fun i ok rest => (ok && rest.all fun n => inB n 0 64) = (inB w.kind 1 5 && (inB w.num 0 255 && (inB w.why 0 255 && [w.af, w.ap, w.bf, w.bp].all fun n => inB n 0 64)))) _ (by simp) rfl rfl rfl (by simp) (by simp) (by simp [Wit.row]) (by simp [Bool.and_assoc]) ?_ ?_
  · intro i x rest ok hi hx hr hj hwr
    have hg := all_four _ _ _ _ i x rest hi hx
    simp at hi
    have hi4 : (i : Int) < 4 := by omega
    simp [hi4, hg, hwr]
    refine ⟨hi, ?_⟩
    first
      | refine callkg rfl Try.call38 rfl (fun _ => (in_p x 0 64)) (fun hG => by first | (simp; done) | (simp at hG; done) | simpa using hG) rfl ?_
      | refine callksg rfl Try.call38 rfl (fun _ => (in_p x 0 64)) (fun hG => by first | (simp; done) | (simp at hG; done) | simpa using hG) rfl ?_
      | refine callqg rfl Try.call38 rfl (fun _ => (in_p x 0 64)) (fun hG => by first | (simp; done) | (simp at hG; done) | simpa using hG) rfl ?_
    simp [-Bool.exists_bool, hwr]
    simpa [Bool.and_assoc] using hj
  · intro ok hj
    simp only [List.all_nil, Bool.and_true] at hj
    simp [Wit.row]
    refine go_each hmx 2 49 w.picks (fun (ok : Bool) => [(4, .v (.b ok))]) (fun _ => [.var (w.row.map .v), .var [.v (.i .i64 w.kind), .v (.i .i64 w.af), .v (.i .i64 w.ap), .v (.i .i64 w.bf), .v (.i .i64 w.bp), .v (.i .i64 w.num), .v (.i .i64 w.why)]]) (fun i ok2 rest => (ok2 && rest.all fun x => inB x.go 0 5 && inB x.alt 0 4) = (ok && w.picks.all fun x => inB x.go 0 5 && inB x.alt 0 4)) _ (by omega) rfl rfl rfl (by simp) (by simp) (by simp [Wit.row]) rfl ?_ ?_
    · intro i x rest ok2 hi hx hr hj2 hwr
      simp [hi, hx, hwr, Pick.row]
      first
        | refine callkg rfl Try.call38 rfl (fun _ => (in_p x.go 0 5)) (fun hG => by first | (simp; done) | (simp at hG; done) | simpa using hG) rfl ?_
        | refine callksg rfl Try.call38 rfl (fun _ => (in_p x.go 0 5)) (fun hG => by first | (simp; done) | (simp at hG; done) | simpa using hG) rfl ?_
        | refine callqg rfl Try.call38 rfl (fun _ => (in_p x.go 0 5)) (fun hG => by first | (simp; done) | (simp at hG; done) | simpa using hG) rfl ?_
      simp
      first
        | refine callkg rfl Try.call38 rfl (fun _ => (in_p x.alt 0 4)) (fun hG => by first | (simp; done) | (simp at hG; done) | simpa using hG) rfl ?_
        | refine callksg rfl Try.call38 rfl (fun _ => (in_p x.alt 0 4)) (fun hG => by first | (simp; done) | (simp at hG; done) | simpa using hG) rfl ?_
        | refine callqg rfl Try.call38 rfl (fun _ => (in_p x.alt 0 4)) (fun hG => by first | (simp; done) | (simp at hG; done) | simpa using hG) rfl ?_
      simp [-Bool.exists_bool, hwr]
      rw [← hj2]
      simp only [List.all_cons, Bool.and_assoc]
    · intro ok2 hj2
      simp only [List.all_nil, Bool.and_true] at hj2
      simp [Wit.row]
      first
        | refine callkg rfl Try.call39 rfl (fun _ => (budget_p w.steps w.fuel w.runs)) (fun hG => by first | (simp; done) | (simp at hG; done) | simpa using hG) rfl ?_
        | refine callksg rfl Try.call39 rfl (fun _ => (budget_p w.steps w.fuel w.runs)) (fun hG => by first | (simp; done) | (simp at hG; done) | simpa using hG) rfl ?_
        | refine callqg rfl Try.call39 rfl (fun _ => (budget_p w.steps w.fuel w.runs)) (fun hG => by first | (simp; done) | (simp at hG; done) | simpa using hG) rfl ?_
      simp
      subst hj2 hj
      rw [Bool.eq_iff_iff, Wit.rightB_iff]
      simp only [inB, Bool.and_eq_true, decide_eq_true_eq, List.all_eq_true, List.all_cons, List.all_nil]
      constructor
      · rintro ⟨⟨⟨⟨a, b, c, d1, d2, d3, d4, _⟩, e⟩, f⟩, g1, g2, g3⟩
        exact ⟨a, d1, d2, d3, d4, b, c, g1, g2, g3, by omega, e⟩
      · rintro ⟨a, d1, d2, d3, d4, b, c, g1, g2, g3, f, e⟩
        exact ⟨⟨⟨⟨a, b, c, d1, d2, d3, d4, trivial⟩, e⟩, by omega⟩, g1, g2, g3⟩
theorem bounds_r : PureS Try.prog 33 [] (.sl 1 (bnds.map fun m => [.i .u64 (m.2 : Int)])) := by
  refine pure_of ?_
  refine fun_go hmx Try.func33 r33 s33 (by rw [Try.ntmps33]; simp) ?_
  unfold c33
  simp
  exact frz_rows rfl
theorem fields_r (w : Wit) (hw : w.Ok) : PureS Try.prog 24 [.g w.row] (.sl 1 (w.flds.map irow)) := by
  refine pure_of ?_
  refine fun_go hmx Try.func24 r24 s24 (by rw [Try.ntmps24]; simp) ?_
  unfold c24
  simp [Wit.row]
  exact frz_rows rfl
theorem samePicks_l (a b : List Pick) (ha : Few 16 a) (hb : Few 16 b) : PureS Try.prog 36 [.sl 2 (a.map Pick.row), .sl 2 (b.map Pick.row)] (.b (decide (a = b))) := by
  refine fun_go hmx Try.func36 r36 s36 (by rw [Try.ntmps36]; simp) ?_
  unfold c36
  simp
  refine ⟨fun h e => h (by rw [e]), fun hl => ?_⟩
  replace hl : a.length = b.length := by omega
  refine go_count hmx 13 0 a.length (fun i hp => a.take i = b.take i ∧ hp = []) (Nat.zero_le _) (ha.lt (by decide)) rfl ⟨rfl, rfl⟩ ?_ ?_
  · rintro i hp - hlt ⟨ht, rfl⟩ hw
    have hly : i < b.length := hl ▸ hlt
    have hxy := take_eq ht hlt hly
    generalize hx' : a[i] = x at *
    generalize hy' : b[i] = y at *
    simp [hlt, hly, hx', hy', hw]
    exact ⟨fun h hc => h (by subst hc; exact hx'.symm.trans hy'), fun h => hxy.2 h⟩
  · rintro hp ⟨ht, rfl⟩
    simp
    exact eq_of_take ht (Nat.le_refl _) (Nat.lt_irrefl _) hl
theorem sameBytes_l (a b : List UInt8) : PureS Try.prog 11 [.sl 1 (a.map brow), .sl 1 (b.map brow)] (.b (decide (a = b))) := by
  refine fun_go hmx Try.func11 r11 s11 (by rw [Try.ntmps11]; simp) ?_
  unfold c11
  simp
  have h : ∀ l : List UInt8, List.map (byteOf' ∘ brow) l = l := fun l => by rw [← List.map_map]; exact map_byte l
  rw [h, h, Bool.eq_iff_iff]
  simp
theorem same_l (w x : Wit) (hw : Few 16 w.picks) (hx : Few 16 x.picks) : PureS Try.prog 15 [.g w.row, .g x.row] (.b (decide (w = x))) := by
  refine fun_go hmx Try.func15 r15 s15 (by rw [Try.ntmps15]; simp) ?_
  unfold c15
  simp [Wit.row]
  first
    | refine callkg rfl Try.call36 rfl (fun _ => (samePicks_l w.picks x.picks hw hx)) (fun hG => by first | (simp; done) | (simp at hG; done) | simpa using hG) rfl ?_
    | refine callksg rfl Try.call36 rfl (fun _ => (samePicks_l w.picks x.picks hw hx)) (fun hG => by first | (simp; done) | (simp at hG; done) | simpa using hG) rfl ?_
    | refine callqg rfl Try.call36 rfl (fun _ => (samePicks_l w.picks x.picks hw hx)) (fun hG => by first | (simp; done) | (simp at hG; done) | simpa using hG) rfl ?_
  simp
  cases w; cases x
  rw [Bool.eq_iff_iff]
  simp only [Bool.and_eq_true, decide_eq_true_eq, Wit.mk.injEq]
  constructor
  · rintro ⟨⟨⟨a, b, c, d, e, f, g, h⟩, i, j, k⟩, l⟩
    exact ⟨by omega, b, c, d, e, f, g, h, l, i, j, k⟩
  · rintro ⟨a, b, c, d, e, f, g, h, l, i, j, k⟩
    exact ⟨⟨⟨by omega, b, c, d, e, f, g, h⟩, i, j, k⟩, l⟩
def bndB (x : Int × (Nat × Nat)) : Bool := decide (0 ≤ x.1 ∧ x.1 ≤ x.2.2)
theorem right_parts (w : Wit) : w.rightB = ((w.flds.zip bnds).all bndB && (w.picks.all (fun x => decide (pickOk x)) && decide (1 ≤ w.kind))) := by
  rw [Bool.eq_iff_iff, Wit.rightB_iff]
  simp only [Wit.flds, bnds, List.zip_cons_cons, List.zip_nil_left, List.all_cons, List.all_nil, bndB, Bool.and_eq_true, decide_eq_true_eq, List.all_eq_true]
  constructor
  · rintro ⟨a, b, c, d, e, f, g, h, i, j, k, l⟩
    exact ⟨⟨by omega, by omega, by omega, by omega, by omega, by omega, by omega, by omega, by omega, by omega, by omega, trivial⟩, l, a.1⟩
  · rintro ⟨⟨a, b, c, d, e, f, g, h, i, j, k, _⟩, l, m⟩
    exact ⟨by omega, by omega, by omega, by omega, by omega, by omega, by omega, by omega, by omega, by omega, by omega, l⟩
theorem right_r (w : Wit) (hw : w.Ok) : PureS Try.prog 16 [.g w.row] (.b w.rightB) := by
  refine fun_go hmx Try.func16 r16 s16 (by rw [Try.ntmps16]; simp) ?_
  unfold c16
  simp [Wit.row]
  first
    | refine callk rfl Try.call33 (bounds_r) rfl ?_
    | refine callks rfl Try.call33 (bounds_r) rfl ?_
    | refine callq rfl Try.call33 (bounds_r) rfl ?_
  simp
  first
    | refine callk rfl Try.call24 (fields_r w hw) rfl ?_
    | refine callks rfl Try.call24 (fields_r w hw) rfl ?_
    | refine callq rfl Try.call24 (fields_r w hw) rfl ?_
  simp
  have hfl : w.flds.length = 11 := rfl
  have hzl : (w.flds.zip bnds).length = 11 := rfl
  have hfew := hw.few
  unfold Few at hfew
  rw [right_parts]
  refine go_each hmx 1 12 (w.flds.zip bnds) (fun (_ : Unit) => []) (fun _ => [.var (w.row.map .v)]) (fun i _ rest => (w.flds.zip bnds).all bndB = rest.all bndB) () (by rw [hzl]; omega) rfl rfl rfl (by simp) (by simp) (by simp [Wit.row]) rfl ?_ ?_
  · rintro i ⟨x, m⟩ rest _ hi hx hr hj hwr
    rw [hzl] at hi
    rw [List.getElem_zip] at hx
    simp only [Prod.mk.injEq] at hx
    have h1 : w.flds[i]? = some x := by rw [List.getElem?_eq_getElem (by omega), hx.1]
    have h2 : bnds[i]? = some m := by rw [List.getElem?_eq_getElem (show i < bnds.length from hi), hx.2]
    have hi' : (i : Int) < 11 := by omega
    have hbl : bnds.length = 11 := rfl
    have hib : i < bnds.length := hi
    rw [hj]
    have hI : I64 x := by
      have hxm : x ∈ w.flds := by rw [← hx.1]; exact List.getElem_mem _
      obtain ⟨a1, a2, a3, a4, a5, a6, a7, a8, a9, a10⟩ := hw.flds
      simp only [Wit.flds, List.mem_cons, List.not_mem_nil, or_false] at hxm
      rcases hxm with rfl | rfl | rfl | rfl | rfl | rfl | rfl | rfl | rfl | rfl | rfl <;> first | assumption | exact ⟨by omega, by omega⟩
    obtain ⟨hI1, hI2⟩ := hI
    have hwx : 0 ≤ x → IntKind.u64.wrap x = x := fun h => by rw [IntKind.wrap_u64]; omega
    simp [hfl, hi, hi', hwr, h1, h2, irow, hbl, bndB, hx.1, hx.2]
    refine ⟨fun a b c => ?_, fun a b c => ?_⟩
    · rw [hwx b] at a; omega
    · rw [hwx a] at b; omega
  · rintro _ hj
    simp only [List.all_nil] at hj
    rw [hj, hzl]
    simp [hfl, Wit.row]
    refine go_each hmx 1 32 w.picks (fun (_ : Unit) => []) (fun _ => [.var (w.row.map .v)]) (fun i _ rest => w.picks.all (fun x => decide (pickOk x)) = rest.all (fun x => decide (pickOk x))) () (by omega) rfl rfl rfl (by simp) (by simp) (by simp [Wit.row]) rfl ?_ ?_
    · intro i x rest _ hi hx hr hj2 hwr
      simp [hi, hx, hwr, Pick.row]
      refine ⟨fun a b => ?_, fun a b c d => ?_⟩
      · have := b x (by rw [← hx]; exact List.getElem_mem _)
        obtain ⟨⟨_, _⟩, _, _⟩ := this
        omega
      · rw [hj2, List.all_cons, decide_eq_true (show pickOk x from ⟨⟨a, b⟩, c, d⟩), Bool.true_and]
    · rintro _ hj2
      rw [hj2]
      simp [Wit.row]
end Go.Sc.Wi
