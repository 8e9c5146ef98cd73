/- Short lists of numbers sorted, by slices.Sort's own text. No condition. -/
import Derived.Test.YtdjcfjfgdblefaaProg
import Derived.Test.YtdjcfjfgdblefaaXSrt
import Derived.Test.YtdjcfjfgdblefaaXWd
import Derived.Test.YtdjcfjfgdblefaaXSc
import Derived.KernelRfl
import Derived.Test.YtdjcfjfgdblefaaXReg
import Derived.Test.YtdjcfjfgdblefaaXT3n
set_option linter.constructorNameAsVariable false
namespace Go.Sc.So
open Go Go.RowKit Go.Av Go.Proofs Go.Sc Go.Sc.Srt
set_option linter.unusedSimpArgs false
set_option linter.unusedVariables false
theorem hmx : Try.prog.follows .mixedOrders = true := by kernel_rfl
/-- cmp.isNaN[int] -/
def c89 : ACode :=
  (.seq (.reg none [⟨some 2, none, .q (.mv (.c (.b false)))⟩])
  (.keep [0]
  (.seq (.reg none [⟨some 3, none, .q (.mv (.t 0))⟩, ⟨some 4, none, .q (.mv (.t 0))⟩, ⟨some 5, none, .q (.bin .neq (.t 3) (.t 4))⟩, ⟨some 2, none, .q (.mv (.t 5))⟩])
  .ret)))
theorem r89 : (Try.f89.body.bind (resC Try.prog Try.f89.ntmps)) = some (strip c89) := by kernel_rfl
theorem s89 : Try.f89.results.toList.mapM (resRes Try.prog) = some [.t 2] := by kernel_rfl
/-- cmp.Less[int] -/
def c79 : ACode :=
  (.seq (.reg none [⟨some 4, none, .q (.mv (.c (.b false)))⟩])
  (.keep [0, 1]
  (.seq (.reg none [⟨some 5, none, .q (.mv (.t 0))⟩, ⟨some 6, none, .call (.f 89) [(.t 5)]⟩, ⟨some 7, none, .q (.mv (.t 6))⟩, ⟨some 8, some (7, true), .q (.mv (.t 1))⟩, ⟨some 9, some (7, true), .call (.f 89) [(.t 8)]⟩, ⟨some 10, some (7, true), .q (.un .not (.t 9))⟩, ⟨some 11, none, .pk (.t 7) (.t 10) (.c (.b false))⟩, ⟨some 12, none, .q (.mv (.t 11))⟩, ⟨some 13, some (12, false), .q (.mv (.t 0))⟩, ⟨some 14, some (12, false), .q (.mv (.t 1))⟩, ⟨some 15, some (12, false), .q (.bin .lss (.t 13) (.t 14))⟩, ⟨some 16, none, .pk (.t 12) (.c (.b true)) (.t 15)⟩, ⟨some 4, none, .q (.mv (.t 16))⟩])
  .ret)))
theorem r79 : (Try.f79.body.bind (resC Try.prog Try.f79.ntmps)) = some (strip c79) := by kernel_rfl
theorem s79 : Try.f79.results.toList.mapM (resRes Try.prog) = some [.t 4] := by kernel_rfl
/-- slices.insertionSortOrdered[int] -/
def c73 : ACode :=
  (.seq (.reg none [⟨some 8, none, .q (.mv (.t 1))⟩, ⟨some 9, none, .q (.bin .add (.t 8) (.c (.i .i64 1)))⟩, ⟨some 6, none, .q (.mv (.t 9))⟩])
  (.keep [0, 1, 2, 6]
  (.blk 0 (.keep [0, 1, 2, 6]
  (.loop (.fin [0, 1, 2, 6]
    (.seq (.seq (.reg none [⟨some 10, none, .q (.mv (.t 6))⟩, ⟨some 11, none, .q (.mv (.t 2))⟩, ⟨some 12, none, .q (.bin .lss (.t 10) (.t 11))⟩])
      (.keep [0, 1, 2, 6, 12]
      (.cond (.t 12) .skip
      (.exit 0))))
    (.seq (.blk 1 (.seq (.reg none [⟨some 15, none, .q (.mv (.t 6))⟩, ⟨some 7, none, .q (.mv (.t 15))⟩])
      (.keep [0, 1, 2, 6, 7]
      (.blk 2 (.keep [0, 1, 2, 6, 7]
      (.loop (.fin [0, 1, 2, 6, 7]
        (.seq (.seq (.reg (some (13, [])) [⟨some 16, none, .q (.mv (.t 7))⟩, ⟨some 17, none, .q (.mv (.t 1))⟩, ⟨some 18, none, .q (.bin .gtr (.t 16) (.t 17))⟩, ⟨some 19, none, .q (.mv (.t 18))⟩, ⟨some 20, some (19, true), .q (.mv (.t 0))⟩, ⟨some 21, some (19, true), .q (.mv (.t 7))⟩, ⟨some 22, some (19, true), .q (.ias 1 (.t 20) (.t 21))⟩, ⟨some 23, some (19, true), .q (.ld none (.t 22))⟩, ⟨some 24, some (19, true), .q (.mv (.t 0))⟩, ⟨some 25, some (19, true), .q (.mv (.t 7))⟩, ⟨some 26, some (19, true), .q (.bin .sub (.t 25) (.c (.i .i64 1)))⟩, ⟨some 27, some (19, true), .q (.ias 1 (.t 24) (.t 26))⟩, ⟨some 28, some (19, true), .q (.ld none (.t 27))⟩, ⟨some 29, some (19, true), .call (.f 79) [(.t 23), (.t 28)]⟩, ⟨some 30, none, .pk (.t 19) (.t 29) (.c (.b false))⟩])
          (.keep [0, 1, 2, 6, 7, 30]
          (.cond (.t 30) .skip
          (.exit 2))))
        (.seq (.blk 3 (.reg (some (15, [])) [⟨some 33, none, .q (.mv (.t 0))⟩, ⟨some 34, none, .q (.mv (.t 7))⟩, ⟨some 35, none, .q (.mv (.t 0))⟩, ⟨some 36, none, .q (.mv (.t 7))⟩, ⟨some 37, none, .q (.bin .sub (.t 36) (.c (.i .i64 1)))⟩, ⟨some 38, none, .q (.mv (.t 0))⟩, ⟨some 39, none, .q (.mv (.t 7))⟩, ⟨some 40, none, .q (.bin .sub (.t 39) (.c (.i .i64 1)))⟩, ⟨some 41, none, .q (.ias 1 (.t 38) (.t 40))⟩, ⟨some 42, none, .q (.ld none (.t 41))⟩, ⟨some 43, none, .q (.mv (.t 0))⟩, ⟨some 44, none, .q (.mv (.t 7))⟩, ⟨some 45, none, .q (.ias 1 (.t 43) (.t 44))⟩, ⟨some 46, none, .q (.ld none (.t 45))⟩, ⟨some 47, none, .q (.ias 1 (.t 33) (.t 34))⟩, ⟨none, none, .m (.st 1 (.t 47) (.t 42))⟩, ⟨some 48, none, .q (.ias 1 (.t 35) (.t 37))⟩, ⟨none, none, .m (.st 1 (.t 48) (.t 46))⟩]))
        (.keep [0, 1, 2, 6, 7]
        (.reg none [⟨some 31, none, .q (.mv (.t 7))⟩, ⟨some 32, none, .q (.bin .sub (.t 31) (.c (.i .i64 1)))⟩, ⟨some 7, none, .q (.mv (.t 32))⟩])))))))))))
    (.keep [0, 1, 2, 6]
    (.reg none [⟨some 13, none, .q (.mv (.t 6))⟩, ⟨some 14, none, .q (.bin .add (.t 13) (.c (.i .i64 1)))⟩, ⟨some 6, none, .q (.mv (.t 14))⟩]))))))))))
theorem r73 : (Try.f73.body.bind (resC Try.prog Try.f73.ntmps)) = some (strip c73) := by kernel_rfl
theorem s73 : Try.f73.results.toList.mapM (resRes Try.prog) = some [] := by kernel_rfl
/-- math/bits.Len64 -/
def c83 : ACode :=
  (.seq (.reg none [⟨some 2, none, .q (.mv (.c (.i .i64 0)))⟩])
  (.keep [0, 2]
  (.seq (.seq (.reg none [⟨some 3, none, .q (.mv (.t 0))⟩, ⟨some 4, none, .q (.bin .geq (.t 3) (.c (.i .u64 4294967296)))⟩])
    (.keep [0, 2, 4]
    (.cond (.t 4) (.seq (.reg none [⟨some 5, none, .q (.mv (.t 0))⟩, ⟨some 6, none, .q (.bin .shr (.t 5) (.c (.i .u64 32)))⟩, ⟨some 0, none, .q (.mv (.t 6))⟩])
      (.keep [0]
      (.reg none [⟨some 2, none, .q (.mv (.c (.i .i64 32)))⟩])))
    .skip)))
  (.seq (.seq (.reg none [⟨some 7, none, .q (.mv (.t 0))⟩, ⟨some 8, none, .q (.bin .geq (.t 7) (.c (.i .u64 65536)))⟩])
    (.keep [0, 2, 8]
    (.cond (.t 8) (.seq (.reg none [⟨some 9, none, .q (.mv (.t 0))⟩, ⟨some 10, none, .q (.bin .shr (.t 9) (.c (.i .u64 16)))⟩, ⟨some 0, none, .q (.mv (.t 10))⟩])
      (.keep [0, 2]
      (.reg none [⟨some 11, none, .q (.mv (.t 2))⟩, ⟨some 12, none, .q (.bin .add (.t 11) (.c (.i .i64 16)))⟩, ⟨some 2, none, .q (.mv (.t 12))⟩])))
    .skip)))
  (.seq (.seq (.reg none [⟨some 13, none, .q (.mv (.t 0))⟩, ⟨some 14, none, .q (.bin .geq (.t 13) (.c (.i .u64 256)))⟩])
    (.keep [0, 2, 14]
    (.cond (.t 14) (.seq (.reg none [⟨some 15, none, .q (.mv (.t 0))⟩, ⟨some 16, none, .q (.bin .shr (.t 15) (.c (.i .u64 8)))⟩, ⟨some 0, none, .q (.mv (.t 16))⟩])
      (.keep [0, 2]
      (.reg none [⟨some 17, none, .q (.mv (.t 2))⟩, ⟨some 18, none, .q (.bin .add (.t 17) (.c (.i .i64 8)))⟩, ⟨some 2, none, .q (.mv (.t 18))⟩])))
    .skip)))
  (.seq (.reg none [⟨some 19, none, .q (.mv (.t 2))⟩, ⟨some 20, none, .q (.mv (.t 0))⟩, ⟨some 21, none, .q (.cvi .u8 (.t 20))⟩, ⟨some 22, none, .q (.sidx (.c (.s [0, 1, 2, 2, 3, 3, 3, 3, 4, 4, 4, 4, 4, 4, 4, 4, 5, 5, 5, 5, 5, 5, 5, 5, 5, 5, 5, 5, 5, 5, 5, 5, 6, 6, 6, 6, 6, 6, 6, 6, 6, 6, 6, 6, 6, 6, 6, 6, 6, 6, 6, 6, 6, 6, 6, 6, 6, 6, 6, 6, 6, 6, 6, 6, 7, 7, 7, 7, 7, 7, 7, 7, 7, 7, 7, 7, 7, 7, 7, 7, 7, 7, 7, 7, 7, 7, 7, 7, 7, 7, 7, 7, 7, 7, 7, 7, 7, 7, 7, 7, 7, 7, 7, 7, 7, 7, 7, 7, 7, 7, 7, 7, 7, 7, 7, 7, 7, 7, 7, 7, 7, 7, 7, 7, 7, 7, 7, 7, 8, 8, 8, 8, 8, 8, 8, 8, 8, 8, 8, 8, 8, 8, 8, 8, 8, 8, 8, 8, 8, 8, 8, 8, 8, 8, 8, 8, 8, 8, 8, 8, 8, 8, 8, 8, 8, 8, 8, 8, 8, 8, 8, 8, 8, 8, 8, 8, 8, 8, 8, 8, 8, 8, 8, 8, 8, 8, 8, 8, 8, 8, 8, 8, 8, 8, 8, 8, 8, 8, 8, 8, 8, 8, 8, 8, 8, 8, 8, 8, 8, 8, 8, 8, 8, 8, 8, 8, 8, 8, 8, 8, 8, 8, 8, 8, 8, 8, 8, 8, 8, 8, 8, 8, 8, 8, 8, 8, 8, 8, 8, 8, 8, 8, 8, 8, 8, 8, 8, 8, 8, 8, 8, 8, 8, 8, 8, 8])) (.t 21))⟩, ⟨some 23, none, .q (.cvi .i64 (.t 22))⟩, ⟨some 24, none, .q (.bin .add (.t 19) (.t 23))⟩, ⟨some 2, none, .q (.mv (.t 24))⟩])
  .ret))))))
theorem r83 : (Try.f83.body.bind (resC Try.prog Try.f83.ntmps)) = some (strip c83) := by kernel_rfl
theorem s83 : Try.f83.results.toList.mapM (resRes Try.prog) = some [.t 2] := by kernel_rfl
/-- math/bits.Len -/
def c71 : ACode :=
  (.seq (.reg none [⟨some 2, none, .q (.mv (.c (.i .i64 0)))⟩])
  (.keep [0]
  (.seq (.cond (.c (.b false)) (.seq (.reg none [⟨some 3, none, .q (.mv (.t 0))⟩, ⟨some 4, none, .q (.cvi .u32 (.t 3))⟩, ⟨some 5, none, .call (.f 82) [(.t 4)]⟩, ⟨some 2, none, .q (.mv (.t 5))⟩])
      .ret)
    .skip)
  (.seq (.reg none [⟨some 6, none, .q (.mv (.t 0))⟩, ⟨some 7, none, .call (.f 83) [(.t 6)]⟩, ⟨some 2, none, .q (.mv (.t 7))⟩])
  .ret))))
theorem r71 : (Try.f71.body.bind (resC Try.prog Try.f71.ntmps)) = some (strip c71) := by kernel_rfl
theorem s71 : Try.f71.results.toList.mapM (resRes Try.prog) = some [.t 2] := by kernel_rfl
/-- slices.pdqsortOrdered[int] -/
def c70 : ACode :=
  (.seq (.reg none [⟨some 8, none, .q (.mv (.c (.b true)))⟩])
  (.keep [0, 1, 2, 3, 8]
  (.seq (.reg none [⟨some 9, none, .q (.mv (.c (.b true)))⟩])
  (.keep [0, 1, 2, 3, 8, 9]
  (.blk 0 (.keep [0, 1, 2, 3, 8, 9]
  (.loop (.fin [0, 1, 2, 3, 8, 9]
    (.blk 1 (.seq (.reg none [⟨some 19, none, .q (.mv (.t 2))⟩, ⟨some 20, none, .q (.mv (.t 1))⟩, ⟨some 21, none, .q (.bin .sub (.t 19) (.t 20))⟩, ⟨some 10, none, .q (.mv (.t 21))⟩])
    (.keep [0, 1, 2, 3, 8, 9, 10]
    (.seq (.seq (.reg none [⟨some 22, none, .q (.mv (.t 10))⟩, ⟨some 23, none, .q (.bin .leq (.t 22) (.c (.i .i64 12)))⟩])
      (.keep [0, 1, 2, 3, 8, 9, 10, 23]
      (.cond (.t 23) (.seq (.reg none [⟨some 24, none, .q (.mv (.t 0))⟩, ⟨some 25, none, .q (.mv (.t 1))⟩, ⟨some 26, none, .q (.mv (.t 2))⟩, ⟨some 27, none, .call (.f 73) [(.t 24), (.t 25), (.t 26)]⟩])
        .ret)
      .skip)))
    (.seq (.seq (.reg none [⟨some 28, none, .q (.mv (.t 3))⟩, ⟨some 29, none, .q (.bin .eql (.t 28) (.c (.i .i64 0)))⟩])
      (.keep [0, 1, 2, 3, 8, 9, 10, 29]
      (.cond (.t 29) (.seq (.reg none [⟨some 30, none, .q (.mv (.t 0))⟩, ⟨some 31, none, .q (.mv (.t 1))⟩, ⟨some 32, none, .q (.mv (.t 2))⟩, ⟨some 33, none, .call (.f 74) [(.t 30), (.t 31), (.t 32)]⟩])
        .ret)
      .skip)))
    (.seq (.seq (.reg none [⟨some 34, none, .q (.mv (.t 8))⟩, ⟨some 35, none, .q (.un .not (.t 34))⟩])
      (.keep [0, 1, 2, 3, 8, 9, 10, 35]
      (.cond (.t 35) (.seq (.reg none [⟨some 36, none, .q (.mv (.t 0))⟩, ⟨some 37, none, .q (.mv (.t 1))⟩, ⟨some 38, none, .q (.mv (.t 2))⟩, ⟨some 39, none, .call (.f 75) [(.t 36), (.t 37), (.t 38)]⟩])
        (.keep [0, 1, 2, 3, 8, 9, 10]
        (.reg none [⟨some 40, none, .q (.mv (.t 3))⟩, ⟨some 41, none, .q (.bin .sub (.t 40) (.c (.i .i64 1)))⟩, ⟨some 3, none, .q (.mv (.t 41))⟩])))
      .skip)))
    (.seq (.reg none [⟨some 43, none, .q (.mv (.t 0))⟩, ⟨some 44, none, .q (.mv (.t 1))⟩, ⟨some 45, none, .q (.mv (.t 2))⟩, ⟨some 46, none, .call (.f 76) [(.t 43), (.t 44), (.t 45)]⟩, ⟨some 42, none, .q (.mv (.t 46))⟩, ⟨some 47, none, .q (.ext 0 (.t 42))⟩, ⟨some 48, none, .q (.ext 1 (.t 42))⟩, ⟨some 11, none, .q (.mv (.t 47))⟩, ⟨some 12, none, .q (.mv (.t 48))⟩])
    (.keep [0, 1, 2, 3, 8, 9, 10, 11, 12]
    (.seq (.seq (.reg none [⟨some 49, none, .q (.mv (.t 12))⟩, ⟨some 50, none, .q (.bin .eql (.t 49) (.c (.i .i64 2)))⟩])
      (.keep [0, 1, 2, 3, 8, 9, 10, 11, 12, 50]
      (.cond (.t 50) (.seq (.reg none [⟨some 51, none, .q (.mv (.t 0))⟩, ⟨some 52, none, .q (.mv (.t 1))⟩, ⟨some 53, none, .q (.mv (.t 2))⟩, ⟨some 54, none, .call (.f 77) [(.t 51), (.t 52), (.t 53)]⟩])
        (.keep [0, 1, 2, 3, 8, 9, 10, 11]
        (.seq (.reg none [⟨some 55, none, .q (.mv (.t 2))⟩, ⟨some 56, none, .q (.bin .sub (.t 55) (.c (.i .i64 1)))⟩, ⟨some 57, none, .q (.mv (.t 11))⟩, ⟨some 58, none, .q (.mv (.t 1))⟩, ⟨some 59, none, .q (.bin .sub (.t 57) (.t 58))⟩, ⟨some 60, none, .q (.bin .sub (.t 56) (.t 59))⟩, ⟨some 11, none, .q (.mv (.t 60))⟩])
        (.keep [0, 1, 2, 3, 8, 9, 10, 11]
        (.reg none [⟨some 12, none, .q (.mv (.c (.i .i64 1)))⟩])))))
      .skip)))
    (.seq (.seq (.reg none [⟨some 61, none, .q (.mv (.t 8))⟩, ⟨some 62, none, .q (.mv (.t 61))⟩, ⟨some 63, some (62, true), .q (.mv (.t 9))⟩, ⟨some 64, none, .pk (.t 62) (.t 63) (.c (.b false))⟩, ⟨some 65, none, .q (.mv (.t 64))⟩, ⟨some 66, some (65, true), .q (.mv (.t 12))⟩, ⟨some 67, some (65, true), .q (.bin .eql (.t 66) (.c (.i .i64 1)))⟩, ⟨some 68, none, .pk (.t 65) (.t 67) (.c (.b false))⟩])
      (.keep [0, 1, 2, 3, 8, 9, 10, 11, 68]
      (.cond (.t 68) (.seq (.reg none [⟨some 69, none, .q (.mv (.t 0))⟩, ⟨some 70, none, .q (.mv (.t 1))⟩, ⟨some 71, none, .q (.mv (.t 2))⟩, ⟨some 72, none, .call (.f 78) [(.t 69), (.t 70), (.t 71)]⟩])
        (.keep [0, 1, 2, 3, 8, 9, 10, 11, 72]
        (.cond (.t 72) .ret
        .skip)))
      .skip)))
    (.seq (.seq (.reg (some (12, [])) [⟨some 73, none, .q (.mv (.t 1))⟩, ⟨some 74, none, .q (.bin .gtr (.t 73) (.c (.i .i64 0)))⟩, ⟨some 75, none, .q (.mv (.t 74))⟩, ⟨some 76, some (75, true), .q (.mv (.t 0))⟩, ⟨some 77, some (75, true), .q (.mv (.t 1))⟩, ⟨some 78, some (75, true), .q (.bin .sub (.t 77) (.c (.i .i64 1)))⟩, ⟨some 79, some (75, true), .q (.ias 1 (.t 76) (.t 78))⟩, ⟨some 80, some (75, true), .q (.ld none (.t 79))⟩, ⟨some 81, some (75, true), .q (.mv (.t 0))⟩, ⟨some 82, some (75, true), .q (.mv (.t 11))⟩, ⟨some 83, some (75, true), .q (.ias 1 (.t 81) (.t 82))⟩, ⟨some 84, some (75, true), .q (.ld none (.t 83))⟩, ⟨some 85, some (75, true), .call (.f 79) [(.t 80), (.t 84)]⟩, ⟨some 86, some (75, true), .q (.un .not (.t 85))⟩, ⟨some 87, none, .pk (.t 75) (.t 86) (.c (.b false))⟩])
      (.keep [0, 1, 2, 3, 8, 9, 10, 11, 87]
      (.cond (.t 87) (.seq (.reg none [⟨some 88, none, .q (.mv (.t 0))⟩, ⟨some 89, none, .q (.mv (.t 1))⟩, ⟨some 90, none, .q (.mv (.t 2))⟩, ⟨some 91, none, .q (.mv (.t 11))⟩, ⟨some 92, none, .call (.f 80) [(.t 88), (.t 89), (.t 90), (.t 91)]⟩, ⟨some 13, none, .q (.mv (.t 92))⟩])
        (.keep [0, 2, 3, 8, 9, 13]
        (.seq (.reg none [⟨some 93, none, .q (.mv (.t 13))⟩, ⟨some 1, none, .q (.mv (.t 93))⟩])
        (.exit 1))))
      .skip)))
    (.seq (.reg none [⟨some 95, none, .q (.mv (.t 0))⟩, ⟨some 96, none, .q (.mv (.t 1))⟩, ⟨some 97, none, .q (.mv (.t 2))⟩, ⟨some 98, none, .q (.mv (.t 11))⟩, ⟨some 99, none, .call (.f 81) [(.t 95), (.t 96), (.t 97), (.t 98)]⟩, ⟨some 94, none, .q (.mv (.t 99))⟩, ⟨some 100, none, .q (.ext 0 (.t 94))⟩, ⟨some 101, none, .q (.ext 1 (.t 94))⟩, ⟨some 14, none, .q (.mv (.t 100))⟩, ⟨some 15, none, .q (.mv (.t 101))⟩])
    (.keep [0, 1, 2, 3, 10, 14, 15]
    (.seq (.reg none [⟨some 102, none, .q (.mv (.t 15))⟩, ⟨some 9, none, .q (.mv (.t 102))⟩])
    (.keep [0, 1, 2, 3, 9, 10, 14]
    (.seq (.reg none [⟨some 103, none, .q (.mv (.t 14))⟩, ⟨some 104, none, .q (.mv (.t 1))⟩, ⟨some 105, none, .q (.bin .sub (.t 103) (.t 104))⟩, ⟨some 106, none, .q (.mv (.t 2))⟩, ⟨some 107, none, .q (.mv (.t 14))⟩, ⟨some 108, none, .q (.bin .sub (.t 106) (.t 107))⟩, ⟨some 16, none, .q (.mv (.t 105))⟩, ⟨some 17, none, .q (.mv (.t 108))⟩])
    (.keep [0, 1, 2, 3, 9, 10, 14, 16, 17]
    (.seq (.reg none [⟨some 109, none, .q (.mv (.t 10))⟩, ⟨some 110, none, .q (.bin .quo (.t 109) (.c (.i .i64 8)))⟩, ⟨some 18, none, .q (.mv (.t 110))⟩])
    (.keep [0, 1, 2, 3, 9, 14, 16, 17, 18]
    (.seq (.reg none [⟨some 111, none, .q (.mv (.t 16))⟩, ⟨some 112, none, .q (.mv (.t 17))⟩, ⟨some 113, none, .q (.bin .lss (.t 111) (.t 112))⟩])
    (.keep [0, 1, 2, 3, 9, 14, 16, 17, 18, 113]
    (.cond (.t 113) (.seq (.reg none [⟨some 114, none, .q (.mv (.t 16))⟩, ⟨some 115, none, .q (.mv (.t 18))⟩, ⟨some 116, none, .q (.bin .geq (.t 114) (.t 115))⟩, ⟨some 8, none, .q (.mv (.t 116))⟩])
      (.keep [0, 1, 2, 3, 8, 9, 14]
      (.seq (.reg none [⟨some 117, none, .q (.mv (.t 0))⟩, ⟨some 118, none, .q (.mv (.t 1))⟩, ⟨some 119, none, .q (.mv (.t 14))⟩, ⟨some 120, none, .q (.mv (.t 3))⟩, ⟨some 121, none, .call (.f 70) [(.t 117), (.t 118), (.t 119), (.t 120)]⟩])
      (.keep [0, 2, 3, 8, 9, 14]
      (.reg none [⟨some 122, none, .q (.mv (.t 14))⟩, ⟨some 123, none, .q (.bin .add (.t 122) (.c (.i .i64 1)))⟩, ⟨some 1, none, .q (.mv (.t 123))⟩])))))
    (.seq (.reg none [⟨some 124, none, .q (.mv (.t 17))⟩, ⟨some 125, none, .q (.mv (.t 18))⟩, ⟨some 126, none, .q (.bin .geq (.t 124) (.t 125))⟩, ⟨some 8, none, .q (.mv (.t 126))⟩])
      (.keep [0, 1, 2, 3, 8, 9, 14]
      (.seq (.reg none [⟨some 127, none, .q (.mv (.t 0))⟩, ⟨some 128, none, .q (.mv (.t 14))⟩, ⟨some 129, none, .q (.bin .add (.t 128) (.c (.i .i64 1)))⟩, ⟨some 130, none, .q (.mv (.t 2))⟩, ⟨some 131, none, .q (.mv (.t 3))⟩, ⟨some 132, none, .call (.f 70) [(.t 127), (.t 129), (.t 130), (.t 131)]⟩])
      (.keep [0, 1, 3, 8, 9, 14]
      (.reg none [⟨some 133, none, .q (.mv (.t 14))⟩, ⟨some 2, none, .q (.mv (.t 133))⟩])))))))))))))))))))))))))))))))))))
theorem r70 : (Try.f70.body.bind (resC Try.prog Try.f70.ntmps)) = some (strip c70) := by kernel_rfl
theorem s70 : Try.f70.results.toList.mapM (resRes Try.prog) = some [] := by kernel_rfl
/-- slices.Sort[[]int,int] -/
def c62 : ACode :=
  (.seq (.reg none [⟨some 3, none, .q (.mv (.t 0))⟩, ⟨some 4, none, .q (.len false (.t 3))⟩, ⟨some 2, none, .q (.mv (.t 4))⟩])
  (.keep [0, 2]
  (.reg none [⟨some 5, none, .q (.mv (.t 0))⟩, ⟨some 6, none, .q (.mv (.t 2))⟩, ⟨some 7, none, .q (.mv (.t 2))⟩, ⟨some 8, none, .q (.cvi .u64 (.t 7))⟩, ⟨some 9, none, .call (.f 71) [(.t 8)]⟩, ⟨some 10, none, .call (.f 70) [(.t 5), (.c (.i .i64 0)), (.t 6), (.t 9)]⟩])))
theorem r62 : (Try.f62.body.bind (resC Try.prog Try.f62.ntmps)) = some (strip c62) := by kernel_rfl
theorem s62 : Try.f62.results.toList.mapM (resRes Try.prog) = some [] := by kernel_rfl
def ltI (a b : Int) : Bool := decide (a < b)
theorem ltI_ord : Ord ltI := ⟨fun x y h => by simp [ltI] at h ⊢; omega, fun x y z h1 h2 => by simp [ltI] at h1 h2 ⊢; omega⟩
theorem isNaN_p (x : Int) : PureS Try.prog 89 [.i .i64 x] (.b false) := by
  refine fun_go hmx Try.func89 r89 s89 (by rw [Try.ntmps89]; simp) ?_
  unfold c89
  simp
theorem less_p (x y : Int) : PureS Try.prog 79 [.i .i64 x, .i .i64 y] (.b (ltI x y)) := by
  refine fun_go hmx Try.func79 r79 s79 (by rw [Try.ntmps79]; simp) ?_
  unfold c79
  simp
  first
    | refine callk rfl Try.call89 (isNaN_p x) rfl ?_
    | refine callks rfl Try.call89 (isNaN_p x) rfl ?_
    | refine callq rfl Try.call89 (isNaN_p x) rfl ?_
  simp
  first
    | refine callkg rfl Try.call89 rfl (fun _ => (isNaN_p y)) (fun hG => by first | (simp; done) | (simp at hG; done) | simpa using hG) rfl ?_
    | refine callksg rfl Try.call89 rfl (fun _ => (isNaN_p y)) (fun hG => by first | (simp; done) | (simp at hG; done) | simpa using hG) rfl ?_
    | refine callqg rfl Try.call89 rfl (fun _ => (isNaN_p y)) (fun hG => by first | (simp; done) | (simp at hG; done) | simpa using hG) rfl ?_
  simp [ltI]
def Sorted1 (l : List Int) (v : Nat) (r : RV) (K : List AObj) : Prop := ∃ l', K = [.arr v 1 (vrows (l'.map irow))] ∧ SortedTo ltI l' l'.length ∧ l'.Perm l
theorem insertion_p (l : List Int) (v : Nat) (hl : l.length < 1099511627776) : CallS Try.prog 73 [.os 0 v, .v (.i .i64 0), .v (.i .i64 (l.length : Int))] [.arr v 1 (vrows (l.map irow))] (Sorted1 l v) := by
  refine fun_cut 1 hmx Try.func73 r73 s73 (by rw [Try.ntmps73]; simp) (by first | exact Nat.le_refl _ | decide | simp) ?_
  unfold c73
  simp
  by_cases h0 : l.length = 0
  · obtain rfl := List.eq_nil_of_length_eq_zero h0
    refine go_unroll hmx 1 ?_
    rw [goU_succ]
    simp
    exact ⟨[], rfl, fun a b x y h1 h2 => by simp at h2, .nil⟩
  refine go_while hmx 1 (fun (s : Nat × List Int) => [(6, .v (.i .i64 (s.1 : Int)))]) (fun s => [.arr v 1 (vrows (s.2.map irow))]) (fun s => 1 ≤ s.1 ∧ s.1 ≤ l.length ∧ s.2.Perm l ∧ SortedTo ltI s.2 s.1) (fun s => l.length - s.1) (1, l) rfl rfl rfl (by simp) (by simp) (by simp) ⟨Nat.le_refl _, by omega, .refl _, SortedTo.start l⟩ ?_
  rintro ⟨i, m⟩ ⟨h1, hi, hp, hs⟩
  simp only at h1 hi hp hs
  have hml := hp.length_eq
  by_cases hlt : i < l.length
  · have hltI : (i : Int) < (l.length : Int) := by omega
    simp [hltI, hlt]
    have hwi : IntKind.i64.wrap ((i : Int) + 1) = (i : Int) + 1 := wrap_in (by omega) (by omega)
    refine go_while hmx 1 (fun (s : Nat × List Int) => [(7, .v (.i .i64 (s.1 : Int)))]) (fun s => [.arr v 1 (vrows (s.2.map irow))]) (fun s => s.1 ≤ i ∧ s.2.Perm l ∧ SortedBut ltI s.2 (i + 1) s.1) (fun s => s.1) (i, m) rfl rfl rfl (by simp) (by simp) (by simp) ⟨Nat.le_refl _, hp, hs.but⟩ ?_
    rintro ⟨j, q⟩ ⟨hj, hq, hsb⟩
    simp only at hj hq hsb
    have hql := hq.length_eq
    match j, hj, hsb with
    | 0, hj, hsb =>
      obtain ⟨x, q', rfl⟩ : ∃ x q', q = x :: q' := by
        cases q with
        | nil => simp at hql; omega
        | cons x q' => exact ⟨x, q', rfl⟩
      have hwm : IntKind.i64.wrap (-1) = -1 := by decide
      simp [irow, vrows, hwm]
      first
        | refine callkg rfl Try.call79 rfl (fun _ => (less_p x x)) (fun hG => by first | (simp; done) | (simp at hG; done) | simpa using hG) rfl ?_
        | refine callksg rfl Try.call79 rfl (fun _ => (less_p x x)) (fun hG => by first | (simp; done) | (simp at hG; done) | simpa using hG) rfl ?_
        | refine callqg rfl Try.call79 rfl (fun _ => (less_p x x)) (fun hG => by first | (simp; done) | (simp at hG; done) | simpa using hG) rfl ?_
      simp
      have hd : SortedTo ltI (x :: q') (i + 1) := hsb.done ltI_ord (.inl rfl)
      exact ⟨i + 1, hwi, x :: q', by simp [irow], ⟨by omega, by omega, hq, hd⟩, by omega⟩
    | j + 1, hj, hsb =>
      have hgx : q[j]? = some q[j] := List.getElem?_eq_getElem (by omega)
      have hgy : q[j + 1]? = some q[j + 1] := List.getElem?_eq_getElem (by omega)
      have hw1 : IntKind.i64.wrap (j : Int) = (j : Int) := wrap_in (by omega) (by omega)
      generalize hxe : q[j] = x at hgx
      generalize hye : q[j + 1] = y at hgy
      have hj1 : j < q.length := by omega
      have hj2 : j + 1 < q.length := by omega
      have hj3 : (j : Int) < (q.length : Int) := by omega
      have hj4 : (j : Int) + 1 < (q.length : Int) := by omega
      have hj5 : (0 : Int) ≤ (j : Int) + 1 := by omega
      have hj6 : (0 : Int) < (j : Int) + 1 := by omega
      simp [hw1, hj1, hj2, hj3, hj4, hj5, hj6, irow, hxe, hye, vrows_at]
      first
        | refine callkg rfl Try.call79 rfl (fun _ => (less_p y x)) (fun hG => by first | (simp; done) | (simp at hG; done) | simpa using hG) rfl ?_
        | refine callksg rfl Try.call79 rfl (fun _ => (less_p y x)) (fun hG => by first | (simp; done) | (simp at hG; done) | simpa using hG) rfl ?_
        | refine callqg rfl Try.call79 rfl (fun _ => (less_p y x)) (fun hG => by first | (simp; done) | (simp at hG; done) | simpa using hG) rfl ?_
      simp [hw1, hj1, hj2, hj3, hj4, hj5, hj6, irow, hxe, hye, vrows_at]
      refine ⟨fun hlt2 => ⟨j, rfl, (q.set (j + 1) x).set j y, by simp [vrows, List.map_set, irow], ⟨by omega, (swap_perm hgx hgy).trans hq, hsb.swap ltI_ord (by omega) hgx hgy hlt2⟩, by omega⟩, fun hge => ⟨i + 1, hwi, q, rfl, ⟨by omega, by omega, hq, hsb.done ltI_ord (.inr ⟨j, x, y, rfl, hgx, hgy, hge⟩)⟩, by omega⟩⟩
  · have hltI : ¬ (i : Int) < (l.length : Int) := by omega
    simp [hlt]
    exact ⟨m, rfl, by rw [hml, show l.length = i by omega]; exact hs, hp⟩
def len8 : List UInt8 := [0, 1, 2, 2, 3, 3, 3, 3, 4, 4, 4, 4, 4, 4, 4, 4, 5, 5, 5, 5, 5, 5, 5, 5, 5, 5, 5, 5, 5, 5, 5, 5, 6, 6, 6, 6, 6, 6, 6, 6, 6, 6, 6, 6, 6, 6, 6, 6, 6, 6, 6, 6, 6, 6, 6, 6, 6, 6, 6, 6, 6, 6, 6, 6, 7, 7, 7, 7, 7, 7, 7, 7, 7, 7, 7, 7, 7, 7, 7, 7, 7, 7, 7, 7, 7, 7, 7, 7, 7, 7, 7, 7, 7, 7, 7, 7, 7, 7, 7, 7, 7, 7, 7, 7, 7, 7, 7, 7, 7, 7, 7, 7, 7, 7, 7, 7, 7, 7, 7, 7, 7, 7, 7, 7, 7, 7, 7, 7, 8, 8, 8, 8, 8, 8, 8, 8, 8, 8, 8, 8, 8, 8, 8, 8, 8, 8, 8, 8, 8, 8, 8, 8, 8, 8, 8, 8, 8, 8, 8, 8, 8, 8, 8, 8, 8, 8, 8, 8, 8, 8, 8, 8, 8, 8, 8, 8, 8, 8, 8, 8, 8, 8, 8, 8, 8, 8, 8, 8, 8, 8, 8, 8, 8, 8, 8, 8, 8, 8, 8, 8, 8, 8, 8, 8, 8, 8, 8, 8, 8, 8, 8, 8, 8, 8, 8, 8, 8, 8, 8, 8, 8, 8, 8, 8, 8, 8, 8, 8, 8, 8, 8, 8, 8, 8, 8, 8, 8, 8, 8, 8, 8, 8, 8, 8, 8, 8, 8, 8, 8, 8, 8, 8, 8, 8, 8, 8]
set_option maxRecDepth 100000 in
theorem len64_p (x : Nat) (hx : x < 256) : PureS Try.prog 83 [.i .u64 (x : Int)] (.i .i64 ((len8.getD x 0).toNat : Int)) := by
  refine fun_go hmx Try.func83 r83 s83 (by rw [Try.ntmps83]; simp) ?_
  unfold c83
  have h1 : ¬ (4294967296 : Int) ≤ (x : Int) := by omega
  have h2 : ¬ (65536 : Int) ≤ (x : Int) := by omega
  have h3 : ¬ (256 : Int) ≤ (x : Int) := by omega
  have h4 : (x : Int) < 4294967296 := by omega
  have h5 : (x : Int) < 65536 := by omega
  have h6 : (x : Int) < 256 := by omega
  have hw : IntKind.u8.wrap (x : Int) = (x : Int) := wrap_u8_lt hx
  rw [← show len8 = [0, 1, 2, 2, 3, 3, 3, 3, 4, 4, 4, 4, 4, 4, 4, 4, 5, 5, 5, 5, 5, 5, 5, 5, 5, 5, 5, 5, 5, 5, 5, 5, 6, 6, 6, 6, 6, 6, 6, 6, 6, 6, 6, 6, 6, 6, 6, 6, 6, 6, 6, 6, 6, 6, 6, 6, 6, 6, 6, 6, 6, 6, 6, 6, 7, 7, 7, 7, 7, 7, 7, 7, 7, 7, 7, 7, 7, 7, 7, 7, 7, 7, 7, 7, 7, 7, 7, 7, 7, 7, 7, 7, 7, 7, 7, 7, 7, 7, 7, 7, 7, 7, 7, 7, 7, 7, 7, 7, 7, 7, 7, 7, 7, 7, 7, 7, 7, 7, 7, 7, 7, 7, 7, 7, 7, 7, 7, 7, 8, 8, 8, 8, 8, 8, 8, 8, 8, 8, 8, 8, 8, 8, 8, 8, 8, 8, 8, 8, 8, 8, 8, 8, 8, 8, 8, 8, 8, 8, 8, 8, 8, 8, 8, 8, 8, 8, 8, 8, 8, 8, 8, 8, 8, 8, 8, 8, 8, 8, 8, 8, 8, 8, 8, 8, 8, 8, 8, 8, 8, 8, 8, 8, 8, 8, 8, 8, 8, 8, 8, 8, 8, 8, 8, 8, 8, 8, 8, 8, 8, 8, 8, 8, 8, 8, 8, 8, 8, 8, 8, 8, 8, 8, 8, 8, 8, 8, 8, 8, 8, 8, 8, 8, 8, 8, 8, 8, 8, 8, 8, 8, 8, 8, 8, 8, 8, 8, 8, 8, 8, 8, 8, 8, 8, 8, 8, 8] from rfl]
  generalize hlen : len8 = t
  have hl : t.length = 256 := by rw [← hlen]; rfl
  have h7 : (x : Int) < (t.length : Int) := by omega
  simp [h1, h2, h3, h4, h5, h6, hw, hl, h7]
  have ht := (t[x]?.getD 0).toNat_lt
  have hw2 : IntKind.i64.wrap ((t[x]?.getD 0).toNat : Int) = ((t[x]?.getD 0).toNat : Int) := wrap_in (by omega) (by omega)
  rw [hw2, hw2]
theorem len_p (x : Nat) (hx : x < 256) : PureS Try.prog 71 [.i .u64 (x : Int)] (.i .i64 ((len8.getD x 0).toNat : Int)) := by
  refine fun_go hmx Try.func71 r71 s71 (by rw [Try.ntmps71]; simp) ?_
  unfold c71
  simp
  first
    | refine callk rfl Try.call83 (len64_p x hx) rfl ?_
    | refine callks rfl Try.call83 (len64_p x hx) rfl ?_
    | refine callq rfl Try.call83 (len64_p x hx) rfl ?_
  simp
theorem pdq_p (l : List Int) (v : Nat) (hl : l.length ≤ 12) (lim : Int) : CallS Try.prog 70 [.os 0 v, .v (.i .i64 0), .v (.i .i64 (l.length : Int)), .v (.i .i64 lim)] [.arr v 1 (vrows (l.map irow))] (Sorted1 l v) := by
  refine fun_cut 1 hmx Try.func70 r70 s70 (by rw [Try.ntmps70]; simp) (by first | exact Nat.le_refl _ | decide | simp) ?_
  unfold c70
  have h12 : (l.length : Int) ≤ 12 := by omega
  have hw : IntKind.i64.wrap (l.length : Int) = (l.length : Int) := wrap_in (by omega) (by omega)
  simp
  refine go_unroll hmx 1 ?_
  rw [goU_succ]
  simp [h12, hw]
  refine callf [0] rfl Try.call73 (insertion_p l v (by omega)) (by decide) rfl (by simp) (by simp) (by simp) ?_
  rintro r _ ⟨l', rfl, hs, hp⟩
  simp
  exact ⟨l', rfl, hs, hp⟩
theorem sort_p (l : List Int) (v : Nat) (hl : l.length ≤ 12) : CallS Try.prog 62 [.os 0 v] [.arr v 1 (vrows (l.map irow))] (Sorted1 l v) := by
  refine fun_cut 1 hmx Try.func62 r62 s62 (by rw [Try.ntmps62]; simp) (by first | exact Nat.le_refl _ | decide | simp) ?_
  unfold c62
  simp
  have hw : IntKind.u64.wrap (l.length : Int) = (l.length : Int) := wrap_u64_lt (by omega)
  rw [hw]
  first
    | refine callk rfl Try.call71 (len_p l.length (by omega)) rfl ?_
    | refine callks rfl Try.call71 (len_p l.length (by omega)) rfl ?_
    | refine callq rfl Try.call71 (len_p l.length (by omega)) rfl ?_
  simp
  generalize ((len8[l.length]?.getD 0).toNat : Int) = lim
  refine callf [0] rfl Try.call70 (pdq_p l v hl lim) (by decide) rfl (by simp) (by simp) (by simp) ?_
  rintro r _ ⟨l', rfl, hs, hp⟩
  simp
  exact ⟨l', rfl, hs, hp⟩
end Go.Sc.So
/- Lists of numbers made compact and thinned out, by the library's own text. No condition. -/
set_option linter.constructorNameAsVariable false
namespace Go.Sc.So
open Go Go.RowKit Go.Av Go.Proofs Go.Sc Go.Sc.Srt
set_option linter.unusedSimpArgs false
set_option linter.unusedVariables false
/-- slices.Compact[[]int,int] -/
def c64 : ACode :=
  (.seq (.reg none [⟨some 2, none, .q (.mv (.c .nil))⟩])
  (.gst (.cutT 2)
  (.keep [0]
  (.seq (.seq (.reg none [⟨some 6, none, .q (.mv (.t 0))⟩, ⟨some 7, none, .q (.len false (.t 6))⟩, ⟨some 8, none, .q (.bin .lss (.t 7) (.c (.i .i64 2)))⟩])
    (.keep [0, 8]
    (.cond (.t 8) (.seq (.reg none [⟨some 9, none, .q (.mv (.t 0))⟩, ⟨some 2, none, .q (.mv (.t 9))⟩])
      (.gst (.cutT 2)
      .ret))
    .skip)))
  (.seq (.seq (.reg none [⟨some 3, none, .q (.mv (.c (.i .i64 1)))⟩])
    (.keep [0, 3]
    (.blk 0 (.keep [0, 3]
    (.loop (.fin [0, 3]
      (.seq (.seq (.reg none [⟨some 10, none, .q (.mv (.t 3))⟩, ⟨some 11, none, .q (.mv (.t 0))⟩, ⟨some 12, none, .q (.len false (.t 11))⟩, ⟨some 13, none, .q (.bin .lss (.t 10) (.t 12))⟩])
        (.keep [0, 3, 13]
        (.cond (.t 13) .skip
        (.exit 0))))
      (.seq (.blk 1 (.seq (.reg (some (10, [])) [⟨some 16, none, .q (.mv (.t 0))⟩, ⟨some 17, none, .q (.mv (.t 3))⟩, ⟨some 18, none, .q (.ias 1 (.t 16) (.t 17))⟩, ⟨some 19, none, .q (.ld none (.t 18))⟩, ⟨some 20, none, .q (.mv (.t 0))⟩, ⟨some 21, none, .q (.mv (.t 3))⟩, ⟨some 22, none, .q (.bin .sub (.t 21) (.c (.i .i64 1)))⟩, ⟨some 23, none, .q (.ias 1 (.t 20) (.t 22))⟩, ⟨some 24, none, .q (.ld none (.t 23))⟩, ⟨some 25, none, .q (.bin .eql (.t 19) (.t 24))⟩])
        (.keep [0, 3, 25]
        (.cond (.t 25) (.seq (.reg none [⟨some 26, none, .q (.mv (.t 0))⟩, ⟨some 27, none, .q (.mv (.t 3))⟩, ⟨some 28, none, .q (.sls 1 (.t 26) (some (.t 27)) none)⟩, ⟨some 4, none, .q (.mv (.t 28))⟩])
          (.keep [0, 3, 4]
          (.seq (.seq (.reg none [⟨some 5, none, .q (.mv (.c (.i .i64 1)))⟩])
            (.keep [0, 3, 4, 5]
            (.blk 2 (.keep [0, 3, 4, 5]
            (.loop (.fin [0, 3, 4, 5]
              (.seq (.seq (.reg none [⟨some 29, none, .q (.mv (.t 5))⟩, ⟨some 30, none, .q (.mv (.t 4))⟩, ⟨some 31, none, .q (.len false (.t 30))⟩, ⟨some 32, none, .q (.bin .lss (.t 29) (.t 31))⟩])
                (.keep [0, 3, 4, 5, 32]
                (.cond (.t 32) .skip
                (.exit 2))))
              (.seq (.blk 3 (.seq (.reg (some (10, [])) [⟨some 35, none, .q (.mv (.t 4))⟩, ⟨some 36, none, .q (.mv (.t 5))⟩, ⟨some 37, none, .q (.ias 1 (.t 35) (.t 36))⟩, ⟨some 38, none, .q (.ld none (.t 37))⟩, ⟨some 39, none, .q (.mv (.t 4))⟩, ⟨some 40, none, .q (.mv (.t 5))⟩, ⟨some 41, none, .q (.bin .sub (.t 40) (.c (.i .i64 1)))⟩, ⟨some 42, none, .q (.ias 1 (.t 39) (.t 41))⟩, ⟨some 43, none, .q (.ld none (.t 42))⟩, ⟨some 44, none, .q (.bin .neq (.t 38) (.t 43))⟩])
                (.keep [0, 3, 4, 5, 44]
                (.cond (.t 44) (.seq (.reg none [⟨some 45, none, .q (.mv (.t 0))⟩, ⟨some 46, none, .q (.mv (.t 3))⟩, ⟨some 47, none, .q (.mv (.t 4))⟩, ⟨some 48, none, .q (.mv (.t 5))⟩, ⟨some 49, none, .q (.ias 1 (.t 47) (.t 48))⟩, ⟨some 50, none, .q (.ld none (.t 49))⟩, ⟨some 51, none, .q (.ias 1 (.t 45) (.t 46))⟩, ⟨none, none, .m (.st 1 (.t 51) (.t 50))⟩])
                  (.keep [0, 3, 4, 5]
                  (.reg none [⟨some 52, none, .q (.mv (.t 3))⟩, ⟨some 53, none, .q (.bin .add (.t 52) (.c (.i .i64 1)))⟩, ⟨some 3, none, .q (.mv (.t 53))⟩])))
                .skip))))
              (.keep [0, 3, 4, 5]
              (.reg none [⟨some 33, none, .q (.mv (.t 5))⟩, ⟨some 34, none, .q (.bin .add (.t 33) (.c (.i .i64 1)))⟩, ⟨some 5, none, .q (.mv (.t 34))⟩]))))))))))
          (.seq (.reg none [⟨some 54, none, .q (.mv (.t 0))⟩, ⟨some 55, none, .q (.mv (.t 3))⟩, ⟨some 56, none, .q (.sls 1 (.t 54) (some (.t 55)) none)⟩, ⟨none, none, .m (.clr 1 [(.i .i64 0)] (.t 56))⟩])
          (.keep [0, 3]
          (.seq (.reg none [⟨some 57, none, .q (.mv (.t 0))⟩, ⟨some 58, none, .q (.mv (.t 3))⟩, ⟨some 59, none, .q (.sls 1 (.t 57) none (some (.t 58)))⟩, ⟨some 2, none, .q (.mv (.t 59))⟩])
          (.gst (.cutT 2)
          .ret)))))))
        .skip))))
      (.keep [0, 3]
      (.reg none [⟨some 14, none, .q (.mv (.t 3))⟩, ⟨some 15, none, .q (.bin .add (.t 14) (.c (.i .i64 1)))⟩, ⟨some 3, none, .q (.mv (.t 15))⟩]))))))))))
  (.seq (.reg none [⟨some 60, none, .q (.mv (.t 0))⟩, ⟨some 2, none, .q (.mv (.t 60))⟩])
  (.gst (.cutT 2)
  .ret)))))))
theorem r64 : (Try.f64.body.bind (resC Try.prog Try.f64.ntmps)) = some (strip c64) := by kernel_rfl
theorem s64 : Try.f64.results.toList.mapM (resRes Try.prog) = some [.t 2] := by kernel_rfl
/-- slices.IndexFunc[[]int,int] -/
def c72 : ACode :=
  (.seq (.reg none [⟨some 4, none, .q (.mv (.c (.i .i64 0)))⟩])
  (.keep [0, 1]
  (.seq (.seq (.reg none [⟨some 6, none, .q (.mv (.t 0))⟩, ⟨some 7, none, .q (.len false (.t 6))⟩, ⟨some 8, none, .q (.mv (.c (.i .i64 0)))⟩])
    (.keep [0, 1, 7, 8]
    (.blk 0 (.keep [0, 1, 7, 8]
    (.loop (.fin [0, 1, 7, 8]
      (.seq (.reg none [⟨some 9, none, .q (.bin .lss (.t 8) (.t 7))⟩])
      (.keep [0, 1, 7, 8, 9]
      (.seq (.cond (.t 9) .skip
        (.exit 0))
      (.seq (.blk 1 (.seq (.reg none [⟨some 10, none, .q (.mv (.t 8))⟩, ⟨some 5, none, .q (.mv (.t 10))⟩])
        (.keep [0, 1, 5, 7, 8]
        (.seq (.reg none [⟨some 11, none, .q (.mv (.t 1))⟩, ⟨some 12, none, .q (.mv (.t 0))⟩, ⟨some 13, none, .q (.mv (.t 5))⟩, ⟨some 14, none, .q (.ias 1 (.t 12) (.t 13))⟩, ⟨some 15, none, .q (.ld none (.t 14))⟩, ⟨some 16, none, .call (.t 11) [(.t 15)]⟩])
        (.keep [0, 1, 5, 7, 8, 16]
        (.cond (.t 16) (.seq (.reg none [⟨some 17, none, .q (.mv (.t 5))⟩, ⟨some 4, none, .q (.mv (.t 17))⟩])
          .ret)
        .skip))))))
      (.keep [0, 1, 7, 8]
      (.reg none [⟨some 18, none, .q (.bin .add (.t 8) (.c (.i .i64 1)))⟩, ⟨some 8, none, .q (.mv (.t 18))⟩]))))))))))))
  (.seq (.reg none [⟨some 4, none, .q (.mv (.c (.i .i64 (-1))))⟩])
  .ret))))
theorem r72 : (Try.f72.body.bind (resC Try.prog Try.f72.ntmps)) = some (strip c72) := by kernel_rfl
theorem s72 : Try.f72.results.toList.mapM (resRes Try.prog) = some [.t 4] := by kernel_rfl
/-- slices.DeleteFunc[[]int,int] -/
def c63 : ACode :=
  (.seq (.reg none [⟨some 4, none, .q (.mv (.c .nil))⟩])
  (.gst (.letT 4 1)
  (.keep [0, 1]
  (.seq (.reg none [⟨some 8, none, .q (.mv (.t 0))⟩, ⟨some 9, none, .q (.mv (.t 1))⟩, ⟨some 10, none, .call (.f 72) [(.t 8), (.t 9)]⟩, ⟨some 5, none, .q (.mv (.t 10))⟩])
  (.keep [0, 1, 5]
  (.seq (.seq (.reg none [⟨some 11, none, .q (.mv (.t 5))⟩, ⟨some 12, none, .q (.bin .eql (.t 11) (.c (.i .i64 (-1))))⟩])
    (.keep [0, 1, 5, 12]
    (.cond (.t 12) (.seq (.reg none [⟨some 13, none, .q (.mv (.t 0))⟩, ⟨some 4, none, .q (.mv (.t 13))⟩])
      (.gst (.letT 4 1)
      .ret))
    .skip)))
  (.seq (.seq (.reg none [⟨some 14, none, .q (.mv (.t 5))⟩, ⟨some 15, none, .q (.bin .add (.t 14) (.c (.i .i64 1)))⟩, ⟨some 6, none, .q (.mv (.t 15))⟩])
    (.keep [0, 1, 5, 6]
    (.blk 0 (.keep [0, 1, 5, 6]
    (.loop (.fin [0, 1, 5, 6]
      (.seq (.seq (.reg none [⟨some 16, none, .q (.mv (.t 6))⟩, ⟨some 17, none, .q (.mv (.t 0))⟩, ⟨some 18, none, .q (.len false (.t 17))⟩, ⟨some 19, none, .q (.bin .lss (.t 16) (.t 18))⟩])
        (.keep [0, 1, 5, 6, 19]
        (.cond (.t 19) .skip
        (.exit 0))))
      (.seq (.blk 1 (.seq (.reg none [⟨some 22, none, .q (.mv (.t 0))⟩, ⟨some 23, none, .q (.mv (.t 6))⟩, ⟨some 24, none, .q (.ias 1 (.t 22) (.t 23))⟩, ⟨some 25, none, .q (.ld none (.t 24))⟩, ⟨some 7, none, .q (.mv (.t 25))⟩])
        (.keep [0, 1, 5, 6, 7]
        (.seq (.reg none [⟨some 26, none, .q (.mv (.t 1))⟩, ⟨some 27, none, .q (.mv (.t 7))⟩, ⟨some 28, none, .call (.t 26) [(.t 27)]⟩, ⟨some 29, none, .q (.un .not (.t 28))⟩])
        (.keep [0, 1, 5, 6, 7, 29]
        (.cond (.t 29) (.seq (.reg none [⟨some 30, none, .q (.mv (.t 0))⟩, ⟨some 31, none, .q (.mv (.t 5))⟩, ⟨some 32, none, .q (.mv (.t 7))⟩, ⟨some 33, none, .q (.ias 1 (.t 30) (.t 31))⟩, ⟨none, none, .m (.st 1 (.t 33) (.t 32))⟩])
          (.keep [0, 1, 5, 6]
          (.reg none [⟨some 34, none, .q (.mv (.t 5))⟩, ⟨some 35, none, .q (.bin .add (.t 34) (.c (.i .i64 1)))⟩, ⟨some 5, none, .q (.mv (.t 35))⟩])))
        .skip))))))
      (.keep [0, 1, 5, 6]
      (.reg none [⟨some 20, none, .q (.mv (.t 6))⟩, ⟨some 21, none, .q (.bin .add (.t 20) (.c (.i .i64 1)))⟩, ⟨some 6, none, .q (.mv (.t 21))⟩]))))))))))
  (.seq (.reg none [⟨some 36, none, .q (.mv (.t 0))⟩, ⟨some 37, none, .q (.mv (.t 5))⟩, ⟨some 38, none, .q (.sls 1 (.t 36) (some (.t 37)) none)⟩, ⟨none, none, .m (.clr 1 [(.i .i64 0)] (.t 38))⟩])
  (.keep [0, 5]
  (.seq (.reg none [⟨some 39, none, .q (.mv (.t 0))⟩, ⟨some 40, none, .q (.mv (.t 5))⟩, ⟨some 41, none, .q (.sls 1 (.t 39) none (some (.t 40)))⟩, ⟨some 4, none, .q (.mv (.t 41))⟩])
  (.gst (.letT 4 1)
  .ret)))))))))))
theorem r63 : (Try.f63.body.bind (resC Try.prog Try.f63.ntmps)) = some (strip c63) := by kernel_rfl
theorem s63 : Try.f63.results.toList.mapM (resRes Try.prog) = some [.t 4] := by kernel_rfl
theorem take_set_lt {α : Type} {l : List α} {n k : Nat} {x : α} (h : n ≤ k) : (l.set k x).take n = l.take n := by
  rw [List.take_set, List.set_eq_of_length_le (by simp; omega)]
theorem compact_p (l : List Int) (v : Nat) (hl : l.length < 1099511627776) : CallS Try.prog 64 [.os 0 v] [.arr v 1 (vrows (l.map irow))] fun r K => ∃ v', r = .os 0 v' ∧ K = [.arr v' 1 (vrows ((ddL l).map irow))] := by
  refine fun_cut 1 hmx Try.func64 r64 s64 (by rw [Try.ntmps64]; simp) (by first | exact Nat.le_refl _ | decide | simp) ?_
  unfold c64
  simp
  by_cases h2 : l.length < 2
  · have h2I : (l.length : Int) < 2 := by omega
    have hdd : ddL l = l := by
      have := dd_all l l.length (Nat.le_refl _) (fun i h1 h2 => by omega)
      rw [ddL, this, List.take_length]
    simp [h2I, hdd]
    intro h3; omega
  have h2I : ¬ (l.length : Int) < 2 := by omega
  have h2J : (2 : Int) ≤ (l.length : Int) := by omega
  simp [h2I, h2J]
  refine go_while hmx 1 (fun (k : Nat) => [(3, .v (.i .i64 (k : Int)))]) (fun _ => [.arr v 1 (vrows (l.map irow))]) (fun k => 1 ≤ k ∧ k ≤ l.length ∧ ∀ i, 0 < i → i < k → l[i]? ≠ l[i - 1]?) (fun k => l.length - k) 1 rfl rfl rfl (by simp) (by simp) (by simp) ⟨Nat.le_refl _, by omega, fun i h1 h2 => by omega⟩ ?_
  rintro k ⟨hk1, hkl, hne⟩
  obtain ⟨k, rfl⟩ : ∃ k', k = k' + 1 := ⟨k - 1, by omega⟩
  by_cases hlt : k + 1 < l.length
  rotate_left
  · have hI : ¬ ((k : Int) + 1 < (l.length : Int)) := by omega
    have hdd : ddL l = l := by
      have := dd_all l l.length (Nat.le_refl _) (fun i h1 h2 => hne i h1 (by omega))
      rw [ddL, this, List.take_length]
    simp [hI, hdd]
  have hI : (k : Int) + 1 < (l.length : Int) := by omega
  have hI2 : (k : Int) < (l.length : Int) := by omega
  have hn1 : k < l.length := by omega
  have hw : IntKind.i64.wrap (k : Int) = (k : Int) := wrap_in (by omega) (by omega)
  have hw2 : IntKind.i64.wrap ((k : Int) + 1 + 1) = (k : Int) + 1 + 1 := wrap_in (by omega) (by omega)
  have h0 : (0 : Int) ≤ (k : Int) + 1 := by omega
  have hgx : l[k]? = some l[k] := List.getElem?_eq_getElem hn1
  have hgy : l[k + 1]? = some l[k + 1] := List.getElem?_eq_getElem hlt
  by_cases heq : l[k + 1] = l[k]
  rotate_left
  · simp [hI, hI2, hlt, hn1, hw, hw2, h0, irow, vrows_at, heq]
    refine ⟨k + 2, by omega, ⟨by omega, by omega, fun i h1 h2 => ?_⟩, by omega⟩
    by_cases hik : i = k + 1
    · subst hik
      simp only [Nat.add_sub_cancel]
      rw [hgx, hgy]
      exact fun e => heq (Option.some.inj e)
    · exact hne i h1 (by omega)
  simp [hI, hI2, hlt, hn1, hw, hw2, h0, irow, vrows_at, heq]
  refine ⟨by omega, ?_⟩
  have hdk : dd l (k + 1 + 1) = l.take (k + 1) := by
    have := dd_all l (k + 1) (by omega) hne
    rw [dd, hgy]
    simp only [Nat.add_sub_cancel]
    rw [if_pos ⟨by omega, by rw [hgx, heq]⟩, this]
  have hsub : l.length - (k + 1) + (k + 1) = l.length := by omega
  refine go_while hmx 1 (fun (s : Nat × Nat × List Int) => [(3, .v (.i .i64 (s.1 : Int))), (5, .v (.i .i64 (s.2.1 : Int)))]) (fun s => [.arr v 1 (vrows (s.2.2.map irow))]) (fun s => 1 ≤ s.1 ∧ 1 ≤ s.2.1 ∧ s.1 < k + 1 + s.2.1 ∧ k + 1 + s.2.1 ≤ l.length ∧ s.2.2.length = l.length ∧ s.2.2.take s.1 = dd l (k + 1 + s.2.1) ∧ s.2.2.drop (k + s.2.1) = l.drop (k + s.2.1)) (fun s => l.length - s.2.1) (k + 1, 1, l) rfl (by simp) rfl (by simp) (by simp) (by simp) ⟨by dsimp only; omega, by dsimp only; omega, by dsimp only; omega, by dsimp only; omega, rfl, hdk.symm, rfl⟩ ?_
  rintro ⟨kk, k2, R⟩ ⟨g1, g2, g3, g4, g5, g6, g7⟩
  simp only at g1 g2 g3 g4 g5 g6 g7
  have hk2I : ((l.length - (k + 1) : Nat) : Int) = (l.length : Int) - ((k : Int) + 1) := by omega
  by_cases hp : k + 1 + k2 < l.length
  · have q1 : k2 < l.length - (k + 1) := by omega
    have hR1 : R[k + 1 + k2]? = l[k + 1 + k2]? := by
      have := congrArg (·[1]?) g7
      simp only [List.getElem?_drop] at this
      rwa [show k + k2 + 1 = k + 1 + k2 by omega] at this
    have hR0 : R[k + k2]? = l[k + k2]? := by
      have := congrArg (·[0]?) g7
      simpa only [List.getElem?_drop, Nat.add_zero] using this
    obtain ⟨k2, rfl⟩ : ∃ j, k2 = j + 1 := ⟨k2 - 1, by omega⟩
    have q2 : IntKind.i64.wrap (k2 : Int) = (k2 : Int) := wrap_in (by omega) (by omega)
    have q3 : IntKind.i64.wrap ((k2 : Int) + 1 + 1) = (k2 : Int) + 1 + 1 := wrap_in (by omega) (by omega)
    have q4 : IntKind.i64.wrap ((kk : Int) + 1) = (kk : Int) + 1 := wrap_in (by omega) (by omega)
    have q5 : (k2 : Int) + 1 < ((l.length - (k + 1) : Nat) : Int) := by omega
    have q6 : (k2 : Int) < ((l.length - (k + 1) : Nat) : Int) := by omega
    have q7 : k + 1 + (k2 + 1) < R.length := by omega
    have q8 : k + 1 + k2 < R.length := by omega
    have q9 : kk < R.length := by omega
    have q10 : (kk : Int) < (R.length : Int) := by omega
    have q11 : (0 : Int) ≤ (k2 : Int) + 1 := by omega
    simp [q1, q2, q3, q4, q5, q6, q7, q8, q9, q10, q11, irow, vrows_at]
    have hget1 : l[k + 1 + (k2 + 1)]? = some R[k + 1 + (k2 + 1)] := by rw [← hR1]; exact List.getElem?_eq_getElem q7
    have hget0 : l[k + 1 + k2]? = some R[k + 1 + k2] := by
      have e : k + (k2 + 1) = k + 1 + k2 := by omega
      rw [e] at hR0
      rw [← hR0]; exact List.getElem?_eq_getElem q8
    have hdrop : ∀ x, List.drop (k + (k2 + 2)) (R.set kk x) = List.drop (k + (k2 + 2)) l := fun x => by
      rw [List.drop_set_of_lt (by omega)]
      have := congrArg (List.drop 1) g7
      rwa [List.drop_drop, List.drop_drop] at this
    have hdd1 : dd l (k + 1 + (k2 + 2)) = if R[k + 1 + (k2 + 1)] = R[k + 1 + k2] then dd l (k + 1 + (k2 + 1)) else dd l (k + 1 + (k2 + 1)) ++ [R[k + 1 + (k2 + 1)]] := by
      rw [show k + 1 + (k2 + 2) = k + 1 + (k2 + 1) + 1 by omega, dd, hget1]
      simp only
      rw [show k + 1 + (k2 + 1) - 1 = k + 1 + k2 by omega, hget0]
      by_cases hc : R[k + 1 + (k2 + 1)] = R[k + 1 + k2]
      · rw [if_pos ⟨by omega, by rw [hc]⟩, if_pos hc]
      · rw [if_neg (fun h => hc (Option.some.inj h.2).symm), if_neg hc]
    refine ⟨fun hc => ⟨kk + 1, k2 + 2, ⟨by omega, by omega⟩, R.set kk R[k + 1 + (k2 + 1)], by simp [vrows, List.map_set, irow], ⟨by omega, by omega, by omega, by omega, by simpa using g5, ?_, hdrop _⟩, by omega⟩, fun hc => ⟨kk, k2 + 2, ⟨rfl, by omega⟩, R, rfl, ⟨g1, by omega, by omega, by omega, g5, ?_, ?_⟩, by omega⟩⟩
    · rw [hdd1, if_neg hc, ← g6, List.take_add_one, take_set_lt (Nat.le_refl _), List.getElem?_set_self q9]
      rfl
    · rw [hdd1, if_pos hc, g6]
    · have := congrArg (List.drop 1) g7
      rwa [List.drop_drop, List.drop_drop] at this
  · have q1 : ¬ ((k2 : Int) < ((l.length - (k + 1) : Nat) : Int)) := by omega
    have q2 : (kk : Int) ≤ (R.length : Int) := by omega
    simp [q1, q2]
    have hX : (List.take kk (vrows (List.map irow R))).length = kk := by simp [vrows]; omega
    have hX2 : List.take kk (vrows (List.map irow R)) = vrows (List.map irow (ddL l)) := by
      rw [ddL, show l.length = k + 1 + k2 by omega, ← g6]
      simp [vrows, List.map_take]
    rw [List.take_left' hX, hX2]
    exact ⟨by omega, by omega, by simp, rfl⟩
/-- What a function of numbers tells, whatever it is handed. -/
def PredP (f : Nat) (p : Int → Bool) : Prop := ∀ x, PureS Try.prog f [.i .i64 x] (.b (p x))
theorem indexFunc_p (f : Nat) (p : Int → Bool) (hf : PredP f p) (hc : ∀ vs w, (callFunc f vs).run Try.prog w = .ok (.enter f vs) w) (l : List Int) (v : Nat) (hl : l.length < 1099511627776) : CallS Try.prog 72 [.os 0 v, .v (.fn f [])] [.arr v 1 (vrows (l.map irow))] fun r K => K = [.arr v 1 (vrows (l.map irow))] ∧ ((r = .v (.i .i64 (-1)) ∧ ∀ x ∈ l, p x = false) ∨ ∃ i : Nat, i < l.length ∧ r = .v (.i .i64 (i : Int)) ∧ (∀ x ∈ l.take i, p x = false) ∧ ∀ x, l[i]? = some x → p x = true) := by
  refine fun_cut 1 hmx Try.func72 r72 s72 (by rw [Try.ntmps72]; simp) (by first | exact Nat.le_refl _ | decide | simp) ?_
  unfold c72
  simp
  refine go_each hmx 1 8 l (fun (_ : Unit) => []) (fun _ => [.arr v 1 (vrows (l.map irow))]) (fun i _ rest => ∀ x ∈ l.take i, p x = false) () (by omega) rfl rfl rfl (by simp) (by simp) (by simp) (by simp) ?_ ?_
  · rintro i x rest _ hi hx hr hj hw
    have hiI : (i : Int) < (l.length : Int) := by omega
    simp [hi, hiI, hx, irow, vrows_at]
    refine callk rfl hc (hf x) rfl ?_
    simp [hw]
    have hgx : l[i]? = some x := by rw [List.getElem?_eq_getElem hi, hx]
    refine ⟨fun h => ⟨i, hi, rfl, hj, fun y hy => ?_⟩, fun h => fun y hy => ?_⟩
    · rw [hgx] at hy; cases hy; exact h
    · rw [List.take_add_one, hgx] at hy
      rcases List.mem_append.1 hy with hy | hy
      · exact hj y hy
      · simp at hy; subst hy; exact h
  · rintro _ hj
    rw [List.take_length] at hj
    simp
    exact hj
theorem delete_p (f : Nat) (p : Int → Bool) (hf : PredP f p) (hc : ∀ vs w, (callFunc f vs).run Try.prog w = .ok (.enter f vs) w) (l : List Int) (v : Nat) (hl : l.length < 1099511627776) : CallS Try.prog 63 [.os 0 v, .v (.fn f [])] [.arr v 1 (vrows (l.map irow))] fun r K => r = .v (.sl 1 ((l.filter fun x => !p x).map irow)) := by
  refine fun_go hmx Try.func63 r63 s63 (by rw [Try.ntmps63]; simp) ?_
  unfold c63
  simp
  refine callf [0] rfl Try.call72 (indexFunc_p f p hf hc l v hl) (by decide) rfl (by simp) (by simp) (by simp) ?_
  rintro _ _ ⟨rfl, ⟨rfl, hno⟩ | ⟨i, hi, rfl, hno, hyes⟩⟩
  · have hfl : (l.filter fun x => !p x) = l := List.filter_eq_self.2 fun x hx => by simp [hno x hx]
    simp [hfl]
  have hne : ¬ (i : Int) = -1 := by omega
  have hwi : IntKind.i64.wrap ((i : Int) + 1) = (i : Int) + 1 := wrap_in (by omega) (by omega)
  simp [hne, hwi]
  have hgi : l[i]? = some l[i] := List.getElem?_eq_getElem hi
  have hstart : l.take i = (l.take (i + 1)).filter fun x => !p x := by
    rw [List.take_add_one, hgi, List.filter_append, List.filter_eq_self.2 (fun x hx => by simp [hno x hx])]
    simp [hyes _ hgi]
  refine go_while hmx 1 (fun (s : Nat × Nat × List Int) => [(5, .v (.i .i64 (s.1 : Int))), (6, .v (.i .i64 (s.2.1 : Int)))]) (fun s => [.arr v 1 (vrows (s.2.2.map irow))]) (fun s => s.1 < s.2.1 ∧ s.2.1 ≤ l.length ∧ s.2.2.length = l.length ∧ s.2.2.take s.1 = (l.take s.2.1).filter (fun x => !p x) ∧ s.2.2.drop s.2.1 = l.drop s.2.1) (fun s => l.length - s.2.1) (i, i + 1, l) rfl (by simp) rfl (by simp) (by simp) (by simp) ⟨by dsimp only; omega, by dsimp only; omega, rfl, hstart, rfl⟩ ?_
  rintro ⟨k, j, R⟩ ⟨g1, g2, g3, g4, g5⟩
  simp only at g1 g2 g3 g4 g5
  by_cases hj : j < l.length
  · have q1 : (j : Int) < (R.length : Int) := by omega
    have q2 : j < R.length := by omega
    have q3 : k < R.length := by omega
    have q4 : (k : Int) < (R.length : Int) := by omega
    have q5 : IntKind.i64.wrap ((j : Int) + 1) = (j : Int) + 1 := wrap_in (by omega) (by omega)
    have q6 : IntKind.i64.wrap ((k : Int) + 1) = (k : Int) + 1 := wrap_in (by omega) (by omega)
    have hgj : l[j]? = some R[j] := by
      have := congrArg (·[0]?) g5
      simp only [List.getElem?_drop, Nat.add_zero] at this
      rw [← this]; exact List.getElem?_eq_getElem q2
    generalize hxe : R[j] = x at hgj
    have hdrop : List.drop (j + 1) R = List.drop (j + 1) l := by
      have := congrArg (List.drop 1) g5
      rwa [List.drop_drop, List.drop_drop] at this
    simp [q1, q2, irow, vrows_at, hxe]
    refine callk rfl hc (hf x) rfl ?_
    simp [q1, q2, q3, q4, q5, q6, irow, vrows_at]
    refine ⟨fun hp => ⟨k + 1, j + 1, ⟨by omega, by omega⟩, R.set k x, by simp [vrows, List.map_set, irow], ⟨by omega, by omega, by simpa using g3, ?_, ?_⟩, by omega⟩, fun hp => ⟨k, j + 1, ⟨rfl, by omega⟩, R, rfl, ⟨by omega, by omega, g3, ?_, hdrop⟩, by omega⟩⟩
    · rw [List.take_add_one, take_set_lt (Nat.le_refl _), List.getElem?_set_self q3, g4, List.take_add_one, hgj, List.filter_append]
      simp [hp]
    · rw [List.drop_set_of_lt (by omega)]; exact hdrop
    · rw [g4, List.take_add_one, hgj, List.filter_append]
      simp [hp]
  · have q1 : ¬ (j : Int) < (R.length : Int) := by omega
    have q2 : (k : Int) ≤ (R.length : Int) := by omega
    simp [q1, q2, take_vrows, drop_vrows, rep_vrows]
    have hX : (List.take k (List.map irow R)).length = k := by simp; omega
    rw [List.take_left' hX, ← List.map_take, g4, List.take_of_length_le (by omega)]
    exact ⟨by omega, rfl⟩
end Go.Sc.So
/- The registers of a list, rising, each once; what is asked of a place. No condition. -/
set_option linter.constructorNameAsVariable false
namespace Go.Sc.So
open Go Go.RowKit Go.Av Go.Proofs Go.Sc Go.Sc.Srt Go.Sc.Q03
set_option linter.unusedSimpArgs false
set_option linter.unusedVariables false
/-- scarab/prog.told -/
def c48 : ACode :=
  (.seq (.reg none [⟨some 2, none, .q (.mv (.c .nil))⟩])
  (.keep [0]
  (.seq (.reg none [⟨some 3, none, .q (.mv (.t 0))⟩, ⟨some 4, none, .call (.f 62) [(.t 3)]⟩])
  (.keep [0]
  (.seq (.reg none [⟨some 5, none, .q (.mv (.t 0))⟩, ⟨some 6, none, .call (.f 64) [(.t 5)]⟩, ⟨some 7, none, .call (.f 63) [(.t 6), (.f 65)]⟩, ⟨some 2, none, .q (.mv (.t 7))⟩])
  .ret)))))
theorem r48 : (Try.f48.body.bind (resC Try.prog Try.f48.ntmps)) = some (strip c48) := by kernel_rfl
theorem s48 : Try.f48.results.toList.mapM (resRes Try.prog) = some [.t 2] := by kernel_rfl
/-- scarab/prog.told$1 -/
def c65 : ACode :=
  (.seq (.reg none [⟨some 2, none, .q (.mv (.c (.b false)))⟩])
  (.keep [0]
  (.seq (.reg none [⟨some 3, none, .q (.mv (.t 0))⟩, ⟨some 4, none, .q (.bin .lss (.t 3) (.c (.i .i64 0)))⟩, ⟨some 2, none, .q (.mv (.t 4))⟩])
  .ret)))
theorem r65 : (Try.f65.body.bind (resC Try.prog Try.f65.ntmps)) = some (strip c65) := by kernel_rfl
theorem s65 : Try.f65.results.toList.mapM (resRes Try.prog) = some [.t 2] := by kernel_rfl
/-- scarab/prog.at -/
def c47 : ACode :=
  (.seq (.reg none [⟨some 3, none, .m (.box (.t 0))⟩, ⟨some 6, none, .m (.alloc (.g [(.i .i64 0), (.i .i64 0), (.i .i64 0), (.i .i64 0), (.i .i64 0)]))⟩, ⟨some 7, none, .q (.mv (.c (.i .i64 0)))⟩])
  (.keep [1, 2, 3, 6]
  (.seq (.seq (.reg none [⟨some 11, none, .q (.ld (some 4) (.t 3))⟩, ⟨some 12, none, .call (.f 21) [(.t 11)]⟩, ⟨some 10, none, .q (.mv (.t 12))⟩, ⟨some 13, none, .q (.ext 0 (.t 10))⟩, ⟨some 14, none, .q (.ext 1 (.t 10))⟩, ⟨some 9, none, .m (.alloc (.g [(.i .i64 0), (.i .i64 0)]))⟩, ⟨some 8, none, .q (.mv (.t 13))⟩, ⟨none, none, .m (.st 2 (.t 9) (.t 14))⟩])
    (.keep [1, 2, 3, 6, 8]
    (.seq (.reg none [⟨some 15, none, .q (.mv (.t 8))⟩, ⟨some 16, none, .q (.bin .neq (.t 15) (.c (.i .i64 0)))⟩])
    (.keep [1, 2, 3, 6, 16]
    (.cond (.t 16) (.seq (.reg none [⟨some 17, none, .q (.bld [(.i .i64 0), (.i .i64 0), (.i .i64 0), (.i .i64 0), (.i .i64 0)] [])⟩, ⟨none, none, .m (.st 5 (.t 6) (.t 17))⟩, ⟨some 7, none, .q (.mv (.c (.i .i64 3)))⟩])
      .ret)
    .skip)))))
  (.seq (.seq (.reg none [⟨some 18, none, .q (.mv (.t 1))⟩, ⟨some 19, none, .q (.bin .lss (.t 18) (.c (.i .i64 0)))⟩, ⟨some 20, none, .q (.mv (.t 19))⟩, ⟨some 21, some (20, false), .q (.mv (.t 1))⟩, ⟨some 22, some (20, false), .q (.fa 3 (.t 3))⟩, ⟨some 23, some (20, false), .q (.ld none (.t 22))⟩, ⟨some 24, some (20, false), .q (.len false (.t 23))⟩, ⟨some 25, some (20, false), .q (.bin .geq (.t 21) (.t 24))⟩, ⟨some 26, none, .pk (.t 20) (.c (.b true)) (.t 25)⟩, ⟨some 27, none, .q (.mv (.t 26))⟩, ⟨some 28, some (27, false), .q (.mv (.t 2))⟩, ⟨some 29, some (27, false), .q (.bin .lss (.t 28) (.c (.i .i64 0)))⟩, ⟨some 30, none, .pk (.t 27) (.c (.b true)) (.t 29)⟩, ⟨some 31, none, .q (.mv (.t 30))⟩, ⟨some 32, some (31, false), .q (.mv (.t 2))⟩, ⟨some 33, some (31, false), .q (.fa 3 (.t 3))⟩, ⟨some 34, some (31, false), .q (.ld none (.t 33))⟩, ⟨some 35, some (31, false), .q (.mv (.t 1))⟩, ⟨some 36, some (31, false), .q (.ias 4 (.t 34) (.t 35))⟩, ⟨some 37, some (31, false), .q (.fa 2 (.t 36))⟩, ⟨some 38, some (31, false), .q (.ld none (.t 37))⟩, ⟨some 39, some (31, false), .q (.len false (.t 38))⟩, ⟨some 40, some (31, false), .q (.bin .geq (.t 32) (.t 39))⟩, ⟨some 41, none, .pk (.t 31) (.c (.b true)) (.t 40)⟩])
    (.keep [1, 2, 3, 6, 41]
    (.cond (.t 41) (.seq (.reg none [⟨some 42, none, .q (.bld [(.i .i64 0), (.i .i64 0), (.i .i64 0), (.i .i64 0), (.i .i64 0)] [])⟩, ⟨none, none, .m (.st 5 (.t 6) (.t 42))⟩, ⟨some 7, none, .q (.mv (.c (.i .i64 1)))⟩])
      .ret)
    .skip)))
  (.seq (.reg none [⟨some 43, none, .q (.fa 3 (.t 3))⟩, ⟨some 44, none, .q (.ld none (.t 43))⟩, ⟨some 45, none, .q (.mv (.t 1))⟩, ⟨some 46, none, .q (.ias 4 (.t 44) (.t 45))⟩, ⟨some 47, none, .q (.fa 2 (.t 46))⟩, ⟨some 48, none, .q (.ld none (.t 47))⟩, ⟨some 49, none, .q (.mv (.t 2))⟩, ⟨some 50, none, .q (.ias 5 (.t 48) (.t 49))⟩, ⟨some 51, none, .q (.ld (some 5) (.t 50))⟩, ⟨none, none, .m (.st 5 (.t 6) (.t 51))⟩, ⟨some 7, none, .q (.mv (.c (.i .i64 0)))⟩])
  .ret)))))
theorem r47 : (Try.f47.body.bind (resC Try.prog Try.f47.ntmps)) = some (strip c47) := by kernel_rfl
theorem s47 : Try.f47.results.toList.mapM (resRes Try.prog) = some [.c 6 (some 5), .t 7] := by kernel_rfl
/-- scarab/scarabref03.rising -/
def c50 : ACode :=
  (.seq (.reg none [⟨some 2, none, .q (.mv (.c .nil))⟩])
  (.keep [0]
  (.seq (.reg none [⟨some 3, none, .q (.mv (.c .nil))⟩])
  (.gst (.nilT 3 1)
  (.keep [0, 3]
  (.seq (.seq (.reg none [⟨some 4, none, .q (.mv (.c (.i .i64 0)))⟩])
    (.keep [0, 3, 4]
    (.blk 0 (.keep [0, 3, 4]
    (.loop (.fin [0, 3, 4]
      (.seq (.seq (.reg none [⟨some 7, none, .q (.mv (.t 4))⟩, ⟨some 8, none, .q (.bin .lss (.t 7) (.c (.i .i64 8)))⟩])
        (.keep [0, 3, 4, 8]
        (.cond (.t 8) .skip
        (.exit 0))))
      (.seq (.blk 1 (.seq (.reg none [⟨some 11, none, .q (.mv (.t 0))⟩, ⟨some 12, none, .q (.len false (.t 11))⟩, ⟨some 13, none, .q (.mv (.c (.i .i64 0)))⟩])
        (.keep [0, 3, 4, 11, 12, 13]
        (.blk 2 (.keep [0, 3, 4, 11, 12, 13]
        (.loop (.fin [0, 3, 4, 11, 12, 13]
          (.seq (.reg none [⟨some 14, none, .q (.bin .lss (.t 13) (.t 12))⟩])
          (.keep [0, 3, 4, 11, 12, 13, 14]
          (.seq (.cond (.t 14) .skip
            (.exit 2))
          (.seq (.blk 3 (.seq (.reg none [⟨some 15, none, .q (.ias 1 (.t 11) (.t 13))⟩, ⟨some 16, none, .q (.ld none (.t 15))⟩, ⟨some 6, none, .q (.mv (.t 16))⟩])
            (.keep [0, 3, 4, 6, 11, 12, 13]
            (.seq (.reg none [⟨some 17, none, .q (.mv (.t 6))⟩, ⟨some 18, none, .q (.mv (.t 4))⟩, ⟨some 19, none, .q (.bin .eql (.t 17) (.t 18))⟩])
            (.keep [0, 3, 4, 11, 12, 13, 19]
            (.cond (.t 19) (.seq (.reg none [⟨some 20, none, .q (.mv (.t 3))⟩, ⟨some 21, none, .q (.mv (.t 4))⟩, ⟨some 22, none, .m (.bsl 1 1 [(.i .i64 0)] [(0, 1, .t 21)])⟩, ⟨some 23, none, .m (.app 1 8 (.t 20) (.t 22))⟩, ⟨some 3, none, .q (.mv (.t 23))⟩])
              (.exit 2))
            .skip))))))
          (.keep [0, 3, 4, 11, 12, 13]
          (.reg none [⟨some 24, none, .q (.bin .add (.t 13) (.c (.i .i64 1)))⟩, ⟨some 13, none, .q (.mv (.t 24))⟩])))))))))))))
      (.keep [0, 3, 4]
      (.reg none [⟨some 9, none, .q (.mv (.t 4))⟩, ⟨some 10, none, .q (.bin .add (.t 9) (.c (.i .i64 1)))⟩, ⟨some 4, none, .q (.mv (.t 10))⟩]))))))))))
  (.seq (.reg none [⟨some 25, none, .q (.mv (.t 3))⟩, ⟨some 2, none, .q (.mv (.t 25))⟩])
  .ret)))))))
theorem r50 : (Try.f50.body.bind (resC Try.prog Try.f50.ntmps)) = some (strip c50) := by kernel_rfl
theorem s50 : Try.f50.results.toList.mapM (resRes Try.prog) = some [.t 2] := by kernel_rfl
/-- scarab/scarabref03.asked -/
def c49 : ACode :=
  (.seq (.reg none [⟨some 3, none, .m (.box (.t 0))⟩, ⟨some 6, none, .q (.mv (.c (.i .i64 0)))⟩])
  (.keep [1, 2, 3]
  (.seq (.seq (.reg none [⟨some 7, none, .q (.ld (some 4) (.t 3))⟩, ⟨some 8, none, .call (.f 22) [(.t 7)]⟩, ⟨some 9, none, .q (.un .not (.t 8))⟩])
    (.keep [1, 2, 3, 9]
    (.cond (.t 9) (.seq (.reg none [⟨some 6, none, .q (.mv (.c (.i .i64 3)))⟩])
      .ret)
    .skip)))
  (.seq (.seq (.reg none [⟨some 10, none, .q (.mv (.t 1))⟩, ⟨some 11, none, .q (.bin .lss (.t 10) (.c (.i .i64 0)))⟩, ⟨some 12, none, .q (.mv (.t 11))⟩, ⟨some 13, some (12, false), .q (.mv (.t 1))⟩, ⟨some 14, some (12, false), .q (.fa 3 (.t 3))⟩, ⟨some 15, some (12, false), .q (.ld none (.t 14))⟩, ⟨some 16, some (12, false), .q (.len false (.t 15))⟩, ⟨some 17, some (12, false), .q (.bin .geq (.t 13) (.t 16))⟩, ⟨some 18, none, .pk (.t 12) (.c (.b true)) (.t 17)⟩, ⟨some 19, none, .q (.mv (.t 18))⟩, ⟨some 20, some (19, false), .q (.mv (.t 2))⟩, ⟨some 21, some (19, false), .q (.bin .lss (.t 20) (.c (.i .i64 0)))⟩, ⟨some 22, none, .pk (.t 19) (.c (.b true)) (.t 21)⟩, ⟨some 23, none, .q (.mv (.t 22))⟩, ⟨some 24, some (23, false), .q (.mv (.t 2))⟩, ⟨some 25, some (23, false), .q (.fa 3 (.t 3))⟩, ⟨some 26, some (23, false), .q (.ld none (.t 25))⟩, ⟨some 27, some (23, false), .q (.mv (.t 1))⟩, ⟨some 28, some (23, false), .q (.ias 4 (.t 26) (.t 27))⟩, ⟨some 29, some (23, false), .q (.fa 2 (.t 28))⟩, ⟨some 30, some (23, false), .q (.ld none (.t 29))⟩, ⟨some 31, some (23, false), .q (.len false (.t 30))⟩, ⟨some 32, some (23, false), .q (.bin .geq (.t 24) (.t 31))⟩, ⟨some 33, none, .pk (.t 23) (.c (.b true)) (.t 32)⟩])
    (.keep [33]
    (.cond (.t 33) (.seq (.reg none [⟨some 6, none, .q (.mv (.c (.i .i64 1)))⟩])
      .ret)
    .skip)))
  (.seq (.reg none [⟨some 6, none, .q (.mv (.c (.i .i64 0)))⟩])
  .ret)))))
theorem r49 : (Try.f49.body.bind (resC Try.prog Try.f49.ntmps)) = some (strip c49) := by kernel_rfl
theorem s49 : Try.f49.results.toList.mapM (resRes Try.prog) = some [.t 6] := by kernel_rfl
/-- scarab/scarabplain.SameInts -/
def c30 : ACode :=
  (.seq (.reg none [⟨some 4, none, .q (.mv (.c (.b false)))⟩])
  (.keep [0, 1]
  (.seq (.seq (.reg none [⟨some 6, none, .q (.mv (.t 0))⟩, ⟨some 7, none, .q (.len false (.t 6))⟩, ⟨some 8, none, .q (.mv (.t 1))⟩, ⟨some 9, none, .q (.len false (.t 8))⟩, ⟨some 10, none, .q (.bin .neq (.t 7) (.t 9))⟩])
    (.keep [0, 1, 10]
    (.cond (.t 10) (.seq (.reg none [⟨some 4, none, .q (.mv (.c (.b false)))⟩])
      .ret)
    .skip)))
  (.seq (.seq (.reg none [⟨some 11, none, .q (.mv (.t 0))⟩, ⟨some 12, none, .q (.len false (.t 11))⟩, ⟨some 13, none, .q (.mv (.c (.i .i64 0)))⟩])
    (.keep [0, 1, 12, 13]
    (.blk 0 (.keep [0, 1, 12, 13]
    (.loop (.fin [0, 1, 12, 13]
      (.seq (.reg none [⟨some 14, none, .q (.bin .lss (.t 13) (.t 12))⟩])
      (.keep [0, 1, 12, 13, 14]
      (.seq (.cond (.t 14) .skip
        (.exit 0))
      (.seq (.blk 1 (.seq (.reg none [⟨some 15, none, .q (.mv (.t 13))⟩, ⟨some 5, none, .q (.mv (.t 15))⟩])
        (.keep [0, 1, 5, 12, 13]
        (.seq (.reg (some (9, [])) [⟨some 16, none, .q (.mv (.t 0))⟩, ⟨some 17, none, .q (.mv (.t 5))⟩, ⟨some 18, none, .q (.ias 1 (.t 16) (.t 17))⟩, ⟨some 19, none, .q (.ld none (.t 18))⟩, ⟨some 20, none, .q (.mv (.t 1))⟩, ⟨some 21, none, .q (.mv (.t 5))⟩, ⟨some 22, none, .q (.ias 1 (.t 20) (.t 21))⟩, ⟨some 23, none, .q (.ld none (.t 22))⟩, ⟨some 24, none, .q (.bin .neq (.t 19) (.t 23))⟩])
        (.keep [0, 1, 12, 13, 24]
        (.cond (.t 24) (.seq (.reg none [⟨some 4, none, .q (.mv (.c (.b false)))⟩])
          .ret)
        .skip))))))
      (.keep [0, 1, 12, 13]
      (.reg none [⟨some 25, none, .q (.bin .add (.t 13) (.c (.i .i64 1)))⟩, ⟨some 13, none, .q (.mv (.t 25))⟩]))))))))))))
  (.seq (.reg none [⟨some 4, none, .q (.mv (.c (.b true)))⟩])
  .ret)))))
theorem r30 : (Try.f30.body.bind (resC Try.prog Try.f30.ntmps)) = some (strip c30) := by kernel_rfl
theorem s30 : Try.f30.results.toList.mapM (resRes Try.prog) = some [.t 4] := by kernel_rfl
theorem told1_p : PredP 65 (fun x => decide (x < 0)) := fun x => by
  refine fun_go hmx Try.func65 r65 s65 (by rw [Try.ntmps65]; simp) ?_
  unfold c65
  simp
theorem told_p (l : List Int) (v : Nat) (hl : l.length ≤ 12) (h8 : ∀ x ∈ l, x < 8) : CallS Try.prog 48 [.os 0 v] [.arr v 1 (vrows (l.map irow))] fun r K => r = .v (.sl 1 ((rise8 l).map irow)) := by
  refine fun_go hmx Try.func48 r48 s48 (by rw [Try.ntmps48]; simp) ?_
  unfold c48
  simp
  refine callf [0] rfl Try.call62 (sort_p l v hl) (by decide) rfl (by simp) (by simp) (by simp) ?_
  rintro _ _ ⟨l', rfl, hs, hp⟩
  simp
  refine callf [0] rfl Try.call64 (compact_p l' v (by have := hp.length_eq; omega)) (by decide) rfl (by simp) (by simp) (by simp) ?_
  rintro _ _ ⟨v', rfl, rfl⟩
  simp
  have hdl := dd_len l' l'.length
  refine callf [0] rfl Try.call63 (delete_p 65 _ told1_p Try.call65 (ddL l') v' (by have := hp.length_eq; unfold ddL; omega)) (by decide) rfl (by simp) (by simp) (by simp) ?_
  rintro _ _ rfl
  simp
  rw [← rise8_of hs hp h8]
theorem sameInts_l (a b : List Int) (ha : Few 8 a) (hb : Few 8 b) : PureS Try.prog 30 [.sl 1 (a.map irow), .sl 1 (b.map irow)] (.b (decide (a = b))) := by
  refine fun_go hmx Try.func30 r30 s30 (by rw [Try.ntmps30]; simp) ?_
  unfold c30
  simp
  refine ⟨fun h e => h (by rw [e]), fun hl => ?_⟩
  replace hl : a.length = b.length := by omega
  refine go_count hmx 13 0 a.length (fun i hp => a.take i = b.take i ∧ hp = []) (Nat.zero_le _) (ha.lt (by decide)) rfl ⟨rfl, rfl⟩ ?_ ?_
  · rintro i hp - hlt ⟨ht, rfl⟩ hw
    have hly : i < b.length := hl ▸ hlt
    have hxy := take_eq ht hlt hly
    generalize hx' : a[i] = x at *
    generalize hy' : b[i] = y at *
    simp [hlt, hly, hx', hy', hw, irow]
    exact ⟨fun h hc => h (by subst hc; exact hx'.symm.trans hy'), fun h => hxy.2 h⟩
  · rintro hp ⟨ht, rfl⟩
    simp
    exact eq_of_take ht (Nat.le_refl _) (Nat.lt_irrefl _) hl
theorem ask1 {p : Prog} {f pc : Int} (h : (check p).1 = 0) (hb : f < 0 ∨ (p.funcs.length : Int) ≤ f ∨ pc < 0 ∨ ((p.funcs.getD f.toNat default).code.length : Int) ≤ pc) : askE p f pc = 1 := by
  rw [askE, if_neg (by simp [h]), if_pos hb]
theorem ask0 {p : Prog} {f pc : Int} (h : (check p).1 = 0) (hb : ¬ (f < 0 ∨ (p.funcs.length : Int) ≤ f ∨ pc < 0 ∨ ((p.funcs.getD f.toNat default).code.length : Int) ≤ pc)) : askE p f pc = 0 := by
  rw [askE, if_neg (by simp [h]), if_neg hb]
theorem at_p (p : Prog) (f pc : Int) (hp : p.Ok) : PureS Try.prog 47 [.g p.row, .i .i64 f, .i .i64 pc] (.tup [.g (if askE p f pc = 0 then insAt p f pc else ⟨0, 0, 0, 0, 0⟩).row, .i .i64 (askE p f pc)]) := by
  refine fun_go hmx Try.func47 r47 s47 (by rw [Try.ntmps47]; simp) ?_
  unfold c47
  simp [Prog.row]
  first
    | refine callk rfl Try.call21 (check21 p hp) rfl ?_
    | refine callks rfl Try.call21 (check21 p hp) rfl ?_
    | refine callq rfl Try.call21 (check21 p hp) rfl ?_
  simp [told]
  refine ⟨fun h => ?_, fun h => ?_⟩
  · have e : askE p f pc = 3 := by rw [askE, if_pos h]
    simp [e, Instr.row]
  rcases hg : p.funcs[f.toNat]? with _ | g
  · have hn : p.funcs.length ≤ f.toNat := by simpa using hg
    have e1 : askE p f pc = 1 := ask1 h (by omega)
    simp [hg, e1, Instr.row]
    exact ⟨fun a b c => ⟨⟨⟨a, b⟩, c⟩, a, b⟩, fun a b => by omega⟩
  have hgd : p.funcs.getD f.toNat default = g := by rw [List.getD_eq_getElem?_getD, hg]; rfl
  rcases hx : g.code[pc.toNat]? with _ | x
  · have hn : g.code.length ≤ pc.toNat := by simpa using hx
    simp [hg, hx, Func.row, Instr.row]
    refine ⟨fun a b c => ⟨⟨⟨a, b⟩, c⟩, a, b⟩, fun a b c => ⟨⟨a, b⟩, c⟩, fun hb => ?_, fun a b c => by omega⟩
    have e1 : askE p f pc = 1 := ask1 h (by rw [hgd]; omega)
    simp [e1]
  · simp [hg, hx, Func.row, Instr.row]
    refine ⟨fun a b c => ⟨⟨⟨a, b⟩, c⟩, a, b⟩, fun a b c => ⟨⟨a, b⟩, c⟩, fun hb => ?_, fun a b c d => ⟨⟨a, b⟩, ⟨c, d⟩, ?_⟩⟩
    · have e1 : askE p f pc = 1 := ask1 h (by rw [hgd]; omega)
      simp [e1]
    · have e1 : askE p f pc = 0 := ask0 h (by rw [hgd]; omega)
      have e2 : insAt p f pc = x := by rw [insAt, hgd, List.getD_eq_getElem?_getD, hx]; rfl
      simp [e1, e2]
theorem asked_p (p : Prog) (f pc : Int) (hp : p.Ok) : PureS Try.prog 49 [.g p.row, .i .i64 f, .i .i64 pc] (.i .i64 (askE p f pc)) := by
  refine fun_go hmx Try.func49 r49 s49 (by rw [Try.ntmps49]; simp) ?_
  unfold c49
  simp [Prog.row]
  first
    | refine callk rfl Try.call22 (right22 p hp) rfl ?_
    | refine callks rfl Try.call22 (right22 p hp) rfl ?_
    | refine callq rfl Try.call22 (right22 p hp) rfl ?_
  simp
  refine ⟨fun h => ?_, fun h => ?_⟩
  · rw [askE, if_pos h]
  rcases hg : p.funcs[f.toNat]? with _ | g
  · have hn : p.funcs.length ≤ f.toNat := by simpa using hg
    have e1 : askE p f pc = 1 := ask1 h (by omega)
    simp [hg, e1]
    exact ⟨fun a b c => ⟨⟨⟨a, b⟩, c⟩, a, b⟩, fun a b => by omega⟩
  have hgd : p.funcs.getD f.toNat default = g := by rw [List.getD_eq_getElem?_getD, hg]; rfl
  simp [hg, Func.row]
  refine ⟨fun a b c => ⟨⟨⟨a, b⟩, c⟩, a, b⟩, fun a b c => ⟨⟨a, b⟩, c⟩, fun hb => (ask1 h (by rw [hgd]; omega)).symm, fun a b c d => (ask0 h (by rw [hgd]; omega)).symm⟩
theorem rising_p (l : List Int) (hl : Few 8 l) : Own1 Try.prog 50 [.sl 1 (l.map irow)] 1 ((rise8 l).map irow) := by
  refine fun_sel [0] hmx Try.func50 r50 s50 (by rw [Try.ntmps50]; simp) (by first | exact Nat.le_refl _ | decide | simp) (by simp) ?_
  unfold c50
  simp
  have hfew := hl.lt (by decide)
  refine go_each hmx 1 4 ((List.range 8).map fun n : Nat => (n : Int)) (fun (b : Nat × List Int) => [(3, .os 0 b.1)]) (fun b => [.arr b.1 1 (vrows (b.2.map irow))]) (fun i b rest => b.2 ++ rest.filter (fun x => decide (x ∈ l)) = rise8 l) (0, []) (by simp) rfl rfl rfl (by simp) (by simp [RV.dom]) (by simp) rfl ?_ ?_
  · rintro i x rest ⟨v, acc⟩ hi hx hr hj hw
    have hi8 : i < 8 := by simpa using hi
    have hiI : (i : Int) < 8 := by omega
    have hxi : x = (i : Int) := by rw [← hx]; simp
    subst hxi
    simp only at hj
    simp [hiI]
    refine go_each hmx 1 13 l (fun (_ : Unit) => []) (fun _ => [.arr v 1 (vrows (acc.map irow))]) (fun j _ _ => ∀ y ∈ l.take j, y ≠ (i : Int)) () hfew rfl rfl rfl (by simp) (by simp) (by simp) (by simp) ?_ ?_
    · rintro j y rest2 _ hi2 hx2 hr2 hj2 hw2
      have hgy : l[j]? = some y := by rw [List.getElem?_eq_getElem hi2, hx2]
      simp [hi2, hx2, irow, hw2, hw, hiI]
      have hac : acc.length ≤ 8 := by
        have := rise8_len l
        rw [← hj, List.length_append] at this; omega
      refine ⟨fun hy => ⟨by omega, acc ++ [(i : Int)], by simp [vrows, irow], ?_⟩, fun hy z hz => ?_⟩
      · have hm : (i : Int) ∈ l := by rw [← hy, ← hx2]; exact List.getElem_mem _
        rw [← hj, List.filter_cons_of_pos (by simpa using hm), List.append_assoc]; rfl
      · rw [List.take_add_one, hgy] at hz
        rcases List.mem_append.1 hz with hz | hz
        · exact hj2 z hz
        · simp at hz; subst hz; exact hy
    · rintro _ hj2
      rw [List.take_length] at hj2
      simp [hw]
      refine ⟨acc, rfl, ?_⟩
      rw [← hj, List.filter_cons_of_neg (by simpa using fun hm => hj2 _ hm rfl)]
  · rintro ⟨v, acc⟩ hj
    simp at hj
    simp
    rw [hj]
end Go.Sc.So
