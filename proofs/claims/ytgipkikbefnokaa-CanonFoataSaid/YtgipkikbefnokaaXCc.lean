/- Chapter 13: short lists of numbers sorted by a function, by slices.SortFunc's own text. No condition. -/
import Derived.Test.YtgipkikbefnokaaXCb
import Derived.Test.YtgipkikbefnokaaXSrt
import Derived.Test.YtgipkikbefnokaaXWd
import Derived.Test.YtgipkikbefnokaaXSc
import Derived.Test.YtgipkikbefnokaaXEv6
set_option linter.constructorNameAsVariable false
namespace Go.Sc.Or
open Go Go.RowKit Go.Av Go.Proofs Go.Sc Go.Sc.Srt
set_option linter.unusedSimpArgs false
set_option linter.unusedVariables false
/-- slices.insertionSortCmpFunc[int] -/
def c125 : ACode :=
  (.seq (.reg none [⟨some 10, none, .q (.mv (.t 1))⟩, ⟨some 11, none, .q (.bin .add (.t 10) (.c (.i .i64 1)))⟩, ⟨some 8, none, .q (.mv (.t 11))⟩])
  (.keep [0, 1, 2, 3, 8]
  (.blk 0 (.keep [0, 1, 2, 3, 8]
  (.loop (.fin [0, 1, 2, 3, 8]
    (.seq (.seq (.reg none [⟨some 12, none, .q (.mv (.t 8))⟩, ⟨some 13, none, .q (.mv (.t 2))⟩, ⟨some 14, none, .q (.bin .lss (.t 12) (.t 13))⟩])
      (.keep [0, 1, 2, 3, 8, 14]
      (.cond (.t 14) .skip
      (.exit 0))))
    (.seq (.blk 1 (.seq (.reg none [⟨some 17, none, .q (.mv (.t 8))⟩, ⟨some 9, none, .q (.mv (.t 17))⟩])
      (.keep [0, 1, 2, 3, 8, 9]
      (.blk 2 (.keep [0, 1, 2, 3, 8, 9]
      (.loop (.fin [0, 1, 2, 3, 8, 9]
        (.seq (.seq (.reg (some (14, [])) [⟨some 18, none, .q (.mv (.t 9))⟩, ⟨some 19, none, .q (.mv (.t 1))⟩, ⟨some 20, none, .q (.bin .gtr (.t 18) (.t 19))⟩, ⟨some 21, none, .q (.mv (.t 20))⟩, ⟨some 22, some (21, true), .q (.mv (.t 3))⟩, ⟨some 23, some (21, true), .q (.mv (.t 0))⟩, ⟨some 24, some (21, true), .q (.mv (.t 9))⟩, ⟨some 25, some (21, true), .q (.ias 1 (.t 23) (.t 24))⟩, ⟨some 26, some (21, true), .q (.ld none (.t 25))⟩, ⟨some 27, some (21, true), .q (.mv (.t 0))⟩, ⟨some 28, some (21, true), .q (.mv (.t 9))⟩, ⟨some 29, some (21, true), .q (.bin .sub (.t 28) (.c (.i .i64 1)))⟩, ⟨some 30, some (21, true), .q (.ias 1 (.t 27) (.t 29))⟩, ⟨some 31, some (21, true), .q (.ld none (.t 30))⟩, ⟨some 32, some (21, true), .call (.t 22) [(.t 26), (.t 31)]⟩, ⟨some 33, some (21, true), .q (.bin .lss (.t 32) (.c (.i .i64 0)))⟩, ⟨some 34, none, .pk (.t 21) (.t 33) (.c (.b false))⟩])
          (.keep [0, 1, 2, 3, 8, 9, 34]
          (.cond (.t 34) .skip
          (.exit 2))))
        (.seq (.blk 3 (.reg (some (15, [])) [⟨some 37, none, .q (.mv (.t 0))⟩, ⟨some 38, none, .q (.mv (.t 9))⟩, ⟨some 39, none, .q (.mv (.t 0))⟩, ⟨some 40, none, .q (.mv (.t 9))⟩, ⟨some 41, none, .q (.bin .sub (.t 40) (.c (.i .i64 1)))⟩, ⟨some 42, none, .q (.mv (.t 0))⟩, ⟨some 43, none, .q (.mv (.t 9))⟩, ⟨some 44, none, .q (.bin .sub (.t 43) (.c (.i .i64 1)))⟩, ⟨some 45, none, .q (.ias 1 (.t 42) (.t 44))⟩, ⟨some 46, none, .q (.ld none (.t 45))⟩, ⟨some 47, none, .q (.mv (.t 0))⟩, ⟨some 48, none, .q (.mv (.t 9))⟩, ⟨some 49, none, .q (.ias 1 (.t 47) (.t 48))⟩, ⟨some 50, none, .q (.ld none (.t 49))⟩, ⟨some 51, none, .q (.ias 1 (.t 37) (.t 38))⟩, ⟨none, none, .m (.st 1 (.t 51) (.t 46))⟩, ⟨some 52, none, .q (.ias 1 (.t 39) (.t 41))⟩, ⟨none, none, .m (.st 1 (.t 52) (.t 50))⟩]))
        (.keep [0, 1, 2, 3, 8, 9]
        (.reg none [⟨some 35, none, .q (.mv (.t 9))⟩, ⟨some 36, none, .q (.bin .sub (.t 35) (.c (.i .i64 1)))⟩, ⟨some 9, none, .q (.mv (.t 36))⟩])))))))))))
    (.keep [0, 1, 2, 3, 8]
    (.reg none [⟨some 15, none, .q (.mv (.t 8))⟩, ⟨some 16, none, .q (.bin .add (.t 15) (.c (.i .i64 1)))⟩, ⟨some 8, none, .q (.mv (.t 16))⟩]))))))))))
theorem r125 : (Try.f125.body.bind (resC Try.prog Try.f125.ntmps)) = some (strip c125) := by kernel_rfl
theorem s125 : Try.f125.results.toList.mapM (resRes Try.prog) = some [] := by kernel_rfl
/-- math/bits.Len64 -/
def c123 : ACode :=
  (.seq (.reg none [⟨some 2, none, .q (.mv (.c (.i .i64 0)))⟩])
  (.keep [0, 2]
  (.seq (.seq (.reg none [⟨some 3, none, .q (.mv (.t 0))⟩, ⟨some 4, none, .q (.bin .geq (.t 3) (.c (.i .u64 4294967296)))⟩])
    (.keep [0, 2, 4]
    (.cond (.t 4) (.seq (.reg none [⟨some 5, none, .q (.mv (.t 0))⟩, ⟨some 6, none, .q (.bin .shr (.t 5) (.c (.i .u64 32)))⟩, ⟨some 0, none, .q (.mv (.t 6))⟩])
      (.keep [0]
      (.reg none [⟨some 2, none, .q (.mv (.c (.i .i64 32)))⟩])))
    .skip)))
  (.seq (.seq (.reg none [⟨some 7, none, .q (.mv (.t 0))⟩, ⟨some 8, none, .q (.bin .geq (.t 7) (.c (.i .u64 65536)))⟩])
    (.keep [0, 2, 8]
    (.cond (.t 8) (.seq (.reg none [⟨some 9, none, .q (.mv (.t 0))⟩, ⟨some 10, none, .q (.bin .shr (.t 9) (.c (.i .u64 16)))⟩, ⟨some 0, none, .q (.mv (.t 10))⟩])
      (.keep [0, 2]
      (.reg none [⟨some 11, none, .q (.mv (.t 2))⟩, ⟨some 12, none, .q (.bin .add (.t 11) (.c (.i .i64 16)))⟩, ⟨some 2, none, .q (.mv (.t 12))⟩])))
    .skip)))
  (.seq (.seq (.reg none [⟨some 13, none, .q (.mv (.t 0))⟩, ⟨some 14, none, .q (.bin .geq (.t 13) (.c (.i .u64 256)))⟩])
    (.keep [0, 2, 14]
    (.cond (.t 14) (.seq (.reg none [⟨some 15, none, .q (.mv (.t 0))⟩, ⟨some 16, none, .q (.bin .shr (.t 15) (.c (.i .u64 8)))⟩, ⟨some 0, none, .q (.mv (.t 16))⟩])
      (.keep [0, 2]
      (.reg none [⟨some 17, none, .q (.mv (.t 2))⟩, ⟨some 18, none, .q (.bin .add (.t 17) (.c (.i .i64 8)))⟩, ⟨some 2, none, .q (.mv (.t 18))⟩])))
    .skip)))
  (.seq (.reg none [⟨some 19, none, .q (.mv (.t 2))⟩, ⟨some 20, none, .q (.mv (.t 0))⟩, ⟨some 21, none, .q (.cvi .u8 (.t 20))⟩, ⟨some 22, none, .q (.sidx (.c (.s [0, 1, 2, 2, 3, 3, 3, 3, 4, 4, 4, 4, 4, 4, 4, 4, 5, 5, 5, 5, 5, 5, 5, 5, 5, 5, 5, 5, 5, 5, 5, 5, 6, 6, 6, 6, 6, 6, 6, 6, 6, 6, 6, 6, 6, 6, 6, 6, 6, 6, 6, 6, 6, 6, 6, 6, 6, 6, 6, 6, 6, 6, 6, 6, 7, 7, 7, 7, 7, 7, 7, 7, 7, 7, 7, 7, 7, 7, 7, 7, 7, 7, 7, 7, 7, 7, 7, 7, 7, 7, 7, 7, 7, 7, 7, 7, 7, 7, 7, 7, 7, 7, 7, 7, 7, 7, 7, 7, 7, 7, 7, 7, 7, 7, 7, 7, 7, 7, 7, 7, 7, 7, 7, 7, 7, 7, 7, 7, 8, 8, 8, 8, 8, 8, 8, 8, 8, 8, 8, 8, 8, 8, 8, 8, 8, 8, 8, 8, 8, 8, 8, 8, 8, 8, 8, 8, 8, 8, 8, 8, 8, 8, 8, 8, 8, 8, 8, 8, 8, 8, 8, 8, 8, 8, 8, 8, 8, 8, 8, 8, 8, 8, 8, 8, 8, 8, 8, 8, 8, 8, 8, 8, 8, 8, 8, 8, 8, 8, 8, 8, 8, 8, 8, 8, 8, 8, 8, 8, 8, 8, 8, 8, 8, 8, 8, 8, 8, 8, 8, 8, 8, 8, 8, 8, 8, 8, 8, 8, 8, 8, 8, 8, 8, 8, 8, 8, 8, 8, 8, 8, 8, 8, 8, 8, 8, 8, 8, 8, 8, 8, 8, 8, 8, 8, 8, 8])) (.t 21))⟩, ⟨some 23, none, .q (.cvi .i64 (.t 22))⟩, ⟨some 24, none, .q (.bin .add (.t 19) (.t 23))⟩, ⟨some 2, none, .q (.mv (.t 24))⟩])
  .ret))))))
theorem r123 : (Try.f123.body.bind (resC Try.prog Try.f123.ntmps)) = some (strip c123) := by kernel_rfl
theorem s123 : Try.f123.results.toList.mapM (resRes Try.prog) = some [.t 2] := by kernel_rfl
/-- math/bits.Len -/
def c99 : ACode :=
  (.seq (.reg none [⟨some 2, none, .q (.mv (.c (.i .i64 0)))⟩])
  (.keep [0]
  (.seq (.cond (.c (.b false)) (.seq (.reg none [⟨some 3, none, .q (.mv (.t 0))⟩, ⟨some 4, none, .q (.cvi .u32 (.t 3))⟩, ⟨some 5, none, .call (.f 122) [(.t 4)]⟩, ⟨some 2, none, .q (.mv (.t 5))⟩])
      .ret)
    .skip)
  (.seq (.reg none [⟨some 6, none, .q (.mv (.t 0))⟩, ⟨some 7, none, .call (.f 123) [(.t 6)]⟩, ⟨some 2, none, .q (.mv (.t 7))⟩])
  .ret))))
theorem r99 : (Try.f99.body.bind (resC Try.prog Try.f99.ntmps)) = some (strip c99) := by kernel_rfl
theorem s99 : Try.f99.results.toList.mapM (resRes Try.prog) = some [.t 2] := by kernel_rfl
/-- slices.pdqsortCmpFunc[int] -/
def c105 : ACode :=
  (.seq (.reg none [⟨some 10, none, .q (.mv (.c (.b true)))⟩])
  (.keep [0, 1, 2, 3, 4, 10]
  (.seq (.reg none [⟨some 11, none, .q (.mv (.c (.b true)))⟩])
  (.keep [0, 1, 2, 3, 4, 10, 11]
  (.blk 0 (.keep [0, 1, 2, 3, 4, 10, 11]
  (.loop (.fin [0, 1, 2, 3, 4, 10, 11]
    (.blk 1 (.seq (.reg none [⟨some 21, none, .q (.mv (.t 2))⟩, ⟨some 22, none, .q (.mv (.t 1))⟩, ⟨some 23, none, .q (.bin .sub (.t 21) (.t 22))⟩, ⟨some 12, none, .q (.mv (.t 23))⟩])
    (.keep [0, 1, 2, 3, 4, 10, 11, 12]
    (.seq (.seq (.reg none [⟨some 24, none, .q (.mv (.t 12))⟩, ⟨some 25, none, .q (.bin .leq (.t 24) (.c (.i .i64 12)))⟩])
      (.keep [0, 1, 2, 3, 4, 10, 11, 12, 25]
      (.cond (.t 25) (.seq (.reg none [⟨some 26, none, .q (.mv (.t 0))⟩, ⟨some 27, none, .q (.mv (.t 1))⟩, ⟨some 28, none, .q (.mv (.t 2))⟩, ⟨some 29, none, .q (.mv (.t 4))⟩, ⟨some 30, none, .call (.f 125) [(.t 26), (.t 27), (.t 28), (.t 29)]⟩])
        .ret)
      .skip)))
    (.seq (.seq (.reg none [⟨some 31, none, .q (.mv (.t 3))⟩, ⟨some 32, none, .q (.bin .eql (.t 31) (.c (.i .i64 0)))⟩])
      (.keep [0, 1, 2, 3, 4, 10, 11, 12, 32]
      (.cond (.t 32) (.seq (.reg none [⟨some 33, none, .q (.mv (.t 0))⟩, ⟨some 34, none, .q (.mv (.t 1))⟩, ⟨some 35, none, .q (.mv (.t 2))⟩, ⟨some 36, none, .q (.mv (.t 4))⟩, ⟨some 37, none, .call (.f 126) [(.t 33), (.t 34), (.t 35), (.t 36)]⟩])
        .ret)
      .skip)))
    (.seq (.seq (.reg none [⟨some 38, none, .q (.mv (.t 10))⟩, ⟨some 39, none, .q (.un .not (.t 38))⟩])
      (.keep [0, 1, 2, 3, 4, 10, 11, 12, 39]
      (.cond (.t 39) (.seq (.reg none [⟨some 40, none, .q (.mv (.t 0))⟩, ⟨some 41, none, .q (.mv (.t 1))⟩, ⟨some 42, none, .q (.mv (.t 2))⟩, ⟨some 43, none, .q (.mv (.t 4))⟩, ⟨some 44, none, .call (.f 127) [(.t 40), (.t 41), (.t 42), (.t 43)]⟩])
        (.keep [0, 1, 2, 3, 4, 10, 11, 12]
        (.reg none [⟨some 45, none, .q (.mv (.t 3))⟩, ⟨some 46, none, .q (.bin .sub (.t 45) (.c (.i .i64 1)))⟩, ⟨some 3, none, .q (.mv (.t 46))⟩])))
      .skip)))
    (.seq (.reg none [⟨some 48, none, .q (.mv (.t 0))⟩, ⟨some 49, none, .q (.mv (.t 1))⟩, ⟨some 50, none, .q (.mv (.t 2))⟩, ⟨some 51, none, .q (.mv (.t 4))⟩, ⟨some 52, none, .call (.f 128) [(.t 48), (.t 49), (.t 50), (.t 51)]⟩, ⟨some 47, none, .q (.mv (.t 52))⟩, ⟨some 53, none, .q (.ext 0 (.t 47))⟩, ⟨some 54, none, .q (.ext 1 (.t 47))⟩, ⟨some 13, none, .q (.mv (.t 53))⟩, ⟨some 14, none, .q (.mv (.t 54))⟩])
    (.keep [0, 1, 2, 3, 4, 10, 11, 12, 13, 14]
    (.seq (.seq (.reg none [⟨some 55, none, .q (.mv (.t 14))⟩, ⟨some 56, none, .q (.bin .eql (.t 55) (.c (.i .i64 2)))⟩])
      (.keep [0, 1, 2, 3, 4, 10, 11, 12, 13, 14, 56]
      (.cond (.t 56) (.seq (.reg none [⟨some 57, none, .q (.mv (.t 0))⟩, ⟨some 58, none, .q (.mv (.t 1))⟩, ⟨some 59, none, .q (.mv (.t 2))⟩, ⟨some 60, none, .q (.mv (.t 4))⟩, ⟨some 61, none, .call (.f 129) [(.t 57), (.t 58), (.t 59), (.t 60)]⟩])
        (.keep [0, 1, 2, 3, 4, 10, 11, 12, 13]
        (.seq (.reg none [⟨some 62, none, .q (.mv (.t 2))⟩, ⟨some 63, none, .q (.bin .sub (.t 62) (.c (.i .i64 1)))⟩, ⟨some 64, none, .q (.mv (.t 13))⟩, ⟨some 65, none, .q (.mv (.t 1))⟩, ⟨some 66, none, .q (.bin .sub (.t 64) (.t 65))⟩, ⟨some 67, none, .q (.bin .sub (.t 63) (.t 66))⟩, ⟨some 13, none, .q (.mv (.t 67))⟩])
        (.keep [0, 1, 2, 3, 4, 10, 11, 12, 13]
        (.reg none [⟨some 14, none, .q (.mv (.c (.i .i64 1)))⟩])))))
      .skip)))
    (.seq (.seq (.reg none [⟨some 68, none, .q (.mv (.t 10))⟩, ⟨some 69, none, .q (.mv (.t 68))⟩, ⟨some 70, some (69, true), .q (.mv (.t 11))⟩, ⟨some 71, none, .pk (.t 69) (.t 70) (.c (.b false))⟩, ⟨some 72, none, .q (.mv (.t 71))⟩, ⟨some 73, some (72, true), .q (.mv (.t 14))⟩, ⟨some 74, some (72, true), .q (.bin .eql (.t 73) (.c (.i .i64 1)))⟩, ⟨some 75, none, .pk (.t 72) (.t 74) (.c (.b false))⟩])
      (.keep [0, 1, 2, 3, 4, 10, 11, 12, 13, 75]
      (.cond (.t 75) (.seq (.reg none [⟨some 76, none, .q (.mv (.t 0))⟩, ⟨some 77, none, .q (.mv (.t 1))⟩, ⟨some 78, none, .q (.mv (.t 2))⟩, ⟨some 79, none, .q (.mv (.t 4))⟩, ⟨some 80, none, .call (.f 130) [(.t 76), (.t 77), (.t 78), (.t 79)]⟩])
        (.keep [0, 1, 2, 3, 4, 10, 11, 12, 13, 80]
        (.cond (.t 80) .ret
        .skip)))
      .skip)))
    (.seq (.seq (.reg (some (13, [])) [⟨some 81, none, .q (.mv (.t 1))⟩, ⟨some 82, none, .q (.bin .gtr (.t 81) (.c (.i .i64 0)))⟩, ⟨some 83, none, .q (.mv (.t 82))⟩, ⟨some 84, some (83, true), .q (.mv (.t 4))⟩, ⟨some 85, some (83, true), .q (.mv (.t 0))⟩, ⟨some 86, some (83, true), .q (.mv (.t 1))⟩, ⟨some 87, some (83, true), .q (.bin .sub (.t 86) (.c (.i .i64 1)))⟩, ⟨some 88, some (83, true), .q (.ias 1 (.t 85) (.t 87))⟩, ⟨some 89, some (83, true), .q (.ld none (.t 88))⟩, ⟨some 90, some (83, true), .q (.mv (.t 0))⟩, ⟨some 91, some (83, true), .q (.mv (.t 13))⟩, ⟨some 92, some (83, true), .q (.ias 1 (.t 90) (.t 91))⟩, ⟨some 93, some (83, true), .q (.ld none (.t 92))⟩, ⟨some 94, some (83, true), .call (.t 84) [(.t 89), (.t 93)]⟩, ⟨some 95, some (83, true), .q (.bin .lss (.t 94) (.c (.i .i64 0)))⟩, ⟨some 96, some (83, true), .q (.un .not (.t 95))⟩, ⟨some 97, none, .pk (.t 83) (.t 96) (.c (.b false))⟩])
      (.keep [0, 1, 2, 3, 4, 10, 11, 12, 13, 97]
      (.cond (.t 97) (.seq (.reg none [⟨some 98, none, .q (.mv (.t 0))⟩, ⟨some 99, none, .q (.mv (.t 1))⟩, ⟨some 100, none, .q (.mv (.t 2))⟩, ⟨some 101, none, .q (.mv (.t 13))⟩, ⟨some 102, none, .q (.mv (.t 4))⟩, ⟨some 103, none, .call (.f 131) [(.t 98), (.t 99), (.t 100), (.t 101), (.t 102)]⟩, ⟨some 15, none, .q (.mv (.t 103))⟩])
        (.keep [0, 2, 3, 4, 10, 11, 15]
        (.seq (.reg none [⟨some 104, none, .q (.mv (.t 15))⟩, ⟨some 1, none, .q (.mv (.t 104))⟩])
        (.exit 1))))
      .skip)))
    (.seq (.reg none [⟨some 106, none, .q (.mv (.t 0))⟩, ⟨some 107, none, .q (.mv (.t 1))⟩, ⟨some 108, none, .q (.mv (.t 2))⟩, ⟨some 109, none, .q (.mv (.t 13))⟩, ⟨some 110, none, .q (.mv (.t 4))⟩, ⟨some 111, none, .call (.f 132) [(.t 106), (.t 107), (.t 108), (.t 109), (.t 110)]⟩, ⟨some 105, none, .q (.mv (.t 111))⟩, ⟨some 112, none, .q (.ext 0 (.t 105))⟩, ⟨some 113, none, .q (.ext 1 (.t 105))⟩, ⟨some 16, none, .q (.mv (.t 112))⟩, ⟨some 17, none, .q (.mv (.t 113))⟩])
    (.keep [0, 1, 2, 3, 4, 12, 16, 17]
    (.seq (.reg none [⟨some 114, none, .q (.mv (.t 17))⟩, ⟨some 11, none, .q (.mv (.t 114))⟩])
    (.keep [0, 1, 2, 3, 4, 11, 12, 16]
    (.seq (.reg none [⟨some 115, none, .q (.mv (.t 16))⟩, ⟨some 116, none, .q (.mv (.t 1))⟩, ⟨some 117, none, .q (.bin .sub (.t 115) (.t 116))⟩, ⟨some 118, none, .q (.mv (.t 2))⟩, ⟨some 119, none, .q (.mv (.t 16))⟩, ⟨some 120, none, .q (.bin .sub (.t 118) (.t 119))⟩, ⟨some 18, none, .q (.mv (.t 117))⟩, ⟨some 19, none, .q (.mv (.t 120))⟩])
    (.keep [0, 1, 2, 3, 4, 11, 12, 16, 18, 19]
    (.seq (.reg none [⟨some 121, none, .q (.mv (.t 12))⟩, ⟨some 122, none, .q (.bin .quo (.t 121) (.c (.i .i64 8)))⟩, ⟨some 20, none, .q (.mv (.t 122))⟩])
    (.keep [0, 1, 2, 3, 4, 11, 16, 18, 19, 20]
    (.seq (.reg none [⟨some 123, none, .q (.mv (.t 18))⟩, ⟨some 124, none, .q (.mv (.t 19))⟩, ⟨some 125, none, .q (.bin .lss (.t 123) (.t 124))⟩])
    (.keep [0, 1, 2, 3, 4, 11, 16, 18, 19, 20, 125]
    (.cond (.t 125) (.seq (.reg none [⟨some 126, none, .q (.mv (.t 18))⟩, ⟨some 127, none, .q (.mv (.t 20))⟩, ⟨some 128, none, .q (.bin .geq (.t 126) (.t 127))⟩, ⟨some 10, none, .q (.mv (.t 128))⟩])
      (.keep [0, 1, 2, 3, 4, 10, 11, 16]
      (.seq (.reg none [⟨some 129, none, .q (.mv (.t 0))⟩, ⟨some 130, none, .q (.mv (.t 1))⟩, ⟨some 131, none, .q (.mv (.t 16))⟩, ⟨some 132, none, .q (.mv (.t 3))⟩, ⟨some 133, none, .q (.mv (.t 4))⟩, ⟨some 134, none, .call (.f 105) [(.t 129), (.t 130), (.t 131), (.t 132), (.t 133)]⟩])
      (.keep [0, 2, 3, 4, 10, 11, 16]
      (.reg none [⟨some 135, none, .q (.mv (.t 16))⟩, ⟨some 136, none, .q (.bin .add (.t 135) (.c (.i .i64 1)))⟩, ⟨some 1, none, .q (.mv (.t 136))⟩])))))
    (.seq (.reg none [⟨some 137, none, .q (.mv (.t 19))⟩, ⟨some 138, none, .q (.mv (.t 20))⟩, ⟨some 139, none, .q (.bin .geq (.t 137) (.t 138))⟩, ⟨some 10, none, .q (.mv (.t 139))⟩])
      (.keep [0, 1, 2, 3, 4, 10, 11, 16]
      (.seq (.reg none [⟨some 140, none, .q (.mv (.t 0))⟩, ⟨some 141, none, .q (.mv (.t 16))⟩, ⟨some 142, none, .q (.bin .add (.t 141) (.c (.i .i64 1)))⟩, ⟨some 143, none, .q (.mv (.t 2))⟩, ⟨some 144, none, .q (.mv (.t 3))⟩, ⟨some 145, none, .q (.mv (.t 4))⟩, ⟨some 146, none, .call (.f 105) [(.t 140), (.t 142), (.t 143), (.t 144), (.t 145)]⟩])
      (.keep [0, 1, 3, 4, 10, 11, 16]
      (.reg none [⟨some 147, none, .q (.mv (.t 16))⟩, ⟨some 2, none, .q (.mv (.t 147))⟩])))))))))))))))))))))))))))))))))))
theorem r105 : (Try.f105.body.bind (resC Try.prog Try.f105.ntmps)) = some (strip c105) := by kernel_rfl
theorem s105 : Try.f105.results.toList.mapM (resRes Try.prog) = some [] := by kernel_rfl
/-- slices.SortFunc[[]int,int] -/
def c77 : ACode :=
  (.seq (.reg none [⟨some 5, none, .q (.mv (.t 0))⟩, ⟨some 6, none, .q (.len false (.t 5))⟩, ⟨some 4, none, .q (.mv (.t 6))⟩])
  (.keep [0, 1, 4]
  (.reg none [⟨some 7, none, .q (.mv (.t 0))⟩, ⟨some 8, none, .q (.mv (.t 4))⟩, ⟨some 9, none, .q (.mv (.t 4))⟩, ⟨some 10, none, .q (.cvi .u64 (.t 9))⟩, ⟨some 11, none, .call (.f 99) [(.t 10)]⟩, ⟨some 12, none, .q (.mv (.t 1))⟩, ⟨some 13, none, .call (.f 105) [(.t 7), (.c (.i .i64 0)), (.t 8), (.t 11), (.t 12)]⟩])))
theorem r77 : (Try.f77.body.bind (resC Try.prog Try.f77.ntmps)) = some (strip c77) := by kernel_rfl
theorem s77 : Try.f77.results.toList.mapM (resRes Try.prog) = some [] := by kernel_rfl
def SortedN (lt : Nat → Nat → Bool) (l : List Nat) (v : Nat) (r : RV) (K : List AObj) : Prop := ∃ l', K = [.arr v 1 (vrows (l'.map nrow))] ∧ SortedTo lt l' l'.length ∧ l'.Perm l
/-- What a comparison is. -/
structure CmpF (gid : Nat) (caps : List AV) (l : List Nat) (c : Nat → Nat → Int) : Prop where
  call : ∀ vs w, (callFunc gid vs).run Try.prog w = .ok (.enter gid vs) w
  tells : ∀ x ∈ l, ∀ y ∈ l, PureS Try.prog gid (.i .i64 (x : Int) :: .i .i64 (y : Int) :: caps) (.i .i64 (c x y))
  ord : Ord fun x y => decide (c x y < 0)
theorem insertF_p {gid : Nat} {caps : List AV} {l : List Nat} {c : Nat → Nat → Int} (hC : CmpF gid caps l c) (v : Nat) (hl : l.length < 1099511627776) : CallS Try.prog 125 [.os 0 v, .v (.i .i64 0), .v (.i .i64 (l.length : Int)), .v (.fn gid caps)] [.arr v 1 (vrows (l.map nrow))] (SortedN (fun x y => decide (c x y < 0)) l v) := by
  refine fun_cut 1 hmx Try.func125 r125 s125 (by rw [Try.ntmps125]; simp) (by first | exact Nat.le_refl _ | decide | simp) ?_
  unfold c125
  simp
  by_cases h0 : l.length = 0
  · obtain rfl := List.eq_nil_of_length_eq_zero h0
    refine go_unroll hmx 1 ?_
    rw [goU_succ]
    simp
    exact ⟨[], rfl, fun a b x y h1 h2 => by simp at h2, .nil⟩
  refine go_while hmx 1 (fun (s : Nat × List Nat) => [(8, .v (.i .i64 (s.1 : Int)))]) (fun s => [.arr v 1 (vrows (s.2.map nrow))]) (fun s => 1 ≤ s.1 ∧ s.1 ≤ l.length ∧ s.2.Perm l ∧ SortedTo (fun x y => decide (c x y < 0)) s.2 s.1) (fun s => l.length - s.1) (1, l) rfl rfl rfl (by simp) (by simp) (by simp) ⟨Nat.le_refl _, by omega, .refl _, SortedTo.start l⟩ ?_
  rintro ⟨i, m⟩ ⟨h1, hi, hp, hs⟩
  simp only at h1 hi hp hs
  have hml := hp.length_eq
  by_cases hlt : i < l.length
  · have hltI : (i : Int) < (l.length : Int) := by omega
    simp [hltI, hlt]
    have hwi : IntKind.i64.wrap ((i : Int) + 1) = (i : Int) + 1 := wrap_in (by omega) (by omega)
    refine go_while hmx 1 (fun (s : Nat × List Nat) => [(9, .v (.i .i64 (s.1 : Int)))]) (fun s => [.arr v 1 (vrows (s.2.map nrow))]) (fun s => s.1 ≤ i ∧ s.2.Perm l ∧ SortedBut (fun x y => decide (c x y < 0)) s.2 (i + 1) s.1) (fun s => s.1) (i, m) rfl rfl rfl (by simp) (by simp) (by simp) ⟨Nat.le_refl _, hp, hs.but⟩ ?_
    rintro ⟨j, q⟩ ⟨hj, hq, hsb⟩
    simp only at hj hq hsb
    have hql := hq.length_eq
    match j, hj, hsb with
    | 0, hj, hsb =>
      obtain ⟨x, q', rfl⟩ : ∃ x q', q = x :: q' := by
        cases q with
        | nil => simp at hql; omega
        | cons x q' => exact ⟨x, q', rfl⟩
      have hwm : IntKind.i64.wrap (-1) = -1 := by decide
      simp [nrow, vrows, hwm]
      refine callod rfl rfl ?_
      simp
      have hd : SortedTo (fun x y => decide (c x y < 0)) (x :: q') (i + 1) := hsb.done hC.ord (.inl rfl)
      exact ⟨i + 1, hwi, x :: q', by simp [nrow], ⟨by omega, by omega, hq, hd⟩, by omega⟩
    | j + 1, hj, hsb =>
      have hgx : q[j]? = some q[j] := List.getElem?_eq_getElem (by omega)
      have hgy : q[j + 1]? = some q[j + 1] := List.getElem?_eq_getElem (by omega)
      have hw1 : IntKind.i64.wrap (j : Int) = (j : Int) := wrap_in (by omega) (by omega)
      generalize hxe : q[j] = x at hgx
      generalize hye : q[j + 1] = y at hgy
      have hj1 : j < q.length := by omega
      have hj2 : j + 1 < q.length := by omega
      have hj3 : (j : Int) < (q.length : Int) := by omega
      have hj4 : (j : Int) + 1 < (q.length : Int) := by omega
      have hj5 : (0 : Int) ≤ (j : Int) + 1 := by omega
      have hj6 : (0 : Int) < (j : Int) + 1 := by omega
      simp [hw1, hj1, hj2, hj3, hj4, hj5, hj6, nrow, hxe, hye, vrows_at]
      have hxm : x ∈ l := hq.mem_iff.1 (List.mem_of_getElem? hgx)
      have hym : y ∈ l := hq.mem_iff.1 (List.mem_of_getElem? hgy)
      refine callog rfl rfl rfl hC.call (by simp [obl]) (hC.tells y hym x hxm) rfl ?_
      simp [hw1, hj1, hj2, hj3, hj4, hj5, hj6, nrow, hxe, hye, vrows_at]
      refine ⟨fun hlt2 => ⟨j, rfl, (q.set (j + 1) x).set j y, by simp [vrows, List.map_set, nrow], ⟨by omega, (swap_perm hgx hgy).trans hq, hsb.swap hC.ord (by omega) hgx hgy (decide_eq_true hlt2)⟩, by omega⟩, fun hge => ⟨i + 1, hwi, q, rfl, ⟨by omega, by omega, hq, hsb.done hC.ord (.inr ⟨j, x, y, rfl, hgx, hgy, decide_eq_false (by omega)⟩)⟩, by omega⟩⟩
  · have hltI : ¬ (i : Int) < (l.length : Int) := by omega
    simp [hlt]
    exact ⟨m, rfl, by rw [hml, show l.length = i by omega]; exact hs, hp⟩
def len8 : List UInt8 := [0, 1, 2, 2, 3, 3, 3, 3, 4, 4, 4, 4, 4, 4, 4, 4, 5, 5, 5, 5, 5, 5, 5, 5, 5, 5, 5, 5, 5, 5, 5, 5, 6, 6, 6, 6, 6, 6, 6, 6, 6, 6, 6, 6, 6, 6, 6, 6, 6, 6, 6, 6, 6, 6, 6, 6, 6, 6, 6, 6, 6, 6, 6, 6, 7, 7, 7, 7, 7, 7, 7, 7, 7, 7, 7, 7, 7, 7, 7, 7, 7, 7, 7, 7, 7, 7, 7, 7, 7, 7, 7, 7, 7, 7, 7, 7, 7, 7, 7, 7, 7, 7, 7, 7, 7, 7, 7, 7, 7, 7, 7, 7, 7, 7, 7, 7, 7, 7, 7, 7, 7, 7, 7, 7, 7, 7, 7, 7, 8, 8, 8, 8, 8, 8, 8, 8, 8, 8, 8, 8, 8, 8, 8, 8, 8, 8, 8, 8, 8, 8, 8, 8, 8, 8, 8, 8, 8, 8, 8, 8, 8, 8, 8, 8, 8, 8, 8, 8, 8, 8, 8, 8, 8, 8, 8, 8, 8, 8, 8, 8, 8, 8, 8, 8, 8, 8, 8, 8, 8, 8, 8, 8, 8, 8, 8, 8, 8, 8, 8, 8, 8, 8, 8, 8, 8, 8, 8, 8, 8, 8, 8, 8, 8, 8, 8, 8, 8, 8, 8, 8, 8, 8, 8, 8, 8, 8, 8, 8, 8, 8, 8, 8, 8, 8, 8, 8, 8, 8, 8, 8, 8, 8, 8, 8, 8, 8, 8, 8, 8, 8, 8, 8, 8, 8, 8, 8]
set_option maxRecDepth 100000 in
theorem len64_p (x : Nat) (hx : x < 256) : PureS Try.prog 123 [.i .u64 (x : Int)] (.i .i64 ((len8.getD x 0).toNat : Int)) := by
  refine fun_go hmx Try.func123 r123 s123 (by rw [Try.ntmps123]; simp) ?_
  unfold c123
  have h1 : ¬ (4294967296 : Int) ≤ (x : Int) := by omega
  have h2 : ¬ (65536 : Int) ≤ (x : Int) := by omega
  have h3 : ¬ (256 : Int) ≤ (x : Int) := by omega
  have h4 : (x : Int) < 4294967296 := by omega
  have h5 : (x : Int) < 65536 := by omega
  have h6 : (x : Int) < 256 := by omega
  have hw : IntKind.u8.wrap (x : Int) = (x : Int) := wrap_u8_lt hx
  rw [← show len8 = [0, 1, 2, 2, 3, 3, 3, 3, 4, 4, 4, 4, 4, 4, 4, 4, 5, 5, 5, 5, 5, 5, 5, 5, 5, 5, 5, 5, 5, 5, 5, 5, 6, 6, 6, 6, 6, 6, 6, 6, 6, 6, 6, 6, 6, 6, 6, 6, 6, 6, 6, 6, 6, 6, 6, 6, 6, 6, 6, 6, 6, 6, 6, 6, 7, 7, 7, 7, 7, 7, 7, 7, 7, 7, 7, 7, 7, 7, 7, 7, 7, 7, 7, 7, 7, 7, 7, 7, 7, 7, 7, 7, 7, 7, 7, 7, 7, 7, 7, 7, 7, 7, 7, 7, 7, 7, 7, 7, 7, 7, 7, 7, 7, 7, 7, 7, 7, 7, 7, 7, 7, 7, 7, 7, 7, 7, 7, 7, 8, 8, 8, 8, 8, 8, 8, 8, 8, 8, 8, 8, 8, 8, 8, 8, 8, 8, 8, 8, 8, 8, 8, 8, 8, 8, 8, 8, 8, 8, 8, 8, 8, 8, 8, 8, 8, 8, 8, 8, 8, 8, 8, 8, 8, 8, 8, 8, 8, 8, 8, 8, 8, 8, 8, 8, 8, 8, 8, 8, 8, 8, 8, 8, 8, 8, 8, 8, 8, 8, 8, 8, 8, 8, 8, 8, 8, 8, 8, 8, 8, 8, 8, 8, 8, 8, 8, 8, 8, 8, 8, 8, 8, 8, 8, 8, 8, 8, 8, 8, 8, 8, 8, 8, 8, 8, 8, 8, 8, 8, 8, 8, 8, 8, 8, 8, 8, 8, 8, 8, 8, 8, 8, 8, 8, 8, 8, 8] from rfl]
  generalize hlen : len8 = t
  have hl : t.length = 256 := by rw [← hlen]; rfl
  have h7 : (x : Int) < (t.length : Int) := by omega
  simp [h1, h2, h3, h4, h5, h6, hw, hl, h7]
  have ht := (t[x]?.getD 0).toNat_lt
  have hw2 : IntKind.i64.wrap ((t[x]?.getD 0).toNat : Int) = ((t[x]?.getD 0).toNat : Int) := wrap_in (by omega) (by omega)
  rw [hw2, hw2]
theorem len_p (x : Nat) (hx : x < 256) : PureS Try.prog 99 [.i .u64 (x : Int)] (.i .i64 ((len8.getD x 0).toNat : Int)) := by
  refine fun_go hmx Try.func99 r99 s99 (by rw [Try.ntmps99]; simp) ?_
  unfold c99
  simp
  first
    | refine callk rfl Try.call123 (len64_p x hx) rfl ?_
    | refine callks rfl Try.call123 (len64_p x hx) rfl ?_
    | refine callq rfl Try.call123 (len64_p x hx) rfl ?_
    | refine callqe rfl Try.call123 (len64_p x hx) rfl ?_
  simp
theorem pdqF_p {gid : Nat} {caps : List AV} {l : List Nat} {c : Nat → Nat → Int} (hC : CmpF gid caps l c) (v : Nat) (hl : l.length ≤ 12) (lim : Int) : CallS Try.prog 105 [.os 0 v, .v (.i .i64 0), .v (.i .i64 (l.length : Int)), .v (.i .i64 lim), .v (.fn gid caps)] [.arr v 1 (vrows (l.map nrow))] (SortedN (fun x y => decide (c x y < 0)) l v) := by
  refine fun_cut 1 hmx Try.func105 r105 s105 (by rw [Try.ntmps105]; simp) (by first | exact Nat.le_refl _ | decide | simp) ?_
  unfold c105
  have h12 : (l.length : Int) ≤ 12 := by omega
  have hw : IntKind.i64.wrap (l.length : Int) = (l.length : Int) := wrap_in (by omega) (by omega)
  simp
  refine go_unroll hmx 1 ?_
  rw [goU_succ]
  simp [h12, hw]
  refine callf [0] rfl Try.call125 (insertF_p hC v (by omega)) (by decide) rfl (by simp) (by simp) (by simp) ?_
  rintro r _ ⟨l', rfl, hs, hp⟩
  simp
  exact ⟨l', rfl, hs, hp⟩
theorem sortF_p {gid : Nat} {caps : List AV} {l : List Nat} {c : Nat → Nat → Int} (hC : CmpF gid caps l c) (v : Nat) (hl : l.length ≤ 12) : CallS Try.prog 77 [.os 0 v, .v (.fn gid caps)] [.arr v 1 (vrows (l.map nrow))] (SortedN (fun x y => decide (c x y < 0)) l v) := by
  refine fun_cut 1 hmx Try.func77 r77 s77 (by rw [Try.ntmps77]; simp) (by first | exact Nat.le_refl _ | decide | simp) ?_
  unfold c77
  simp
  have hw : IntKind.u64.wrap (l.length : Int) = (l.length : Int) := wrap_u64_lt (by omega)
  rw [hw]
  first
    | refine callk rfl Try.call99 (len_p l.length (by omega)) rfl ?_
    | refine callks rfl Try.call99 (len_p l.length (by omega)) rfl ?_
    | refine callq rfl Try.call99 (len_p l.length (by omega)) rfl ?_
    | refine callqe rfl Try.call99 (len_p l.length (by omega)) rfl ?_
  simp
  generalize ((len8[l.length]?.getD 0).toNat : Int) = lim
  refine callf [0] rfl Try.call105 (pdqF_p hC v hl lim) (by decide) rfl (by simp) (by simp) (by simp) ?_
  rintro r _ ⟨l', rfl, hs, hp⟩
  simp
  exact ⟨l', rfl, hs, hp⟩
end Go.Sc.Or
/- Chapter 13: levels, with goroutines in order. No condition. -/
set_option linter.constructorNameAsVariable false
namespace Go.Sc.Or
open Go Go.RowKit Go.Av Go.Proofs Go.Sc
set_option linter.unusedSimpArgs false
set_option linter.unusedVariables false
/-- scarab/canon.Levels -/
def c41 : ACode :=
  (.seq (.reg none [⟨some 1, none, .m (.box (.t 0))⟩, ⟨some 2, none, .q (.mv (.c .nil))⟩, ⟨some 3, none, .q (.mv (.c (.i .i64 0)))⟩])
  (.gst (.pimT 1)
  (.keep [1]
  (.seq (.seq (.reg none [⟨some 13, none, .q (.ld none (.t 1))⟩, ⟨some 14, none, .call (.f 55) [(.t 13)]⟩, ⟨some 4, none, .q (.mv (.t 14))⟩])
    (.keep [1, 4]
    (.seq (.reg none [⟨some 15, none, .q (.mv (.t 4))⟩, ⟨some 16, none, .q (.bin .neq (.t 15) (.c (.i .i64 0)))⟩])
    (.keep [1, 4, 16]
    (.cond (.t 16) (.seq (.reg none [⟨some 17, none, .q (.mv (.t 4))⟩, ⟨some 2, none, .q (.mv (.c .nil))⟩, ⟨some 3, none, .q (.mv (.t 17))⟩])
      .ret)
    .skip)))))
  (.seq (.reg none [⟨some 18, none, .q (.ld none (.t 1))⟩, ⟨some 19, none, .q (.len false (.t 18))⟩, ⟨some 20, none, .m (.mks 1 8 [(.i .i64 0)] (.t 19) (.t 19))⟩, ⟨some 5, none, .q (.mv (.t 20))⟩])
  (.keep [1, 5]
  (.seq (.reg none [⟨some 6, none, .q (.mv (.c .nil))⟩])
  (.gst (.nilT 6 1)
  (.keep [1, 5, 6]
  (.seq (.seq (.reg none [⟨some 21, none, .q (.ld none (.t 1))⟩, ⟨some 22, none, .call (.f 76) [(.t 21)]⟩, ⟨some 23, none, .q (.len false (.t 22))⟩, ⟨some 24, none, .q (.mv (.c (.i .i64 0)))⟩])
    (.keep [1, 5, 6, 22, 23, 24]
    (.blk 0 (.keep [1, 5, 6, 22, 23, 24]
    (.loop (.fin [1, 5, 6, 22, 23, 24]
      (.seq (.reg none [⟨some 25, none, .q (.bin .lss (.t 24) (.t 23))⟩])
      (.keep [1, 5, 6, 22, 23, 24, 25]
      (.seq (.cond (.t 25) .skip
        (.exit 0))
      (.seq (.blk 1 (.seq (.reg none [⟨some 26, none, .q (.mv (.t 24))⟩, ⟨some 27, none, .q (.ias 1 (.t 22) (.t 24))⟩, ⟨some 28, none, .q (.ld none (.t 27))⟩, ⟨some 7, none, .q (.mv (.t 26))⟩, ⟨some 8, none, .q (.mv (.t 28))⟩])
        (.keep [1, 5, 6, 7, 8, 22, 23, 24]
        (.seq (.seq (.reg none [⟨some 29, none, .q (.mv (.t 8))⟩, ⟨some 30, none, .q (.len false (.t 29))⟩, ⟨some 31, none, .q (.mv (.c (.i .i64 0)))⟩])
          (.keep [1, 5, 6, 7, 22, 23, 24, 29, 30, 31]
          (.blk 2 (.keep [1, 5, 6, 7, 22, 23, 24, 29, 30, 31]
          (.loop (.fin [1, 5, 6, 7, 22, 23, 24, 29, 30, 31]
            (.seq (.reg none [⟨some 32, none, .q (.bin .lss (.t 31) (.t 30))⟩])
            (.keep [1, 5, 6, 7, 22, 23, 24, 29, 30, 31, 32]
            (.seq (.cond (.t 32) .skip
              (.exit 2))
            (.seq (.blk 3 (.seq (.reg none [⟨some 33, none, .q (.ias 1 (.t 29) (.t 31))⟩, ⟨some 34, none, .q (.ld none (.t 33))⟩, ⟨some 10, none, .q (.mv (.t 34))⟩])
              (.keep [1, 5, 6, 7, 10, 22, 23, 24, 29, 30, 31]
              (.reg (some (13, [])) [⟨some 35, none, .q (.mv (.t 5))⟩, ⟨some 36, none, .q (.mv (.t 7))⟩, ⟨some 37, none, .q (.mv (.t 5))⟩, ⟨some 38, none, .q (.mv (.t 7))⟩, ⟨some 39, none, .q (.ias 1 (.t 37) (.t 38))⟩, ⟨some 40, none, .q (.ld none (.t 39))⟩, ⟨some 41, none, .q (.mv (.t 5))⟩, ⟨some 42, none, .q (.mv (.t 10))⟩, ⟨some 43, none, .q (.ias 1 (.t 41) (.t 42))⟩, ⟨some 44, none, .q (.ld none (.t 43))⟩, ⟨some 45, none, .q (.bin .add (.t 44) (.c (.i .i64 1)))⟩, ⟨some 46, none, .q (.mx true (.t 40) (.t 45))⟩, ⟨some 47, none, .q (.ias 1 (.t 35) (.t 36))⟩, ⟨none, none, .m (.st 1 (.t 47) (.t 46))⟩]))))
            (.keep [1, 5, 6, 7, 22, 23, 24, 29, 30, 31]
            (.reg none [⟨some 48, none, .q (.bin .add (.t 31) (.c (.i .i64 1)))⟩, ⟨some 31, none, .q (.mv (.t 48))⟩]))))))))))))
        (.seq (.seq (.reg none [⟨some 49, none, .q (.mv (.t 5))⟩, ⟨some 50, none, .q (.mv (.t 7))⟩, ⟨some 51, none, .q (.ias 1 (.t 49) (.t 50))⟩, ⟨some 52, none, .q (.ld none (.t 51))⟩, ⟨some 53, none, .q (.mv (.t 6))⟩, ⟨some 54, none, .q (.len false (.t 53))⟩, ⟨some 55, none, .q (.bin .eql (.t 52) (.t 54))⟩])
          (.keep [1, 5, 6, 7, 22, 23, 24, 55]
          (.cond (.t 55) (.reg none [⟨some 56, none, .q (.mv (.t 6))⟩, ⟨some 57, none, .m (.bsl 1 1 [.nil] [(0, 1, .c .nil)])⟩, ⟨some 58, none, .m (.app 1 24 (.t 56) (.t 57))⟩, ⟨some 6, none, .q (.mv (.t 58))⟩])
          .skip)))
        (.gst (.nilL 6 1)
        (.reg (some (13, [3, 4, 8, 9, 10, 11])) [⟨some 59, none, .q (.mv (.t 6))⟩, ⟨some 60, none, .q (.mv (.t 5))⟩, ⟨some 61, none, .q (.mv (.t 7))⟩, ⟨some 62, none, .q (.ias 1 (.t 60) (.t 61))⟩, ⟨some 63, none, .q (.ld none (.t 62))⟩, ⟨some 64, none, .q (.mv (.t 6))⟩, ⟨some 65, none, .q (.mv (.t 5))⟩, ⟨some 66, none, .q (.mv (.t 7))⟩, ⟨some 67, none, .q (.ias 1 (.t 65) (.t 66))⟩, ⟨some 68, none, .q (.ld none (.t 67))⟩, ⟨some 69, none, .q (.ias 1 (.t 64) (.t 68))⟩, ⟨some 70, none, .q (.ld none (.t 69))⟩, ⟨some 71, none, .q (.mv (.t 7))⟩, ⟨some 72, none, .m (.bsl 1 1 [(.i .i64 0)] [(0, 1, .t 71)])⟩, ⟨some 73, none, .m (.app 1 8 (.t 70) (.t 72))⟩, ⟨some 74, none, .q (.ias 1 (.t 59) (.t 63))⟩, ⟨none, none, .m (.st 1 (.t 74) (.t 73))⟩])))))))
      (.keep [1, 5, 6, 22, 23, 24]
      (.reg none [⟨some 75, none, .q (.bin .add (.t 24) (.c (.i .i64 1)))⟩, ⟨some 24, none, .q (.mv (.t 75))⟩]))))))))))))
  (.seq (.seq (.reg none [⟨some 76, none, .q (.mv (.t 6))⟩, ⟨some 77, none, .q (.len false (.t 76))⟩, ⟨some 78, none, .q (.mv (.c (.i .i64 0)))⟩])
    (.keep [1, 6, 76, 77, 78]
    (.blk 4 (.keep [1, 6, 76, 77, 78]
    (.loop (.fin [1, 6, 76, 77, 78]
      (.seq (.reg none [⟨some 79, none, .q (.bin .lss (.t 78) (.t 77))⟩])
      (.keep [1, 6, 76, 77, 78, 79]
      (.seq (.cond (.t 79) .skip
        (.exit 4))
      (.seq (.blk 5 (.seq (.reg none [⟨some 80, none, .q (.ias 1 (.t 76) (.t 78))⟩, ⟨some 81, none, .q (.ld none (.t 80))⟩, ⟨some 12, none, .q (.mv (.t 81))⟩])
        (.keep [1, 6, 12, 76, 77, 78]
        (.reg none [⟨some 82, none, .q (.mv (.t 12))⟩, ⟨some 83, none, .q (.mkf 78 [(.t 1)])⟩, ⟨some 84, none, .call (.f 77) [(.t 82), (.t 83)]⟩]))))
      (.keep [1, 6, 76, 77, 78]
      (.reg none [⟨some 85, none, .q (.bin .add (.t 78) (.c (.i .i64 1)))⟩, ⟨some 78, none, .q (.mv (.t 85))⟩]))))))))))))
  (.seq (.reg none [⟨some 86, none, .q (.mv (.t 6))⟩, ⟨some 2, none, .q (.mv (.t 86))⟩, ⟨some 3, none, .q (.mv (.c (.i .i64 0)))⟩])
  .ret))))))))))))
theorem r41 : (Try.f41.body.bind (resC Try.prog Try.f41.ntmps)) = some (strip c41) := by kernel_rfl
theorem s41 : Try.f41.results.toList.mapM (resRes Try.prog) = some [.t 2, .t 3] := by kernel_rfl
/-- scarab/canon.Levels$1 -/
def c78 : ACode :=
  (.seq (.reg none [⟨some 5, none, .q (.mv (.c (.i .i64 0)))⟩])
  (.keep [0, 1, 2]
  (.seq (.reg (some (12, [])) [⟨some 6, none, .q (.ld none (.t 2))⟩, ⟨some 7, none, .q (.mv (.t 0))⟩, ⟨some 8, none, .q (.ias 26 (.t 6) (.t 7))⟩, ⟨some 9, none, .q (.fa 0 (.t 8))⟩, ⟨some 10, none, .q (.ld none (.t 9))⟩, ⟨some 11, none, .q (.ld none (.t 2))⟩, ⟨some 12, none, .q (.mv (.t 1))⟩, ⟨some 13, none, .q (.ias 26 (.t 11) (.t 12))⟩, ⟨some 14, none, .q (.fa 0 (.t 13))⟩, ⟨some 15, none, .q (.ld none (.t 14))⟩, ⟨some 16, none, .q (.bin .sub (.t 10) (.t 15))⟩, ⟨some 5, none, .q (.mv (.t 16))⟩])
  .ret)))
theorem r78 : (Try.f78.body.bind (resC Try.prog Try.f78.ntmps)) = some (strip c78) := by kernel_rfl
theorem s78 : Try.f78.results.toList.mapM (resRes Try.prog) = some [.t 5] := by kernel_rfl
def rowH (v : Nat) (l : List Nat) : AObj := .arr v 1 (vrows (l.map nrow))
def rowsH (v : Nat → Nat) (L : Nat → List Nat) : Nat → List AObj
  | 0 => []
  | m + 1 => rowsH v L m ++ [.arr 0 1 [[.v .nil]], rowH (v m) (L m)]
@[simp] theorem rowsH_length (v : Nat → Nat) (L : Nat → List Nat) : ∀ m, (rowsH v L m).length = 2 * m
  | 0 => rfl
  | m + 1 => by rw [rowsH, List.length_append, rowsH_length v L m]; simp; omega
theorem rowsH_at (v : Nat → Nat) (L : Nat → List Nat) {n : Nat} : ∀ {m : Nat}, n < m → (rowsH v L m)[2 * n + 1]? = some (rowH (v n) (L n))
  | m + 1, h => by
    rw [rowsH]
    by_cases e : n = m
    · subst e
      rw [List.getElem?_append_right (by simp)]; simp
    · rw [List.getElem?_append_left (by simp; omega)]
      exact rowsH_at v L (by omega)
theorem rowsH_cong {v v' : Nat → Nat} {L L' : Nat → List Nat} : ∀ {m : Nat}, (∀ n, n < m → v n = v' n ∧ L n = L' n) → rowsH v L m = rowsH v' L' m
  | 0, _ => rfl
  | m + 1, h => by
    rw [rowsH, rowsH, rowsH_cong fun n hn => h n (by omega), (h m (by omega)).1, (h m (by omega)).2]
def upN' {α : Type} (f : Nat → α) (n : Nat) (a : α) (x : Nat) : α := if x = n then a else f x
theorem rowsH_set (v : Nat → Nat) (L : Nat → List Nat) (n w : Nat) (l : List Nat) : ∀ {m : Nat}, n < m → (rowsH v L m).set (2 * n + 1) (rowH w l) = rowsH (upN' v n w) (upN' L n l) m
  | m + 1, h => by
    rw [rowsH, rowsH]
    by_cases e : n = m
    · subst e
      rw [List.set_append_right _ _ (by simp), rowsH_cong (v' := upN' v n w) (L' := upN' L n l) fun k hk => by rw [upN', upN', if_neg (by omega), if_neg (by omega)]; exact ⟨rfl, rfl⟩]
      simp [upN']
    · rw [List.set_append_left _ _ (by simp; omega), rowsH_set v L n w l (by omega)]
      rw [upN', upN', if_neg (fun h => e h.symm), if_neg (fun h => e h.symm)]
def outR (v : Nat → Nat) (m : Nat) : List (List RV) := (List.range m).map fun n => [.os (2 * n + 4) (v n)]
@[simp] theorem outR_length (v : Nat → Nat) (m : Nat) : (outR v m).length = m := by simp [outR]
@[simp] theorem outR_at {v : Nat → Nat} {m n : Nat} (h : n < (outR v m).length) : (outR v m)[n] = [.os (2 * n + 4) (v n)] := by simp [outR]
theorem outR_succ (v : Nat → Nat) (m : Nat) : outR v (m + 1) = outR v m ++ [[.os (2 * m + 4) (v m)]] := by simp [outR, List.range_succ]
@[simp] theorem outR_last (v : Nat → Nat) (m : Nat) : lastNil (outR v m) = false := by
  cases m with
  | zero => rfl
  | succ m => rw [outR_succ]; simp [lastNil]
theorem outR_cong {v v' : Nat → Nat} {m : Nat} (h : ∀ n, n < m → v n = v' n) : outR v m = outR v' m := by
  unfold outR
  exact List.map_congr_left fun n hn => by rw [h n (List.mem_range.1 hn)]
theorem outR_set (v : Nat → Nat) (m n w : Nat) : (outR v m).set n [.os (2 * n + 4) w] = outR (upN' v n w) m := by
  apply List.ext_getElem (by simp)
  intro i h1 h2
  rw [List.getElem_set]
  by_cases e : n = i
  · subst e; simp [upN']
  · rw [if_neg e]; simp [upN', show ¬ i = n from fun h => e h.symm]
theorem rowsH_low (v : Nat → Nat) (L : Nat → List Nat) (m p : Nat) : lowH p (rowsH v L m) := by
  induction m with
  | zero => simp [rowsH]
  | succ m ih => rw [rowsH]; simp [ih, rowH, RV.dom]
theorem outR_low (v : Nat → Nat) (m p : Nat) (h : 2 * m + 3 ≤ p) : ∀ row ∈ outR v m, domL (· < p) row := by
  intro row hr
  obtain ⟨n, hn, rfl⟩ := List.mem_map.1 hr
  have := List.mem_range.1 hn
  simp [RV.dom]; omega
def levR (t : List Ev) : AV := if checkT t = 0 then .tup [.sl 1 ((List.range (topN t t.length)).map fun n => [.sl 1 ((rowL t n).map nrow)]), .i .i64 0] else .tup [.nil, .i .i64 (checkT t)]
theorem lev1_p (t : List Ev) (h : Good t) (i j : Nat) (hi : i < t.length) (hj : j < t.length) : PureS Try.prog 78 [.i .i64 (i : Int), .i .i64 (j : Int), .pim [.sl 26 (t.map Ev.row)]] (.i .i64 (goI t i - goI t j)) := by
  have hI : (i : Int) < (t.length : Int) := by omega
  have hJ : (j : Int) < (t.length : Int) := by omega
  have hrow : ∀ (i : Nat) (hi : i < t.length) (h : 0 < t[i].row.length), t[i].row[0] = .i .i64 t[i].go := fun _ _ _ => rfl
  have hgo : ∀ (i : Nat) (hi : i < t.length), goI t i = t[i].go := fun i hi => by unfold goI; rw [List.getD_eq_getElem?_getD, List.getElem?_eq_getElem hi]; rfl
  have g1 := goI_N h hi
  have g2 := goI_N h hj
  have l1 := (h.go hi).2
  have l2 := (h.go hj).2
  have hw : IntKind.i64.wrap (t[i].go - t[j].go) = t[i].go - t[j].go := by
    rw [← hgo i hi, ← hgo j hj, g1, g2]
    unfold goN
    exact wrap_in (by omega) (by omega)
  refine fun_go hmx Try.func78 r78 s78 (by rw [Try.ntmps78]; simp) ?_
  unfold c78
  simp [hi, hj, hI, hJ, hrow, hgo, hw]
theorem levels_p (t : List Ev) (ht : t.length < 1000000000000) : PureS Try.prog 41 [.sl 26 (t.map Ev.row)] (levR t) := by
  refine pure_of ?_
  refine fun_go hmx Try.func41 r41 s41 (by rw [Try.ntmps41]; simp) ?_
  unfold c41
  simp
  first
    | refine callk rfl Try.call55 (check_p t (by omega)) rfl ?_
    | refine callks rfl Try.call55 (check_p t (by omega)) rfl ?_
    | refine callq rfl Try.call55 (check_p t (by omega)) rfl ?_
    | refine callqe rfl Try.call55 (check_p t (by omega)) rfl ?_
  unfold levR
  by_cases h0 : checkT t = 0
  rotate_left
  · simp [h0]
  have h := good_of h0
  have hlen := h.len
  simp [h0]
  refine ⟨by omega, ?_⟩
  first
    | refine callk rfl Try.call76 (before13_p t h0) rfl ?_
    | refine callks rfl Try.call76 (before13_p t h0) rfl ?_
    | refine callq rfl Try.call76 (before13_p t h0) rfl ?_
    | refine callqe rfl Try.call76 (before13_p t h0) rfl ?_
  simp
  refine go_grow hmx 3 (fun (s : Nat × (Nat → Nat) × Nat) => [(6, .os 2 s.2.2), (24, .v (.i .i64 (s.1 : Int)))]) (fun s => .none :: .arr 0 1 (vrows ((lvJ t s.1 0).map nrow)) :: .arr s.2.2 1 (outR s.2.1 (topN t s.1)) :: rowsH s.2.1 (fun n => levP t n s.1) (topN t s.1)) (fun s => s.1 ≤ t.length) (fun s => t.length - s.1) (0, fun _ => 0, 0) rfl (by simp) ?_ (by simp) ?_ ?_ ?_ (Nat.zero_le _) ?_
  · simp [lvJ_zero, outR, rowsH, topN, mostT, vrows, nrow]
  · simp [rowsH_length]
  · simp [RV.dom]
  · rintro ⟨j, v, vo⟩ hj
    simp [RV.dom, rowsH_low]
    exact outR_low v _ _ (by omega)
  rintro ⟨j, v, vo⟩ hj
  simp only at hj
  by_cases hjl : j < t.length
  · have hI : (j : Int) < (t.length : Int) := by omega
    have hw : IntKind.i64.wrap ((j : Int) + 1) = (j : Int) + 1 := wrap_in (by omega) (by omega)
    simp [hI, hjl, prowT, -List.map_reverse]
    have hml := topN_le t j
    have hlm := lev_le (t := t) (j := j)
    obtain ⟨q, hq, hql, hqt, hqm⟩ : ∃ q, (pastR t j).reverse = q ∧ (pastR t j).length = q.length ∧ mxL t q = levN t j ∧ ∀ i ∈ q, i < j := ⟨_, rfl, by simp, mxL_all t j, fun i hi => bef_lt (mem_past.1 (List.mem_reverse.1 hi))⟩
    have hq1 : q.length ≤ j := by
      rw [← hql]; exact pastD_len (p := fun k => befT t k j) j
    rw [hq, hql]
    refine go_while hmx (2 * topN t j + 3) (fun (c : Nat) => [(31, .v (.i .i64 (c : Int)))]) (fun c => .none :: .arr 0 1 (vrows ((lvJ t j (mxL t (q.take c))).map nrow)) :: .arr vo 1 (outR v (topN t j)) :: rowsH v (fun n => levP t n j) (topN t j)) (fun c => c ≤ q.length) (fun c => q.length - c) 0 (by simp) (by simp) (by simp [mxL]) (by simp [RV.dom]) (by simp) ?_ (Nat.zero_le _) ?_
    · intro c
      simp [RV.dom, rowsH_low]
      exact outR_low v _ _ (by omega)
    rintro c hc
    by_cases hcl : c < q.length
    · have hC : (c : Int) < (q.length : Int) := by omega
      have hwc : IntKind.i64.wrap ((c : Int) + 1) = (c : Int) + 1 := wrap_in (by omega) (by omega)
      obtain ⟨i, hi⟩ : ∃ i, q[c]? = some i := ⟨_, List.getElem?_eq_getElem hcl⟩
      have hij := hqm i (List.mem_of_getElem? hi)
      have hie : q[c] = i := by rw [List.getElem?_eq_getElem hcl] at hi; simpa using hi
      have hit : i < t.length := by omega
      have hIt : (i : Int) < (t.length : Int) := by omega
      have hli : levN t i + 1 ≤ j := by have := levN_le.1 (Nat.le_refl (levN t j)); have := topN_le t i; have := lev_le (t := t) (j := i); omega
      have hwl : IntKind.i64.wrap ((levN t i : Int) + 1) = (levN t i : Int) + 1 := wrap_in (by omega) (by omega)
      have hmx2 : (if (mxL t (q.take c) : Int) < (levN t i : Int) + 1 then (levN t i : Int) + 1 else (mxL t (q.take c) : Int)) = ((max (mxL t (q.take c)) (levN t i + 1) : Nat) : Int) := by split <;> omega
      simp [hC, hcl, nrow, hie, hjl, hI, hit, hIt, vrows_at, lvJ_at, lvJ_low, hij, hwl]
      rw [hmx2, ← mxL_succ hi]
      refine ⟨c + 1, hwc, ⟨?_, List.take_of_length_le (by simp)⟩, by omega, by omega⟩
      rw [← lvJ_set t j (mxL t (q.take c)) (mxL t (q.take (c + 1)))]
      simp [vrows, List.map_set, nrow]
    · obtain rfl : c = q.length := by omega
      by_cases hnew : levN t j = topN t j
      · have g1 : ∀ x, (outR v (topN t j) ++ [x])[topN t j]? = some x := fun x => by simp
        have g2 : ∀ X, (rowsH v (fun n => levP t n j) (topN t j) ++ X)[2 * topN t j + 1]? = X[1]? := fun X => by rw [List.getElem?_append_right (by simp)]; simp
        have g3 : ∀ X y, (rowsH v (fun n => levP t n j) (topN t j) ++ X).set (2 * topN t j + 1) y = rowsH v (fun n => levP t n j) (topN t j) ++ X.set 1 y := fun X y => by rw [List.set_append_right _ _ (by simp)]; simp
        have g4 : ∀ x y, (outR v (topN t j) ++ [x]).set (topN t j) y = outR v (topN t j) ++ [y] := fun x y => by rw [List.set_append_right _ _ (by simp)]; simp
        simp [hjl, hI, vrows_at, nrow, lvJ_at, hqt, hnew, g1, g2, g3, g4]
        have htop : topN t (j + 1) = topN t j + 1 := by rw [topN_succ]; omega
        have hne : ∀ n, n < topN t j → levP t n j = levP t n (j + 1) := fun n hn => by rw [levP_succ, if_neg (by omega)]
        have hnv : ∀ n, n < topN t j → v n = upN' v (topN t j) 1 n := fun n hn => by rw [upN', if_neg (by omega)]
        refine ⟨by omega, by omega, j + 1, upN' v (topN t j) 1, vo + 1, ⟨rfl, hw⟩, ⟨by rw [← hnew, lvJ_next], ⟨rfl, ?_⟩, ?_⟩, by omega, by omega⟩
        · rw [htop, outR_succ, outR_cong hnv]
          simp [upN']
        · rw [htop, rowsH, show 2 * (topN t j + 1) = (rowsH v (fun n => levP t n j) (topN t j)).length + 2 by simp; omega, List.take_length_add_append, rowsH_cong (L' := fun n => levP t n (j + 1)) fun n hn => ⟨hnv n hn, hne n hn⟩]
          simp [rowH, upN', levP_succ, hnew, levP_zero (Nat.le_refl (topN t j)), vrows, nrow]
      · have hlt : levN t j < topN t j := by omega
        have hLt : (levN t j : Int) < (topN t j : Int) := by omega
        have hne : ¬ (levN t j : Int) = (topN t j : Int) := by omega
        have g1 : ∀ X, (rowsH v (fun n => levP t n j) (topN t j) ++ X)[2 * levN t j + 1]? = some (.arr (v (levN t j)) 1 (vrows ((levP t (levN t j) j).map nrow))) := fun X => by rw [List.getElem?_append_left (by simp; omega)]; exact rowsH_at v _ hlt
        have g2 : ∀ X h, (rowsH v (fun n => levP t n j) (topN t j) ++ X)[2 * levN t j + 1]'h = .arr (v (levN t j)) 1 (vrows ((levP t (levN t j) j).map nrow)) := fun X h => by
          have := g1 X
          rw [List.getElem?_eq_getElem h] at this
          simpa using this
        have g3 : ∀ X y, (rowsH v (fun n => levP t n j) (topN t j) ++ X).set (2 * levN t j + 1) y = (rowsH v (fun n => levP t n j) (topN t j)).set (2 * levN t j + 1) y ++ X := fun X y => by rw [List.set_append_left _ _ (by simp; omega)]
        have hpl := levP_len t (levN t j) j
        have htop : topN t (j + 1) = topN t j := by rw [topN_succ]; omega
        simp [hjl, hI, vrows_at, nrow, lvJ_at, hqt, hne, hlt, hLt, g2, g3]
        refine ⟨by omega, j + 1, upN' v (levN t j) (v (levN t j) + 1), vo, ⟨rfl, hw⟩, ⟨by rw [lvJ_next], ⟨rfl, ?_⟩, ?_⟩, by omega, by omega⟩
        · rw [htop, ← outR_set]
        · rw [htop]
          have e : AObj.arr (v (levN t j) + 1) 1 (vrows (List.map nrow (levP t (levN t j) j)) ++ [[RV.v (AV.i IntKind.i64 (j : Int))]]) = rowH (v (levN t j) + 1) (levP t (levN t j) (j + 1)) := by
            rw [levP_succ, if_pos rfl]; simp [rowH, vrows, nrow]
          rw [List.take_left' (by simp), e, rowsH_set _ _ _ _ _ hlt]
          refine rowsH_cong fun n hn => ⟨rfl, ?_⟩
          unfold upN'
          by_cases hn2 : n = levN t j
          · subst hn2; simp
          · rw [if_neg hn2, levP_succ, if_neg (fun h => hn2 h.symm)]
  · obtain rfl : j = t.length := by omega
    have hml := topN_le t t.length
    have hC : ∀ n, CmpF 78 [.pim [.sl 26 (t.map Ev.row)]] (levP t n t.length) (fun x y => goI t x - goI t y) := fun n => ⟨Try.call78, fun x hx y hy => by
      rw [levP, selTo_mem] at hx hy
      exact lev1_p t h x y hx.1 hy.1, ⟨fun x y => by simp; omega, fun x y z => by simp; omega⟩⟩
    simp
    refine go_while hmx (2 * topN t t.length + 3) (fun (k : Nat) => [(78, .v (.i .i64 (k : Int)))]) (fun k => .none :: .arr 0 1 (vrows ((lvJ t t.length 0).map nrow)) :: .arr vo 1 (outR v (topN t t.length)) :: rowsH v (fun n => if n < k then rowL t n else levP t n t.length) (topN t t.length)) (fun k => k ≤ topN t t.length) (fun k => topN t t.length - k) 0 (by simp) (by simp) (by simp) (by simp [RV.dom]) (by simp) ?_ (Nat.zero_le _) ?_
    · intro k
      simp [RV.dom, rowsH_low]
      exact outR_low v _ _ (by omega)
    intro k hk
    by_cases hkl : k < topN t t.length
    · have hK : (k : Int) < (topN t t.length : Int) := by omega
      have hwk : IntKind.i64.wrap ((k : Int) + 1) = (k : Int) + 1 := wrap_in (by omega) (by omega)
      have hl6 : (levP t k t.length).length ≤ 12 := by
        rw [(levP_perm h k).length_eq]; have := rowL_len h k; omega
      simp [hK, hkl]
      refine callf [2 * k + 4] rfl Try.call77 (sortF_p (hC k) (v k) hl6) (by simp) rfl (by simp) ?_ (by simp) ?_
      · have g := rowsH_at v (fun n => if n < k then rowL t n else levP t n t.length) hkl
        simp [g, rowH]
      rintro r _ ⟨l', rfl, hs, hp⟩
      have e := row_sorted h hp hs
      subst e
      simp
      refine ⟨k + 1, hwk, ?_, by omega, by omega⟩
      rw [List.take_of_length_le (by simp), ← rowH, rowsH_set _ _ _ _ _ hkl]
      refine rowsH_cong fun n hn => ⟨?_, ?_⟩
      · unfold upN'; split
        · rename_i e; rw [e]
        · rfl
      · unfold upN'
        by_cases e : n = k
        · subst e; simp
        · rw [if_neg e]
          show (if n < k then rowL t n else levP t n t.length) = _
          by_cases e2 : n < k
          · rw [if_pos e2, if_pos (by omega)]
          · rw [if_neg e2, if_neg (by omega)]
    · obtain rfl : k = topN t t.length := by omega
      simp
      refine .tr rfl fun i x x' hx hx' => ?_
      match i with
      | 0 =>
        simp at hx hx'; subst hx; subst hx'
        have og : ∀ (r : Nat) row, (outR v (topN t t.length))[r]? = some row → r < topN t t.length ∧ row = [.os (2 * r + 4) (v r)] := fun r row hr => by
          obtain ⟨hlt, he⟩ := List.getElem?_eq_some_iff.1 hr
          rw [outR_at] at he
          exact ⟨by simpa using hlt, he.symm⟩
        refine .os (rows := outR v (topN t t.length)) rfl (by simp) (fun r row row' hr hr' => ?_) (fun r row row' j x x' hr hr' hx hx' => ?_)
        · obtain ⟨hlt, rfl⟩ := og r row hr
          simp [hlt] at hr'
          subst hr'; rfl
        · obtain ⟨hlt, rfl⟩ := og r row hr
          simp [hlt] at hr'
          subst hr'
          match j with
          | 0 =>
            simp at hx hx'; subst hx; subst hx'
            refine frz_rows ?_
            have g := rowsH_at v (fun n => if n < topN t t.length then rowL t n else levP t n t.length) hlt
            simp [hlt, rowH] at g
            simpa using g
          | j + 1 => simp at hx
      | 1 => simp at hx hx'; subst hx; subst hx'; exact .v _
      | i + 2 => simp at hx
end Go.Sc.Or
