/- Chapter 27: the laws, by the program. No condition. -/
import Derived.Test.YtlolloejmdgkjaaXWiB
import Derived.Test.YtlolloejmdgkjaaXWiF
set_option linter.constructorNameAsVariable false
namespace Go.Sc.Wi
open Go Go.RowKit Go.Av Go.Proofs Go.Sc.Oct Go.Sc Go.Sc.Cw
set_option linter.unusedSimpArgs false
set_option linter.unusedVariables false
/-- scarab/scarablaw27.small -/
def c12 : ACode :=
  (.seq (.reg none [⟨some 0, none, .q (.mv (.c (.b false)))⟩])
  (.keep []
  (.seq (.reg none [⟨some 10, none, .q (.bld [(.i .i64 0), (.i .i64 0), (.i .i64 0), (.i .i64 0), (.i .i64 0), (.i .i64 0), (.i .i64 0)] [(0, 1, .c (.i .i64 1))])⟩, ⟨some 11, none, .q (.bld [(.i .i64 0), (.i .i64 0)] [(0, 1, .c (.i .i64 1))])⟩, ⟨some 12, none, .m (.bsl 1 2 [(.i .i64 0), (.i .i64 0)] [(0, 2, .t 11)])⟩, ⟨some 13, none, .q (.bld [(.i .u32 0), (.i .i64 0), (.i .i64 0), (.i .i64 0), (.i .i64 0), (.i .i64 0), (.i .i64 0), (.i .i64 0), .nil, (.i .i64 0), (.i .i64 0), (.i .i64 0)] [(0, 1, .c (.i .u32 7)), (1, 7, .t 10), (8, 1, .t 12)])⟩, ⟨some 1, none, .m (.alloc (.g [(.i .u32 0), (.i .i64 0), (.i .i64 0), (.i .i64 0), (.i .i64 0), (.i .i64 0), (.i .i64 0), (.i .i64 0), .nil, (.i .i64 0), (.i .i64 0), (.i .i64 0)]))⟩, ⟨none, none, .m (.st 12 (.t 1) (.t 13))⟩])
  (.gst (.frzC 1 8)
  (.keep [1]
  (.seq (.reg none [⟨some 15, none, .q (.ld (some 12) (.t 1))⟩, ⟨some 16, none, .call (.f 9) [(.t 15)]⟩, ⟨some 14, none, .q (.mv (.t 16))⟩, ⟨some 17, none, .q (.ext 0 (.t 14))⟩, ⟨some 18, none, .q (.ext 1 (.t 14))⟩, ⟨some 2, none, .q (.mv (.t 17))⟩, ⟨some 3, none, .q (.mv (.t 18))⟩])
  (.keep [1, 2, 3]
  (.seq (.reg none [⟨some 20, none, .q (.mv (.t 2))⟩, ⟨some 21, none, .call (.f 13) [(.t 20)]⟩, ⟨some 19, none, .q (.mv (.t 21))⟩, ⟨some 22, none, .q (.ext 0 (.t 19))⟩, ⟨some 23, none, .q (.ext 1 (.t 19))⟩, ⟨some 24, none, .q (.ext 2 (.t 19))⟩, ⟨some 4, none, .m (.alloc (.g [(.i .u32 0), (.i .i64 0), (.i .i64 0), (.i .i64 0), (.i .i64 0), (.i .i64 0), (.i .i64 0), (.i .i64 0), .nil, (.i .i64 0), (.i .i64 0), (.i .i64 0)]))⟩, ⟨none, none, .m (.st 12 (.t 4) (.t 22))⟩, ⟨some 5, none, .q (.mv (.t 23))⟩, ⟨some 6, none, .q (.mv (.t 24))⟩])
  (.keep [1, 2, 3, 4, 5, 6]
  (.seq (.reg none [⟨some 26, none, .call (.f 13) [(.c .nil)]⟩, ⟨some 25, none, .q (.mv (.t 26))⟩, ⟨some 27, none, .q (.ext 0 (.t 25))⟩, ⟨some 28, none, .q (.ext 1 (.t 25))⟩, ⟨some 29, none, .q (.ext 2 (.t 25))⟩, ⟨some 7, none, .m (.alloc (.g [(.i .u32 0), (.i .i64 0), (.i .i64 0), (.i .i64 0), (.i .i64 0), (.i .i64 0), (.i .i64 0), (.i .i64 0), .nil, (.i .i64 0), (.i .i64 0), (.i .i64 0)]))⟩, ⟨none, none, .m (.st 12 (.t 7) (.t 27))⟩, ⟨some 8, none, .q (.mv (.t 28))⟩, ⟨some 9, none, .q (.mv (.t 29))⟩])
  (.keep [1, 2, 3, 4, 5, 6, 8]
  (.seq (.reg none [⟨some 30, none, .q (.mv (.t 3))⟩, ⟨some 31, none, .q (.bin .eql (.t 30) (.c (.i .i64 0)))⟩, ⟨some 32, none, .q (.mv (.t 31))⟩, ⟨some 33, some (32, true), .q (.mv (.t 5))⟩, ⟨some 34, some (32, true), .q (.bin .eql (.t 33) (.c (.i .i64 0)))⟩, ⟨some 35, none, .pk (.t 32) (.t 34) (.c (.b false))⟩, ⟨some 36, none, .q (.mv (.t 35))⟩, ⟨some 37, some (36, true), .q (.mv (.t 6))⟩, ⟨some 38, some (36, true), .q (.bin .eql (.t 37) (.c (.i .i64 0)))⟩, ⟨some 39, none, .pk (.t 36) (.t 38) (.c (.b false))⟩, ⟨some 40, none, .q (.mv (.t 39))⟩, ⟨some 41, some (40, true), .q (.ld (some 12) (.t 1))⟩, ⟨some 42, some (40, true), .q (.ld (some 12) (.t 4))⟩, ⟨some 43, some (40, true), .call (.f 15) [(.t 41), (.t 42)]⟩, ⟨some 44, none, .pk (.t 40) (.t 43) (.c (.b false))⟩, ⟨some 45, none, .q (.mv (.t 44))⟩, ⟨some 46, some (45, true), .q (.mv (.t 2))⟩, ⟨some 47, some (45, true), .q (.len false (.t 46))⟩, ⟨some 48, some (45, true), .q (.bin .eql (.t 47) (.c (.i .i64 25)))⟩, ⟨some 49, none, .pk (.t 45) (.t 48) (.c (.b false))⟩, ⟨some 50, none, .q (.mv (.t 49))⟩, ⟨some 51, some (50, true), .q (.mv (.t 8))⟩, ⟨some 52, some (50, true), .q (.bin .eql (.t 51) (.c (.i .i64 40)))⟩, ⟨some 53, none, .pk (.t 50) (.t 52) (.c (.b false))⟩, ⟨some 0, none, .q (.mv (.t 53))⟩])
  .ret))))))))))))
theorem r12 : (Try.f12.body.bind (resC Try.prog Try.f12.ntmps)) = some (strip c12) := by kernel_rfl
theorem s12 : Try.f12.results.toList.mapM (resRes Try.prog) = some [.t 0] := by kernel_rfl
/-- scarab/scarablaw27.WitnessWrites -/
def c4 : ACode :=
  (.seq (.reg none [⟨some 1, none, .m (.box (.t 0))⟩, ⟨some 2, none, .q (.mv (.c (.b false)))⟩])
  (.keep [1]
  (.seq (.reg none [⟨some 8, none, .q (.ld (some 12) (.t 1))⟩, ⟨some 9, none, .call (.f 9) [(.t 8)]⟩, ⟨some 7, none, .q (.mv (.t 9))⟩, ⟨some 10, none, .q (.ext 0 (.t 7))⟩, ⟨some 11, none, .q (.ext 1 (.t 7))⟩, ⟨some 3, none, .q (.mv (.t 10))⟩, ⟨some 4, none, .q (.mv (.t 11))⟩])
  (.keep [1, 3, 4]
  (.seq (.reg none [⟨some 13, none, .q (.ld (some 12) (.t 1))⟩, ⟨some 14, none, .call (.f 10) [(.t 13)]⟩, ⟨some 12, none, .q (.mv (.t 14))⟩, ⟨some 15, none, .q (.ext 0 (.t 12))⟩, ⟨some 16, none, .q (.ext 1 (.t 12))⟩, ⟨some 5, none, .q (.mv (.t 15))⟩, ⟨some 6, none, .q (.mv (.t 16))⟩])
  (.keep [3, 4, 5, 6]
  (.seq (.reg none [⟨some 17, none, .q (.mv (.t 3))⟩, ⟨some 18, none, .q (.mv (.t 5))⟩, ⟨some 19, none, .call (.f 11) [(.t 17), (.t 18)]⟩, ⟨some 20, none, .q (.mv (.t 19))⟩, ⟨some 21, some (20, true), .q (.mv (.t 4))⟩, ⟨some 22, some (20, true), .q (.mv (.t 6))⟩, ⟨some 23, some (20, true), .q (.bin .eql (.t 21) (.t 22))⟩, ⟨some 24, none, .pk (.t 20) (.t 23) (.c (.b false))⟩, ⟨some 25, none, .q (.mv (.t 24))⟩, ⟨some 26, some (25, true), .call (.f 12) []⟩, ⟨some 27, none, .pk (.t 25) (.t 26) (.c (.b false))⟩, ⟨some 2, none, .q (.mv (.t 27))⟩])
  .ret)))))))
theorem r4 : (Try.f4.body.bind (resC Try.prog Try.f4.ntmps)) = some (strip c4) := by kernel_rfl
theorem s4 : Try.f4.results.toList.mapM (resRes Try.prog) = some [.t 2] := by kernel_rfl
/-- scarab/scarablaw27.WitnessReads -/
def c5 : ACode :=
  (.seq (.reg none [⟨some 2, none, .q (.mv (.c (.b false)))⟩])
  (.keep [0]
  (.seq (.reg none [⟨some 3, none, .q (.mv (.c .nil))⟩])
  (.keep [0, 3]
  (.seq (.reg none [⟨some 10, none, .q (.mv (.t 3))⟩, ⟨some 11, none, .q (.mv (.t 0))⟩, ⟨some 12, none, .m (.app 1 1 (.t 10) (.t 11))⟩, ⟨some 3, none, .q (.mv (.t 12))⟩])
  (.keep [0, 3]
  (.seq (.reg none [⟨some 14, none, .q (.mv (.t 3))⟩, ⟨some 15, none, .call (.f 13) [(.t 14)]⟩, ⟨some 13, none, .q (.mv (.t 15))⟩, ⟨some 16, none, .q (.ext 0 (.t 13))⟩, ⟨some 17, none, .q (.ext 1 (.t 13))⟩, ⟨some 18, none, .q (.ext 2 (.t 13))⟩, ⟨some 4, none, .m (.alloc (.g [(.i .u32 0), (.i .i64 0), (.i .i64 0), (.i .i64 0), (.i .i64 0), (.i .i64 0), (.i .i64 0), (.i .i64 0), .nil, (.i .i64 0), (.i .i64 0), (.i .i64 0)]))⟩, ⟨none, none, .m (.st 12 (.t 4) (.t 16))⟩, ⟨some 5, none, .q (.mv (.t 17))⟩, ⟨some 6, none, .q (.mv (.t 18))⟩])
  (.keep [0, 3, 4, 5, 6]
  (.seq (.reg none [⟨some 20, none, .q (.mv (.t 0))⟩, ⟨some 21, none, .call (.f 14) [(.t 20)]⟩, ⟨some 19, none, .q (.mv (.t 21))⟩, ⟨some 22, none, .q (.ext 0 (.t 19))⟩, ⟨some 23, none, .q (.ext 1 (.t 19))⟩, ⟨some 24, none, .q (.ext 2 (.t 19))⟩, ⟨some 7, none, .m (.alloc (.g [(.i .u32 0), (.i .i64 0), (.i .i64 0), (.i .i64 0), (.i .i64 0), (.i .i64 0), (.i .i64 0), (.i .i64 0), .nil, (.i .i64 0), (.i .i64 0), (.i .i64 0)]))⟩, ⟨none, none, .m (.st 12 (.t 7) (.t 22))⟩, ⟨some 8, none, .q (.mv (.t 23))⟩, ⟨some 9, none, .q (.mv (.t 24))⟩])
  (.keep [0, 3, 4, 5, 6, 7, 8, 9]
  (.seq (.reg none [⟨some 25, none, .q (.ld (some 12) (.t 4))⟩, ⟨some 26, none, .q (.ld (some 12) (.t 7))⟩, ⟨some 27, none, .call (.f 15) [(.t 25), (.t 26)]⟩, ⟨some 28, none, .q (.mv (.t 27))⟩, ⟨some 29, some (28, true), .q (.mv (.t 5))⟩, ⟨some 30, some (28, true), .q (.mv (.t 8))⟩, ⟨some 31, some (28, true), .q (.bin .eql (.t 29) (.t 30))⟩, ⟨some 32, none, .pk (.t 28) (.t 31) (.c (.b false))⟩, ⟨some 33, none, .q (.mv (.t 32))⟩, ⟨some 34, some (33, true), .q (.mv (.t 6))⟩, ⟨some 35, some (33, true), .q (.mv (.t 9))⟩, ⟨some 36, some (33, true), .q (.bin .eql (.t 34) (.t 35))⟩, ⟨some 37, none, .pk (.t 33) (.t 36) (.c (.b false))⟩, ⟨some 38, none, .q (.mv (.t 37))⟩, ⟨some 39, some (38, true), .q (.mv (.t 0))⟩, ⟨some 40, some (38, true), .q (.mv (.t 3))⟩, ⟨some 41, some (38, true), .call (.f 11) [(.t 39), (.t 40)]⟩, ⟨some 42, none, .pk (.t 38) (.t 41) (.c (.b false))⟩, ⟨some 43, none, .q (.mv (.t 42))⟩, ⟨some 44, some (43, true), .call (.f 12) []⟩, ⟨some 45, none, .pk (.t 43) (.t 44) (.c (.b false))⟩, ⟨some 2, none, .q (.mv (.t 45))⟩])
  .ret)))))))))))
theorem r5 : (Try.f5.body.bind (resC Try.prog Try.f5.ntmps)) = some (strip c5) := by kernel_rfl
theorem s5 : Try.f5.results.toList.mapM (resRes Try.prog) = some [.t 2] := by kernel_rfl
/-- scarab/scarablaw27.WitnessBack -/
def c6 : ACode :=
  (.seq (.reg none [⟨some 2, none, .m (.box (.t 0))⟩, ⟨some 4, none, .q (.mv (.c (.b false)))⟩])
  (.keep [1, 2]
  (.seq (.reg none [⟨some 16, none, .q (.ld (some 12) (.t 2))⟩, ⟨some 17, none, .call (.f 9) [(.t 16)]⟩, ⟨some 15, none, .q (.mv (.t 17))⟩, ⟨some 18, none, .q (.ext 0 (.t 15))⟩, ⟨some 19, none, .q (.ext 1 (.t 15))⟩, ⟨some 5, none, .q (.mv (.t 18))⟩, ⟨some 6, none, .q (.mv (.t 19))⟩])
  (.keep [1, 2, 5, 6]
  (.seq (.seq (.reg none [⟨some 20, none, .q (.mv (.t 6))⟩, ⟨some 21, none, .q (.bin .eql (.t 20) (.c (.i .i64 0)))⟩, ⟨some 22, none, .q (.ld (some 12) (.t 2))⟩, ⟨some 23, none, .call (.f 16) [(.t 22)]⟩, ⟨some 24, none, .q (.eqb true (.t 21) (.t 23))⟩])
    (.keep [1, 2, 5, 6, 24]
    (.cond (.t 24) (.seq (.reg none [⟨some 4, none, .q (.mv (.c (.b false)))⟩])
      .ret)
    .skip)))
  (.seq (.seq (.reg none [⟨some 25, none, .q (.mv (.t 6))⟩, ⟨some 26, none, .q (.bin .eql (.t 25) (.c (.i .i64 0)))⟩])
    (.keep [1, 2, 5, 26]
    (.cond (.t 26) (.seq (.reg none [⟨some 28, none, .q (.mv (.t 5))⟩, ⟨some 29, none, .call (.f 13) [(.t 28)]⟩, ⟨some 27, none, .q (.mv (.t 29))⟩, ⟨some 30, none, .q (.ext 0 (.t 27))⟩, ⟨some 31, none, .q (.ext 1 (.t 27))⟩, ⟨some 32, none, .q (.ext 2 (.t 27))⟩, ⟨some 7, none, .m (.alloc (.g [(.i .u32 0), (.i .i64 0), (.i .i64 0), (.i .i64 0), (.i .i64 0), (.i .i64 0), (.i .i64 0), (.i .i64 0), .nil, (.i .i64 0), (.i .i64 0), (.i .i64 0)]))⟩, ⟨none, none, .m (.st 12 (.t 7) (.t 30))⟩, ⟨some 8, none, .q (.mv (.t 31))⟩, ⟨some 9, none, .q (.mv (.t 32))⟩])
      (.keep [1, 2, 7, 8, 9]
      (.seq (.reg none [⟨some 33, none, .q (.mv (.t 8))⟩, ⟨some 34, none, .q (.bin .neq (.t 33) (.c (.i .i64 0)))⟩, ⟨some 35, none, .q (.mv (.t 34))⟩, ⟨some 36, some (35, false), .q (.mv (.t 9))⟩, ⟨some 37, some (35, false), .q (.bin .neq (.t 36) (.c (.i .i64 0)))⟩, ⟨some 38, none, .pk (.t 35) (.c (.b true)) (.t 37)⟩, ⟨some 39, none, .q (.mv (.t 38))⟩, ⟨some 40, some (39, false), .q (.ld (some 12) (.t 2))⟩, ⟨some 41, some (39, false), .q (.ld (some 12) (.t 7))⟩, ⟨some 42, some (39, false), .call (.f 15) [(.t 40), (.t 41)]⟩, ⟨some 43, some (39, false), .q (.un .not (.t 42))⟩, ⟨some 44, none, .pk (.t 39) (.c (.b true)) (.t 43)⟩])
      (.keep [1, 44]
      (.cond (.t 44) (.seq (.reg none [⟨some 4, none, .q (.mv (.c (.b false)))⟩])
        .ret)
      .skip)))))
    .skip)))
  (.seq (.reg none [⟨some 46, none, .q (.mv (.t 1))⟩, ⟨some 47, none, .call (.f 13) [(.t 46)]⟩, ⟨some 45, none, .q (.mv (.t 47))⟩, ⟨some 48, none, .q (.ext 0 (.t 45))⟩, ⟨some 49, none, .q (.ext 1 (.t 45))⟩, ⟨some 50, none, .q (.ext 2 (.t 45))⟩, ⟨some 10, none, .m (.alloc (.g [(.i .u32 0), (.i .i64 0), (.i .i64 0), (.i .i64 0), (.i .i64 0), (.i .i64 0), (.i .i64 0), (.i .i64 0), .nil, (.i .i64 0), (.i .i64 0), (.i .i64 0)]))⟩, ⟨none, none, .m (.st 12 (.t 10) (.t 48))⟩, ⟨some 11, none, .q (.mv (.t 49))⟩, ⟨some 12, none, .q (.mv (.t 50))⟩])
  (.keep [1, 10, 11]
  (.seq (.seq (.reg none [⟨some 51, none, .q (.mv (.t 11))⟩, ⟨some 52, none, .q (.bin .neq (.t 51) (.c (.i .i64 0)))⟩])
    (.keep [1, 10, 52]
    (.cond (.t 52) (.seq (.reg none [⟨some 53, none, .call (.f 12) []⟩, ⟨some 4, none, .q (.mv (.t 53))⟩])
      .ret)
    .skip)))
  (.seq (.reg none [⟨some 55, none, .q (.ld (some 12) (.t 10))⟩, ⟨some 56, none, .call (.f 9) [(.t 55)]⟩, ⟨some 54, none, .q (.mv (.t 56))⟩, ⟨some 57, none, .q (.ext 0 (.t 54))⟩, ⟨some 58, none, .q (.ext 1 (.t 54))⟩, ⟨some 13, none, .q (.mv (.t 57))⟩, ⟨some 14, none, .q (.mv (.t 58))⟩])
  (.keep [1, 13, 14]
  (.seq (.reg none [⟨some 59, none, .q (.mv (.t 14))⟩, ⟨some 60, none, .q (.bin .eql (.t 59) (.c (.i .i64 0)))⟩, ⟨some 61, none, .q (.mv (.t 60))⟩, ⟨some 62, some (61, true), .q (.mv (.t 13))⟩, ⟨some 63, some (61, true), .q (.mv (.t 1))⟩, ⟨some 64, some (61, true), .call (.f 11) [(.t 62), (.t 63)]⟩, ⟨some 65, none, .pk (.t 61) (.t 64) (.c (.b false))⟩, ⟨some 4, none, .q (.mv (.t 65))⟩])
  .ret))))))))))))
theorem r6 : (Try.f6.body.bind (resC Try.prog Try.f6.ntmps)) = some (strip c6) := by kernel_rfl
theorem s6 : Try.f6.results.toList.mapM (resRes Try.prog) = some [.t 4] := by kernel_rfl
/-- scarab/scarablaw27.WitnessFlips -/
def c7 : ACode :=
  (.seq (.reg none [⟨some 3, none, .m (.box (.t 0))⟩, ⟨some 6, none, .q (.mv (.c (.b false)))⟩])
  (.keep [1, 2, 3]
  (.seq (.reg none [⟨some 13, none, .q (.ld (some 12) (.t 3))⟩, ⟨some 14, none, .call (.f 9) [(.t 13)]⟩, ⟨some 12, none, .q (.mv (.t 14))⟩, ⟨some 15, none, .q (.ext 0 (.t 12))⟩, ⟨some 16, none, .q (.ext 1 (.t 12))⟩, ⟨some 7, none, .q (.mv (.t 15))⟩, ⟨some 8, none, .q (.mv (.t 16))⟩])
  (.keep [1, 2, 3, 7, 8]
  (.seq (.seq (.reg none [⟨some 17, none, .q (.mv (.t 8))⟩, ⟨some 18, none, .q (.bin .neq (.t 17) (.c (.i .i64 0)))⟩])
    (.keep [1, 2, 3, 7, 18]
    (.cond (.t 18) (.seq (.reg none [⟨some 19, none, .q (.ld (some 12) (.t 3))⟩, ⟨some 20, none, .call (.f 16) [(.t 19)]⟩, ⟨some 21, none, .q (.un .not (.t 20))⟩, ⟨some 22, none, .q (.mv (.t 21))⟩, ⟨some 23, some (22, true), .call (.f 12) []⟩, ⟨some 24, none, .pk (.t 22) (.t 23) (.c (.b false))⟩, ⟨some 6, none, .q (.mv (.t 24))⟩])
      .ret)
    .skip)))
  (.seq (.seq (.reg none [⟨some 25, none, .q (.mv (.t 1))⟩, ⟨some 26, none, .q (.bin .lss (.t 25) (.c (.i .i64 0)))⟩, ⟨some 27, none, .q (.mv (.t 26))⟩, ⟨some 28, some (27, false), .q (.mv (.t 1))⟩, ⟨some 29, some (27, false), .q (.mv (.t 7))⟩, ⟨some 30, some (27, false), .q (.len false (.t 29))⟩, ⟨some 31, some (27, false), .q (.bin .geq (.t 28) (.t 30))⟩, ⟨some 32, none, .pk (.t 27) (.c (.b true)) (.t 31)⟩, ⟨some 33, none, .q (.mv (.t 32))⟩, ⟨some 34, some (33, false), .q (.mv (.t 2))⟩, ⟨some 35, some (33, false), .q (.bin .eql (.t 34) (.c (.i .u8 0)))⟩, ⟨some 36, none, .pk (.t 33) (.c (.b true)) (.t 35)⟩])
    (.keep [1, 2, 7, 36]
    (.cond (.t 36) (.seq (.reg none [⟨some 37, none, .q (.mv (.t 7))⟩, ⟨some 38, none, .q (.len false (.t 37))⟩, ⟨some 39, none, .q (.bin .geq (.t 38) (.c (.i .i64 23)))⟩, ⟨some 6, none, .q (.mv (.t 39))⟩])
      .ret)
    .skip)))
  (.seq (.reg none [⟨some 40, none, .q (.mv (.t 7))⟩, ⟨some 41, none, .q (.mv (.t 1))⟩, ⟨some 42, none, .q (.mv (.t 7))⟩, ⟨some 43, none, .q (.mv (.t 1))⟩, ⟨some 44, none, .q (.ias 1 (.t 42) (.t 43))⟩, ⟨some 45, none, .q (.ld none (.t 44))⟩, ⟨some 46, none, .q (.mv (.t 2))⟩, ⟨some 47, none, .q (.bin .xor (.t 45) (.t 46))⟩, ⟨some 48, none, .q (.ias 1 (.t 40) (.t 41))⟩, ⟨none, none, .m (.st 1 (.t 48) (.t 47))⟩])
  (.keep [7]
  (.seq (.gst (.letT 7 1)
    (.reg none [⟨some 50, none, .q (.mv (.t 7))⟩, ⟨some 51, none, .call (.f 13) [(.t 50)]⟩, ⟨some 49, none, .q (.mv (.t 51))⟩, ⟨some 52, none, .q (.ext 0 (.t 49))⟩, ⟨some 53, none, .q (.ext 1 (.t 49))⟩, ⟨some 54, none, .q (.ext 2 (.t 49))⟩, ⟨some 9, none, .m (.alloc (.g [(.i .u32 0), (.i .i64 0), (.i .i64 0), (.i .i64 0), (.i .i64 0), (.i .i64 0), (.i .i64 0), (.i .i64 0), .nil, (.i .i64 0), (.i .i64 0), (.i .i64 0)]))⟩, ⟨none, none, .m (.st 12 (.t 9) (.t 52))⟩, ⟨some 10, none, .q (.mv (.t 53))⟩, ⟨some 11, none, .q (.mv (.t 54))⟩]))
  (.keep [9, 10]
  (.seq (.reg none [⟨some 55, none, .q (.mv (.t 10))⟩, ⟨some 56, none, .q (.bin .neq (.t 55) (.c (.i .i64 0)))⟩, ⟨some 57, none, .q (.mv (.t 56))⟩, ⟨some 58, some (57, true), .q (.ld (some 12) (.t 9))⟩, ⟨some 59, some (57, true), .q (.bld [(.i .u32 0), (.i .i64 0), (.i .i64 0), (.i .i64 0), (.i .i64 0), (.i .i64 0), (.i .i64 0), (.i .i64 0), .nil, (.i .i64 0), (.i .i64 0), (.i .i64 0)] [])⟩, ⟨some 60, some (57, true), .call (.f 15) [(.t 58), (.t 59)]⟩, ⟨some 61, none, .pk (.t 57) (.t 60) (.c (.b false))⟩, ⟨some 6, none, .q (.mv (.t 61))⟩])
  .ret)))))))))))
theorem r7 : (Try.f7.body.bind (resC Try.prog Try.f7.ntmps)) = some (strip c7) := by kernel_rfl
theorem s7 : Try.f7.results.toList.mapM (resRes Try.prog) = some [.t 6] := by kernel_rfl
def smallW : Wit := ⟨7, 1, 0, 0, 0, 0, 0, 0, [⟨1, 0⟩], 0, 0, 0⟩
theorem small_ok : smallW.Ok := by
  refine ⟨by decide, ?_, by simp [Few, smallW], ?_⟩
  · simp [smallW, I64]
  · simp [smallW, I64]
theorem small_right : smallW.rightB = true := by
  rw [Wit.rightB_iff]
  refine ⟨?_, ?_, ?_, ?_, ?_, ?_, ?_, ?_, ?_, ?_, ?_, ?_⟩ <;> simp [smallW, pickOk]
theorem read_nil : PureS Try.prog 13 [.nil] (readV []) := (read_p []).weak (by simp)
theorem readV_nil : readV [] = .tup [.g zeroW.row, .i .i64 40, .i .i64 0] := by simp [readV, readW, wmagic]
theorem few_of_right {w : Wit} (h : w.rightB = true) : Few 16 w.picks := by
  have := (Wit.rightB_iff.1 h).len
  unfold Few; omega
theorem small_l : PureS Try.prog 12 [] (.b true) := by
  refine fun_go hmx Try.func12 r12 s12 (by rw [Try.ntmps12]; simp) ?_
  unfold c12
  simp
  have hl := witW_len smallW
  have hi : (intsW smallW.ints).length = 13 := by
    simp [smallW, Wit.ints, Wit.flds, picksI, intsW, numW, u64N, putN]
  have hw := write_p smallW small_ok small_right
  have hr := read_p (witW smallW)
  have hrw := read_witW (Wit.rightB_iff.1 small_right) (small_ok.sum)
  rw [show readV (witW smallW) = .tup [.g smallW.row, .i .i64 0, .i .i64 0] by simp [readV, hrw]] at hr
  have hn := read_nil
  rw [readV_nil] at hn
  rw [show smallW.row = [.i .u32 7, .i .i64 1, .i .i64 0, .i .i64 0, .i .i64 0, .i .i64 0, .i .i64 0, .i .i64 0, .sl 2 [[.i .i64 1, .i .i64 0]], .i .i64 0, .i .i64 0, .i .i64 0] from rfl] at hw hr
  refine callk rfl Try.call9 hw rfl ?_
  simp
  refine callk rfl Try.call13 hr rfl ?_
  simp [Wit.row]
  refine callk rfl Try.call13 hn rfl ?_
  simp [Wit.row]
  have hs := same_l smallW smallW (by simp [Few, smallW]) (by simp [Few, smallW])
  first
    | refine callkg rfl Try.call15 rfl (fun _ => hs) (fun hG => by first | (simp; done) | (simp at hG; done) | simpa using hG) rfl ?_
    | refine callksg rfl Try.call15 rfl (fun _ => hs) (fun hG => by first | (simp; done) | (simp at hG; done) | simpa using hG) rfl ?_
    | refine callqg rfl Try.call15 rfl (fun _ => hs) (fun hG => by first | (simp; done) | (simp at hG; done) | simpa using hG) rfl ?_
  simp [hl, hi]
theorem ok_of_right {w : Wit} (h : w.Right) (hs : w.sum < 4294967296) : w.Ok := by
  obtain ⟨a, b, c, d, e, f, g, i, j, k, l, m⟩ := h
  refine ⟨hs, ⟨⟨by omega, by omega⟩, ⟨by omega, by omega⟩, ⟨by omega, by omega⟩, ⟨by omega, by omega⟩, ⟨by omega, by omega⟩, ⟨by omega, by omega⟩, ⟨by omega, by omega⟩, ⟨by omega, by omega⟩, ⟨by omega, by omega⟩, ⟨by omega, by omega⟩⟩, by unfold Few; omega, fun x hx => ?_⟩
  obtain ⟨⟨q1, q2⟩, q3, q4⟩ := m x hx
  exact ⟨⟨by omega, by omega⟩, ⟨by omega, by omega⟩⟩
theorem writes_l (w : Wit) (hw : w.Ok) : PureS Try.prog 4 [.g w.row] (.b true) := by
  refine fun_go hmx Try.func4 r4 s4 (by rw [Try.ntmps4]; simp) ?_
  unfold c4
  simp [Wit.row]
  have hr := rwrite_p w hw
  cases h : w.rightB with
  | false =>
    rw [h] at hr
    refine callk rfl Try.call9 (write_no w hw h) rfl ?_
    simp
    refine callk rfl Try.call10 hr rfl ?_
    simp
    have hb : PureS Try.prog 11 [.nil, .nil] (.b true) := by simpa using (sameBytes_l [] []).weak (xs := [.nil, .nil]) (by simp)
    refine callk rfl Try.call11 hb rfl ?_
    simp
    first
      | refine callkg rfl Try.call12 rfl (fun _ => small_l) (fun hG => by first | (simp; done) | (simp at hG; done) | simpa using hG) rfl ?_
      | refine callksg rfl Try.call12 rfl (fun _ => small_l) (fun hG => by first | (simp; done) | (simp at hG; done) | simpa using hG) rfl ?_
      | refine callqg rfl Try.call12 rfl (fun _ => small_l) (fun hG => by first | (simp; done) | (simp at hG; done) | simpa using hG) rfl ?_
    simp
  | true =>
    rw [h] at hr
    refine callk rfl Try.call9 (write_p w hw h) rfl ?_
    simp
    refine callk rfl Try.call10 hr rfl ?_
    simp
    refine callk rfl Try.call11 (sameBytes_l _ _) rfl ?_
    simp
    first
      | refine callkg rfl Try.call12 rfl (fun _ => small_l) (fun hG => by first | (simp; done) | (simp at hG; done) | simpa using hG) rfl ?_
      | refine callksg rfl Try.call12 rfl (fun _ => small_l) (fun hG => by first | (simp; done) | (simp at hG; done) | simpa using hG) rfl ?_
      | refine callqg rfl Try.call12 rfl (fun _ => small_l) (fun hG => by first | (simp; done) | (simp at hG; done) | simpa using hG) rfl ?_
    simp
theorem readV_shape (bs : List UInt8) : ∃ (w : Wit) (e o : Int), readV bs = .tup [.g w.row, .i .i64 e, .i .i64 o] ∧ Few 16 w.picks := by
  cases h : readW bs with
  | error x => exact ⟨zeroW, x.1, x.2, by simp [readV, h], by simp [Few, zeroW]⟩
  | ok w => exact ⟨w, 0, 0, by simp [readV, h], by have := (read_ok h).1.len; unfold Few; omega⟩
theorem reads_l (bs : List UInt8) (hb : bs.length ≤ 140737488351232) : PureS Try.prog 5 [.sl 1 (bs.map brow)] (.b true) := by
  refine fun_go hmx Try.func5 r5 s5 (by rw [Try.ntmps5]; simp) ?_
  unfold c5
  obtain ⟨w, e, o, hV, hfew⟩ := readV_shape bs
  have h1 := read_p bs
  have h2 := rread_p bs hb
  rw [hV] at h1 h2
  simp
  refine ⟨⟨by omega, by omega⟩, ?_⟩
  refine callk rfl Try.call13 h1 rfl ?_
  simp [Wit.row]
  refine callk rfl Try.call14 h2 rfl ?_
  simp [Wit.row]
  refine callk rfl Try.call15 (same_l w w hfew hfew) rfl ?_
  simp
  first
    | refine callkg rfl Try.call11 rfl (fun _ => (sameBytes_l bs bs)) (fun hG => by first | (simp; done) | (simp at hG; done) | simpa using hG) rfl ?_
    | refine callksg rfl Try.call11 rfl (fun _ => (sameBytes_l bs bs)) (fun hG => by first | (simp; done) | (simp at hG; done) | simpa using hG) rfl ?_
    | refine callqg rfl Try.call11 rfl (fun _ => (sameBytes_l bs bs)) (fun hG => by first | (simp; done) | (simp at hG; done) | simpa using hG) rfl ?_
  simp
  first
    | refine callkg rfl Try.call12 rfl (fun _ => small_l) (fun hG => by first | (simp; done) | (simp at hG; done) | simpa using hG) rfl ?_
    | refine callksg rfl Try.call12 rfl (fun _ => small_l) (fun hG => by first | (simp; done) | (simp at hG; done) | simpa using hG) rfl ?_
    | refine callqg rfl Try.call12 rfl (fun _ => small_l) (fun hG => by first | (simp; done) | (simp at hG; done) | simpa using hG) rfl ?_
  simp
theorem back_l (w : Wit) (hw : w.Ok) (bs : List UInt8) : PureS Try.prog 6 [.g w.row, .sl 1 (bs.map brow)] (.b true) := by
  refine fun_go hmx Try.func6 r6 s6 (by rw [Try.ntmps6]; simp) ?_
  unfold c6
  simp [Wit.row]
  have hrr := right_r w hw
  have hrb := read_p bs
  cases h : w.rightB with
  | false =>
    rw [h] at hrr
    refine callk rfl Try.call9 (write_no w hw h) rfl ?_
    simp
    refine callk rfl Try.call16 hrr rfl ?_
    simp
    cases hf : readW bs with
    | error x =>
      have he := read_en (e := x.1) (o := x.2) hf
      rw [show readV bs = .tup [.g zeroW.row, .i .i64 x.1, .i .i64 (x.2 : Int)] by simp [readV, hf]] at hrb
      refine callk rfl Try.call13 hrb rfl ?_
      simp [he, Wit.row]
      first
        | refine callk rfl Try.call12 small_l rfl ?_
        | refine callks rfl Try.call12 small_l rfl ?_
        | refine callq rfl Try.call12 small_l rfl ?_
      simp
    | ok x =>
      obtain ⟨k1, k2, k3⟩ := read_ok hf
      have hx := ok_of_right k1 k2
      have hwx := write_p x hx (Wit.rightB_iff.2 k1)
      rw [show readV bs = .tup [.g x.row, .i .i64 0, .i .i64 0] by simp [readV, hf]] at hrb
      refine callk rfl Try.call13 hrb rfl ?_
      simp [Wit.row]
      refine callk rfl Try.call9 hwx rfl ?_
      simp
      first
        | refine callkg rfl Try.call11 rfl (fun _ => (sameBytes_l (witW x) bs)) (fun hG => by first | (simp; done) | (simp at hG; done) | simpa using hG) rfl ?_
        | refine callksg rfl Try.call11 rfl (fun _ => (sameBytes_l (witW x) bs)) (fun hG => by first | (simp; done) | (simp at hG; done) | simpa using hG) rfl ?_
        | refine callqg rfl Try.call11 rfl (fun _ => (sameBytes_l (witW x) bs)) (fun hG => by first | (simp; done) | (simp at hG; done) | simpa using hG) rfl ?_
      simp [k3]
  | true =>
    rw [h] at hrr
    have hr := read_p (witW w)
    have hrw := read_witW (Wit.rightB_iff.1 h) hw.sum
    rw [show readV (witW w) = .tup [.g w.row, .i .i64 0, .i .i64 0] by simp [readV, hrw]] at hr
    refine callk rfl Try.call9 (write_p w hw h) rfl ?_
    simp
    refine callk rfl Try.call16 hrr rfl ?_
    simp
    refine callk rfl Try.call13 hr rfl ?_
    simp [Wit.row]
    first
      | refine callkg rfl Try.call15 rfl (fun _ => (same_l w w hw.few hw.few)) (fun hG => by first | (simp; done) | (simp at hG; done) | simpa using hG) rfl ?_
      | refine callksg rfl Try.call15 rfl (fun _ => (same_l w w hw.few hw.few)) (fun hG => by first | (simp; done) | (simp at hG; done) | simpa using hG) rfl ?_
      | refine callqg rfl Try.call15 rfl (fun _ => (same_l w w hw.few hw.few)) (fun hG => by first | (simp; done) | (simp at hG; done) | simpa using hG) rfl ?_
    simp
    cases hf : readW bs with
    | error x =>
      have he := read_en (e := x.1) (o := x.2) hf
      rw [show readV bs = .tup [.g zeroW.row, .i .i64 x.1, .i .i64 (x.2 : Int)] by simp [readV, hf]] at hrb
      refine callk rfl Try.call13 hrb rfl ?_
      simp [he, Wit.row]
      first
        | refine callk rfl Try.call12 small_l rfl ?_
        | refine callks rfl Try.call12 small_l rfl ?_
        | refine callq rfl Try.call12 small_l rfl ?_
      simp
    | ok x =>
      obtain ⟨k1, k2, k3⟩ := read_ok hf
      have hx := ok_of_right k1 k2
      have hwx := write_p x hx (Wit.rightB_iff.2 k1)
      rw [show readV bs = .tup [.g x.row, .i .i64 0, .i .i64 0] by simp [readV, hf]] at hrb
      refine callk rfl Try.call13 hrb rfl ?_
      simp [Wit.row]
      refine callk rfl Try.call9 hwx rfl ?_
      simp
      first
        | refine callkg rfl Try.call11 rfl (fun _ => (sameBytes_l (witW x) bs)) (fun hG => by first | (simp; done) | (simp at hG; done) | simpa using hG) rfl ?_
        | refine callksg rfl Try.call11 rfl (fun _ => (sameBytes_l (witW x) bs)) (fun hG => by first | (simp; done) | (simp at hG; done) | simpa using hG) rfl ?_
        | refine callqg rfl Try.call11 rfl (fun _ => (sameBytes_l (witW x) bs)) (fun hG => by first | (simp; done) | (simp at hG; done) | simpa using hG) rfl ?_
      simp [k3]
theorem intsW_ge : ∀ (l : List Int), l.length ≤ (intsW l).length
  | [] => by simp
  | x :: r => by have := intsW_ge r; have := putN_pos (u64N x); simp [intsW, numW]; omega
theorem turn_b (bs : List UInt8) (n : Nat) (hlt : n < bs.length) (c : UInt8) (hc : ¬ c.toNat = 0) : ∃ b, bs[n] ≠ b ∧ ((UInt8.toNat b : Nat) : Int) = IntKind.u8.wrap ↑(((bs[n].toNat : Int) % 256).toNat ^^^ ((c.toNat : Int) % 256).toNat) := by
  have h1 := bs[n].toNat_lt
  have h2 := c.toNat_lt
  have h3 : bs[n].toNat ^^^ c.toNat < 256 := Nat.xor_lt_two_pow (n := 8) h1 h2
  refine ⟨UInt8.ofNat (bs[n].toNat ^^^ c.toNat), fun e => ?_, ?_⟩
  · have := congrArg UInt8.toNat e
    rw [u8_toNat h3] at this
    have h4 : bs[n].toNat ^^^ bs[n].toNat = bs[n].toNat ^^^ (bs[n].toNat ^^^ c.toNat) := by rw [← this]
    rw [Nat.xor_self, ← Nat.xor_assoc, Nat.xor_self, Nat.zero_xor] at h4
    exact hc h4.symm
  · have e1 : ((bs[n].toNat : Int) % 256).toNat = bs[n].toNat := by omega
    have e2 : ((c.toNat : Int) % 256).toNat = c.toNat := by omega
    rw [e1, e2, wrap_u8_lt h3, u8_toNat h3]
theorem flips_l (w : Wit) (hw : w.Ok) (at' : Int) (c : UInt8) : PureS Try.prog 7 [.g w.row, .i .i64 at', .i .u8 (c.toNat : Int)] (.b true) := by
  refine fun_go hmx Try.func7 r7 s7 (by rw [Try.ntmps7]; simp) ?_
  unfold c7
  simp [Wit.row]
  have hrr := right_r w hw
  cases h : w.rightB with
  | false =>
    rw [h] at hrr
    refine callk rfl Try.call9 (write_no w hw h) rfl ?_
    simp
    refine callk rfl Try.call16 hrr rfl ?_
    simp
    first
      | refine callkg rfl Try.call12 rfl (fun _ => small_l) (fun hG => by first | (simp; done) | (simp at hG; done) | simpa using hG) rfl ?_
      | refine callksg rfl Try.call12 rfl (fun _ => small_l) (fun hG => by first | (simp; done) | (simp at hG; done) | simpa using hG) rfl ?_
      | refine callqg rfl Try.call12 rfl (fun _ => small_l) (fun hG => by first | (simp; done) | (simp at hG; done) | simpa using hG) rfl ?_
    simp
  | true =>
    have hl := witW_len w
    have hl2 := intsW_ge w.ints
    have hl3 : w.ints.length = 11 + 2 * w.picks.length := by simp [Wit.ints, Wit.flds, picksI_len]; omega
    refine callf [] rfl Try.call9 (write_o w hw h) (by decide) rfl (by simp) (by simp) (by simp [Wit.row]) ?_
    rintro _ _ ⟨v, rfl, rfl⟩
    simp
    by_cases hz : (at' < 0 ∨ ((witW w).length : Int) ≤ at') ∨ c.toNat = 0
    · have hz2 : (23 : Int) ≤ ((witW w).length : Int) := by omega
      simp [hz, hz2]
      intro a b d
      exfalso
      omega
    · obtain ⟨n, rfl⟩ := Int.eq_ofNat_of_zero_le (show 0 ≤ at' by omega)
      have hn : n < (witW w).length := by omega
      have hnI : (n : Int) < ((witW w).length : Int) := by omega
      have hc : ¬ c.toNat = 0 := by omega
      have hn2 : ¬ (witW w).length ≤ n := by omega
      have hn3 : ¬ (n : Int) < 0 := by omega
      simp [hn, hnI, hc, hn2, hn3, brow, vrows_at]
      obtain ⟨b, hb1, hb2⟩ := turn_b (witW w) n hn c hc
      have hset : (vrows (List.map brow (witW w))).set n [RV.v (AV.i IntKind.u8 (IntKind.u8.wrap (((((witW w)[n].toNat : Int) % 256).toNat ^^^ ((c.toNat : Int) % 256).toNat : Nat) : Int)))] = vrows (((witW w).set n b).map brow) := by
        rw [← hb2]; simp [vrows, List.map_set, brow]
      rw [hset]
      obtain ⟨e, o, he, hd⟩ := read_turned hn hb1
      have hrd := read_p ((witW w).set n b)
      rw [show readV ((witW w).set n b) = .tup [.g zeroW.row, .i .i64 e, .i .i64 (o : Int)] by simp [readV, hd]] at hrd
      generalize (witW w).set n b = bs at *
      simp
      refine callk rfl Try.call13 hrd rfl ?_
      simp [he, Wit.row]
      have hs : PureS Try.prog 15 [.g zeroW.row, .g [.i .u32 0, .i .i64 0, .i .i64 0, .i .i64 0, .i .i64 0, .i .i64 0, .i .i64 0, .i .i64 0, .nil, .i .i64 0, .i .i64 0, .i .i64 0]] (.b true) := by
        have := (same_l zeroW zeroW (by simp [Few, zeroW]) (by simp [Few, zeroW])).weak (xs := [.g zeroW.row, .g [.i .u32 0, .i .i64 0, .i .i64 0, .i .i64 0, .i .i64 0, .i .i64 0, .i .i64 0, .i .i64 0, .nil, .i .i64 0, .i .i64 0, .i .i64 0]]) ⟨.refl _, wk_none, trivial⟩
        simpa using this
      first
        | refine callkg rfl Try.call15 rfl (fun _ => hs) (fun hG => by first | (simp; done) | (simp at hG; done) | simpa using hG) rfl ?_
        | refine callksg rfl Try.call15 rfl (fun _ => hs) (fun hG => by first | (simp; done) | (simp at hG; done) | simpa using hG) rfl ?_
        | refine callqg rfl Try.call15 rfl (fun _ => hs) (fun hG => by first | (simp; done) | (simp at hG; done) | simpa using hG) rfl ?_
      simp [he]
end Go.Sc.Wi
