/- Chapter 27: witnesses read, by the program. No condition. -/
import Derived.Test.YtlolloejmdgkjaaXWiA
set_option linter.constructorNameAsVariable false
namespace Go.Sc.Wi
open Go Go.RowKit Go.Av Go.Proofs Go.Sc.Oct Go.Sc Go.Sc.Cw
set_option linter.unusedSimpArgs false
set_option linter.unusedVariables false
/-- bytes.Clone -/
def c41 : ACode :=
  (.seq (.reg none [⟨some 2, none, .q (.mv (.c .nil))⟩])
  (.keep [0]
  (.seq (.seq (.reg none [⟨some 3, none, .q (.mv (.t 0))⟩, ⟨some 4, none, .q (.isn false true (.t 3))⟩])
    (.keep [0, 4]
    (.cond (.t 4) (.seq (.reg none [⟨some 2, none, .q (.mv (.c .nil))⟩])
      .ret)
    .skip)))
  (.seq (.reg none [⟨some 5, none, .m (.bsl 0 1 [(.i .u8 0)] [])⟩, ⟨some 6, none, .q (.mv (.t 0))⟩, ⟨some 7, none, .m (.app 1 1 (.t 5) (.t 6))⟩, ⟨some 2, none, .q (.mv (.t 7))⟩])
  .ret))))
theorem r41 : (Try.f41.body.bind (resC Try.prog Try.f41.ntmps)) = some (strip c41) := by kernel_rfl
theorem s41 : Try.f41.results.toList.mapM (resRes Try.prog) = some [.t 2] := by kernel_rfl
/-- scarab/octet.NewReader -/
def c28 : ACode :=
  (.seq (.reg none [⟨some 2, none, .q (.mv (.c .np))⟩])
  (.keep [0]
  (.seq (.reg none [⟨some 3, none, .q (.mv (.t 0))⟩, ⟨some 4, none, .call (.f 41) [(.t 3)]⟩, ⟨some 5, none, .q (.bld [.nil, (.i .i64 0)] [(0, 1, .t 4)])⟩, ⟨some 6, none, .m (.box (.t 5))⟩, ⟨some 2, none, .q (.mv (.t 6))⟩])
  .ret)))
theorem r28 : (Try.f28.body.bind (resC Try.prog Try.f28.ntmps)) = some (strip c28) := by kernel_rfl
theorem s28 : Try.f28.results.toList.mapM (resRes Try.prog) = some [.t 2] := by kernel_rfl
/-- (*scarab/octet.Reader).At -/
def c31 : ACode :=
  (.seq (.reg none [⟨some 2, none, .q (.mv (.c (.i .i64 0)))⟩])
  (.keep [0]
  (.seq (.seq (.reg none [⟨some 3, none, .q (.mv (.t 0))⟩, ⟨some 4, none, .q (.isn false false (.t 3))⟩])
    (.keep [0, 4]
    (.cond (.t 4) (.seq (.reg none [⟨some 2, none, .q (.mv (.c (.i .i64 0)))⟩])
      .ret)
    .skip)))
  (.seq (.reg none [⟨some 5, none, .q (.mv (.t 0))⟩, ⟨some 6, none, .q (.nck (.t 5))⟩, ⟨some 7, none, .q (.fa 1 (.t 6))⟩, ⟨some 8, none, .q (.ld none (.t 7))⟩, ⟨some 2, none, .q (.mv (.t 8))⟩])
  .ret))))
theorem r31 : (Try.f31.body.bind (resC Try.prog Try.f31.ntmps)) = some (strip c31) := by kernel_rfl
theorem s31 : Try.f31.results.toList.mapM (resRes Try.prog) = some [.t 2] := by kernel_rfl
/-- (*scarab/octet.Reader).Uint -/
def c44 : ACode :=
  (.seq (.reg none [⟨some 2, none, .q (.mv (.c (.i .u64 0)))⟩, ⟨some 3, none, .q (.mv (.c (.i .i64 0)))⟩])
  (.keep [0]
  (.seq (.seq (.reg none [⟨some 7, none, .q (.mv (.t 0))⟩, ⟨some 8, none, .q (.isn false false (.t 7))⟩])
    (.keep [0, 8]
    (.cond (.t 8) (.seq (.reg none [⟨some 2, none, .q (.mv (.c (.i .u64 0)))⟩, ⟨some 3, none, .q (.mv (.c (.i .i64 10)))⟩])
      .ret)
    .skip)))
  (.seq (.reg (some (16, [])) [⟨some 10, none, .q (.mv (.t 0))⟩, ⟨some 11, none, .q (.nck (.t 10))⟩, ⟨some 12, none, .q (.fa 0 (.t 11))⟩, ⟨some 13, none, .q (.ld none (.t 12))⟩, ⟨some 14, none, .q (.mv (.t 0))⟩, ⟨some 15, none, .q (.nck (.t 14))⟩, ⟨some 16, none, .q (.fa 1 (.t 15))⟩, ⟨some 17, none, .q (.ld none (.t 16))⟩, ⟨some 18, none, .call (.f 45) [(.t 13), (.t 17)]⟩, ⟨some 9, none, .q (.mv (.t 18))⟩, ⟨some 19, none, .q (.ext 0 (.t 9))⟩, ⟨some 20, none, .q (.ext 1 (.t 9))⟩, ⟨some 21, none, .q (.ext 2 (.t 9))⟩, ⟨some 4, none, .q (.mv (.t 19))⟩, ⟨some 5, none, .q (.mv (.t 20))⟩, ⟨some 6, none, .q (.mv (.t 21))⟩])
  (.keep [0, 4, 5, 6]
  (.seq (.seq (.reg none [⟨some 22, none, .q (.mv (.t 6))⟩, ⟨some 23, none, .q (.bin .eql (.t 22) (.c (.i .i64 0)))⟩])
    (.keep [0, 4, 5, 6, 23]
    (.cond (.t 23) (.reg none [⟨some 24, none, .q (.mv (.t 0))⟩, ⟨some 25, none, .q (.mv (.t 5))⟩, ⟨some 26, none, .q (.nck (.t 24))⟩, ⟨some 27, none, .q (.fa 1 (.t 26))⟩, ⟨none, none, .m (.st 1 (.t 27) (.t 25))⟩])
    .skip)))
  (.seq (.reg none [⟨some 28, none, .q (.mv (.t 4))⟩, ⟨some 29, none, .q (.mv (.t 6))⟩, ⟨some 2, none, .q (.mv (.t 28))⟩, ⟨some 3, none, .q (.mv (.t 29))⟩])
  .ret)))))))
theorem r44 : (Try.f44.body.bind (resC Try.prog Try.f44.ntmps)) = some (strip c44) := by kernel_rfl
theorem s44 : Try.f44.results.toList.mapM (resRes Try.prog) = some [.t 2, .t 3] := by kernel_rfl
/-- (*scarab/octet.Reader).Left -/
def c30 : ACode :=
  (.seq (.reg none [⟨some 2, none, .q (.mv (.c (.i .i64 0)))⟩])
  (.keep [0]
  (.seq (.seq (.reg none [⟨some 3, none, .q (.mv (.t 0))⟩, ⟨some 4, none, .q (.isn false false (.t 3))⟩])
    (.keep [0, 4]
    (.cond (.t 4) (.seq (.reg none [⟨some 2, none, .q (.mv (.c (.i .i64 0)))⟩])
      .ret)
    .skip)))
  (.seq (.reg (some (11, [])) [⟨some 5, none, .q (.mv (.t 0))⟩, ⟨some 6, none, .q (.nck (.t 5))⟩, ⟨some 7, none, .q (.fa 0 (.t 6))⟩, ⟨some 8, none, .q (.ld none (.t 7))⟩, ⟨some 9, none, .q (.len false (.t 8))⟩, ⟨some 10, none, .q (.mv (.t 0))⟩, ⟨some 11, none, .q (.nck (.t 10))⟩, ⟨some 12, none, .q (.fa 1 (.t 11))⟩, ⟨some 13, none, .q (.ld none (.t 12))⟩, ⟨some 14, none, .q (.bin .sub (.t 9) (.t 13))⟩, ⟨some 2, none, .q (.mv (.t 14))⟩])
  .ret))))
theorem r30 : (Try.f30.body.bind (resC Try.prog Try.f30.ntmps)) = some (strip c30) := by kernel_rfl
theorem s30 : Try.f30.results.toList.mapM (resRes Try.prog) = some [.t 2] := by kernel_rfl
/-- (*scarab/witness.reader).number -/
def c42 : ACode :=
  (.seq (.seq (.reg none [⟨some 11, none, .q (.mv (.t 0))⟩, ⟨some 12, none, .q (.nck (.t 11))⟩, ⟨some 13, none, .q (.fa 1 (.t 12))⟩, ⟨some 14, none, .q (.ld none (.t 13))⟩, ⟨some 15, none, .q (.bin .neq (.t 14) (.c (.i .i64 0)))⟩])
    (.keep [0, 1, 2, 3, 15]
    (.cond (.t 15) .ret
    .skip)))
  (.seq (.reg none [⟨some 16, none, .q (.mv (.t 0))⟩, ⟨some 17, none, .q (.nck (.t 16))⟩, ⟨some 18, none, .q (.fa 0 (.t 17))⟩, ⟨some 19, none, .q (.ld none (.t 18))⟩, ⟨some 20, none, .call (.f 31) [(.t 19)]⟩, ⟨some 8, none, .q (.mv (.t 20))⟩])
  (.keep [0, 1, 2, 3, 8]
  (.seq (.reg none [⟨some 22, none, .q (.mv (.t 0))⟩, ⟨some 23, none, .q (.nck (.t 22))⟩, ⟨some 24, none, .q (.fa 0 (.t 23))⟩, ⟨some 25, none, .q (.ld none (.t 24))⟩, ⟨some 26, none, .call (.f 44) [(.t 25)]⟩, ⟨some 21, none, .q (.mv (.t 26))⟩, ⟨some 27, none, .q (.ext 0 (.t 21))⟩, ⟨some 28, none, .q (.ext 1 (.t 21))⟩, ⟨some 9, none, .q (.mv (.t 27))⟩, ⟨some 10, none, .q (.mv (.t 28))⟩])
  (.keep [0, 1, 2, 3, 8, 9, 10]
  (.seq (.seq (.reg none [⟨some 29, none, .q (.mv (.t 10))⟩, ⟨some 30, none, .q (.bin .eql (.t 29) (.c (.i .i64 0)))⟩, ⟨some 31, none, .q (.mv (.t 30))⟩, ⟨some 32, some (31, true), .q (.mv (.t 9))⟩, ⟨some 33, some (31, true), .q (.mv (.t 3))⟩, ⟨some 34, some (31, true), .q (.cvi .u64 (.t 33))⟩, ⟨some 35, some (31, true), .q (.bin .gtr (.t 32) (.t 34))⟩, ⟨some 36, some (31, true), .q (.mv (.t 35))⟩, ⟨some 37, some (36, false), .q (.mv (.t 9))⟩, ⟨some 38, some (36, false), .q (.cvi .i64 (.t 37))⟩, ⟨some 39, some (36, false), .q (.mv (.t 2))⟩, ⟨some 40, some (36, false), .q (.bin .lss (.t 38) (.t 39))⟩, ⟨some 41, some (31, true), .pk (.t 36) (.c (.b true)) (.t 40)⟩, ⟨some 42, none, .pk (.t 31) (.t 41) (.c (.b false))⟩])
    (.keep [0, 1, 8, 9, 10, 42]
    (.cond (.t 42) (.reg none [⟨some 10, none, .q (.mv (.c (.i .i64 1)))⟩])
    .skip)))
  (.seq (.seq (.reg none [⟨some 43, none, .q (.mv (.t 10))⟩, ⟨some 44, none, .q (.bin .neq (.t 43) (.c (.i .i64 0)))⟩])
    (.keep [0, 1, 8, 9, 10, 44]
    (.cond (.t 44) (.seq (.reg none [⟨some 45, none, .q (.mv (.t 0))⟩, ⟨some 46, none, .q (.mv (.t 0))⟩, ⟨some 47, none, .q (.mv (.t 10))⟩, ⟨some 48, none, .q (.mv (.t 8))⟩, ⟨some 49, none, .q (.bin .add (.c (.i .i64 8)) (.t 48))⟩, ⟨some 50, none, .q (.nck (.t 45))⟩, ⟨some 51, none, .q (.fa 1 (.t 50))⟩, ⟨none, none, .m (.st 1 (.t 51) (.t 47))⟩, ⟨some 52, none, .q (.nck (.t 46))⟩, ⟨some 53, none, .q (.fa 2 (.t 52))⟩, ⟨none, none, .m (.st 1 (.t 53) (.t 49))⟩])
      .ret)
    .skip)))
  (.reg none [⟨some 54, none, .q (.mv (.t 1))⟩, ⟨some 55, none, .q (.mv (.t 9))⟩, ⟨some 56, none, .q (.cvi .i64 (.t 55))⟩, ⟨some 57, none, .q (.nck (.t 54))⟩, ⟨none, none, .m (.st 1 (.t 57) (.t 56))⟩]))))))))
theorem r42 : (Try.f42.body.bind (resC Try.prog Try.f42.ntmps)) = some (strip c42) := by kernel_rfl
theorem s42 : Try.f42.results.toList.mapM (resRes Try.prog) = some [] := by kernel_rfl
/-- (*scarab/witness.reader).fields -/
def c29 : ACode :=
  (.seq (.reg none [⟨some 11, none, .q (.mv (.t 0))⟩, ⟨some 12, none, .q (.mkb 42 [(.t 11)])⟩, ⟨some 4, none, .q (.mv (.t 12))⟩])
  (.keep [1, 4]
  (.seq (.reg (some (8, [])) [⟨some 13, none, .q (.mv (.t 1))⟩, ⟨some 14, none, .q (.nck (.t 13))⟩, ⟨some 15, none, .q (.fa 1 (.t 14))⟩, ⟨some 16, none, .q (.mv (.t 1))⟩, ⟨some 17, none, .q (.nck (.t 16))⟩, ⟨some 18, none, .q (.fa 9 (.t 17))⟩, ⟨some 5, none, .q (.mv (.t 15))⟩, ⟨some 6, none, .q (.mv (.t 18))⟩])
  (.keep [1, 4, 5, 6]
  (.seq (.reg none [⟨some 19, none, .q (.mv (.t 4))⟩, ⟨some 20, none, .q (.mv (.t 5))⟩, ⟨some 21, none, .q (.nck (.t 20))⟩, ⟨some 22, none, .q (.fa 0 (.t 21))⟩, ⟨some 23, none, .call (.t 19) [(.t 22), (.c (.i .i64 1)), (.c (.i .i64 5))]⟩])
  (.keep [1, 4, 5, 6]
  (.seq (.seq (.reg (some (18, [])) [⟨some 24, none, .q (.mv (.t 5))⟩, ⟨some 25, none, .q (.nck (.t 24))⟩, ⟨some 26, none, .q (.fa 1 (.t 25))⟩, ⟨some 27, none, .q (.fa 0 (.t 26))⟩, ⟨some 28, none, .q (.mv (.t 5))⟩, ⟨some 29, none, .q (.nck (.t 28))⟩, ⟨some 30, none, .q (.fa 1 (.t 29))⟩, ⟨some 31, none, .q (.fa 1 (.t 30))⟩, ⟨some 32, none, .q (.mv (.t 5))⟩, ⟨some 33, none, .q (.nck (.t 32))⟩, ⟨some 34, none, .q (.fa 3 (.t 33))⟩, ⟨some 35, none, .q (.fa 0 (.t 34))⟩, ⟨some 36, none, .q (.mv (.t 5))⟩, ⟨some 37, none, .q (.nck (.t 36))⟩, ⟨some 38, none, .q (.fa 3 (.t 37))⟩, ⟨some 39, none, .q (.fa 1 (.t 38))⟩, ⟨some 40, none, .q (.bld [.np, .np, .np, .np] [(0, 1, .t 27), (1, 1, .t 31), (2, 1, .t 35), (3, 1, .t 39)])⟩, ⟨some 41, none, .q (.mv (.c (.i .i64 0)))⟩])
    (.keep [1, 4, 5, 6, 40, 41]
    (.blk 0 (.keep [1, 4, 5, 6, 40, 41]
    (.loop (.fin [1, 4, 5, 6, 40, 41]
      (.seq (.reg none [⟨some 42, none, .q (.bin .lss (.t 41) (.c (.i .i64 4)))⟩])
      (.keep [1, 4, 5, 6, 40, 41, 42]
      (.seq (.cond (.t 42) .skip
        (.exit 0))
      (.seq (.blk 1 (.seq (.reg none [⟨some 43, none, .q (.idx 4 1 false (.t 40) (.t 41))⟩, ⟨some 8, none, .q (.mv (.t 43))⟩])
        (.keep [1, 4, 5, 6, 8, 40, 41]
        (.reg none [⟨some 44, none, .q (.mv (.t 4))⟩, ⟨some 45, none, .q (.mv (.t 8))⟩, ⟨some 46, none, .call (.t 44) [(.t 45), (.c (.i .i64 0)), (.c (.i .i64 64))]⟩]))))
      (.keep [1, 4, 5, 6, 40, 41]
      (.reg none [⟨some 47, none, .q (.bin .add (.t 41) (.c (.i .i64 1)))⟩, ⟨some 41, none, .q (.mv (.t 47))⟩]))))))))))))
  (.seq (.reg none [⟨some 48, none, .q (.mv (.t 4))⟩, ⟨some 49, none, .q (.mv (.t 5))⟩, ⟨some 50, none, .q (.nck (.t 49))⟩, ⟨some 51, none, .q (.fa 5 (.t 50))⟩, ⟨some 52, none, .call (.t 48) [(.t 51), (.c (.i .i64 0)), (.c (.i .i64 255))]⟩])
  (.keep [1, 4, 5, 6]
  (.seq (.reg none [⟨some 53, none, .q (.mv (.t 4))⟩, ⟨some 54, none, .q (.mv (.t 5))⟩, ⟨some 55, none, .q (.nck (.t 54))⟩, ⟨some 56, none, .q (.fa 6 (.t 55))⟩, ⟨some 57, none, .call (.t 53) [(.t 56), (.c (.i .i64 0)), (.c (.i .i64 255))]⟩])
  (.keep [1, 4, 6]
  (.seq (.reg none [⟨some 58, none, .q (.mv (.t 4))⟩, ⟨some 59, none, .q (.mv (.t 6))⟩, ⟨some 60, none, .q (.nck (.t 59))⟩, ⟨some 61, none, .q (.fa 0 (.t 60))⟩, ⟨some 62, none, .call (.t 58) [(.t 61), (.c (.i .i64 0)), (.c (.i .i64 256))]⟩])
  (.keep [1, 4, 6]
  (.seq (.reg none [⟨some 63, none, .q (.mv (.t 4))⟩, ⟨some 64, none, .q (.mv (.t 6))⟩, ⟨some 65, none, .q (.nck (.t 64))⟩, ⟨some 66, none, .q (.fa 1 (.t 65))⟩, ⟨some 67, none, .call (.t 63) [(.t 66), (.c (.i .i64 0)), (.c (.i .i64 4096))]⟩])
  (.keep [1, 4, 6]
  (.seq (.reg none [⟨some 68, none, .q (.mv (.t 4))⟩, ⟨some 69, none, .q (.mv (.t 6))⟩, ⟨some 70, none, .q (.nck (.t 69))⟩, ⟨some 71, none, .q (.fa 2 (.t 70))⟩, ⟨some 72, none, .call (.t 68) [(.t 71), (.c (.i .i64 0)), (.c (.i .i64 65536))]⟩])
  (.keep [1, 4]
  (.seq (.reg none [⟨some 9, none, .m (.alloc (.i .i64 0))⟩, ⟨none, none, .m (.st 1 (.t 9) (.c (.i .i64 0)))⟩])
  (.keep [1, 4, 9]
  (.seq (.reg none [⟨some 73, none, .q (.mv (.t 4))⟩, ⟨some 74, none, .call (.t 73) [(.t 9), (.c (.i .i64 0)), (.c (.i .i64 256))]⟩])
  (.keep [1, 4, 9]
  (.seq (.gst (.nilC 1 8 2)
    (.reg none [⟨some 75, none, .q (.ld none (.t 9))⟩, ⟨some 76, none, .q (.mv (.c (.i .i64 0)))⟩]))
  (.keep [1, 4, 75, 76]
  (.blk 2 (.keep [1, 4, 75, 76]
  (.loop (.fin [1, 4, 75, 76]
    (.seq (.reg none [⟨some 77, none, .q (.bin .lss (.t 76) (.t 75))⟩])
    (.keep [1, 4, 75, 76, 77]
    (.seq (.cond (.t 77) .skip
      (.exit 2))
    (.seq (.blk 3 (.seq (.reg none [⟨some 10, none, .m (.alloc (.g [(.i .i64 0), (.i .i64 0)]))⟩])
      (.keep [1, 4, 10, 75, 76]
      (.seq (.reg none [⟨some 78, none, .q (.mv (.t 4))⟩, ⟨some 79, none, .q (.fa 0 (.t 10))⟩, ⟨some 80, none, .call (.t 78) [(.t 79), (.c (.i .i64 0)), (.c (.i .i64 5))]⟩])
      (.keep [1, 4, 10, 75, 76]
      (.seq (.reg none [⟨some 81, none, .q (.mv (.t 4))⟩, ⟨some 82, none, .q (.fa 1 (.t 10))⟩, ⟨some 83, none, .call (.t 81) [(.t 82), (.c (.i .i64 0)), (.c (.i .i64 4))]⟩])
      (.keep [1, 4, 10, 75, 76]
      (.reg (some (6, [2, 3, 4])) [⟨some 84, none, .q (.mv (.t 1))⟩, ⟨some 85, none, .q (.mv (.t 1))⟩, ⟨some 86, none, .q (.nck (.t 85))⟩, ⟨some 87, none, .q (.fa 8 (.t 86))⟩, ⟨some 88, none, .q (.ld none (.t 87))⟩, ⟨some 89, none, .q (.ld (some 2) (.t 10))⟩, ⟨some 90, none, .m (.bsl 1 2 [(.i .i64 0), (.i .i64 0)] [(0, 2, .t 89)])⟩, ⟨some 91, none, .m (.app 2 16 (.t 88) (.t 90))⟩, ⟨some 92, none, .q (.nck (.t 84))⟩, ⟨some 93, none, .q (.fa 8 (.t 92))⟩, ⟨none, none, .m (.st 1 (.t 93) (.t 91))⟩]))))))))
    (.keep [1, 4, 75, 76]
    (.reg none [⟨some 94, none, .q (.bin .add (.t 76) (.c (.i .i64 1)))⟩, ⟨some 76, none, .q (.mv (.t 94))⟩])))))))))))))))))))))))))))))))))
theorem r29 : (Try.f29.body.bind (resC Try.prog Try.f29.ntmps)) = some (strip c29) := by kernel_rfl
theorem s29 : Try.f29.results.toList.mapM (resRes Try.prog) = some [] := by kernel_rfl
/-- scarab/witness.Read -/
def c13 : ACode :=
  (.seq (.reg none [⟨some 2, none, .m (.alloc (.g [(.i .u32 0), (.i .i64 0), (.i .i64 0), (.i .i64 0), (.i .i64 0), (.i .i64 0), (.i .i64 0), (.i .i64 0), .nil, (.i .i64 0), (.i .i64 0), (.i .i64 0)]))⟩, ⟨some 3, none, .q (.mv (.c (.i .i64 0)))⟩, ⟨some 4, none, .q (.mv (.c (.i .i64 0)))⟩])
  (.keep [0, 2]
  (.seq (.reg none [⟨some 12, none, .q (.bld [(.i .u32 0), (.i .i64 0), (.i .i64 0), (.i .i64 0), (.i .i64 0), (.i .i64 0), (.i .i64 0), (.i .i64 0), .nil, (.i .i64 0), (.i .i64 0), (.i .i64 0)] [])⟩, ⟨some 5, none, .m (.alloc (.g [(.i .u32 0), (.i .i64 0), (.i .i64 0), (.i .i64 0), (.i .i64 0), (.i .i64 0), (.i .i64 0), (.i .i64 0), .nil, (.i .i64 0), (.i .i64 0), (.i .i64 0)]))⟩, ⟨none, none, .m (.st 12 (.t 5) (.t 12))⟩])
  (.keep [0, 2, 5]
  (.seq (.seq (.reg none [⟨some 13, none, .q (.mv (.t 0))⟩, ⟨some 14, none, .q (.len false (.t 13))⟩, ⟨some 15, none, .q (.bin .gtr (.t 14) (.c (.i .i64 65536)))⟩])
    (.keep [0, 2, 5, 15]
    (.cond (.t 15) (.seq (.reg none [⟨some 16, none, .q (.ld (some 12) (.t 5))⟩, ⟨none, none, .m (.st 12 (.t 2) (.t 16))⟩, ⟨some 3, none, .q (.mv (.c (.i .i64 2)))⟩, ⟨some 4, none, .q (.mv (.c (.i .i64 0)))⟩])
      .ret)
    .skip)))
  (.seq (.seq (.reg none [⟨some 17, none, .q (.mv (.t 0))⟩, ⟨some 18, none, .q (.len false (.t 17))⟩, ⟨some 19, none, .q (.bin .lss (.t 18) (.c (.i .i64 4)))⟩, ⟨some 20, none, .q (.mv (.t 19))⟩, ⟨some 21, some (20, false), .q (.mv (.t 0))⟩, ⟨some 22, some (20, false), .q (.sls 1 (.t 21) none (some (.c (.i .i64 4))))⟩, ⟨some 23, some (20, false), .q (.b2s (.t 22))⟩, ⟨some 24, some (20, false), .q (.bin .neq (.t 23) (.c (.s [115, 99, 97, 119])))⟩, ⟨some 25, none, .pk (.t 20) (.c (.b true)) (.t 24)⟩])
    (.keep [0, 2, 5, 25]
    (.cond (.t 25) (.seq (.reg none [⟨some 26, none, .q (.ld (some 12) (.t 5))⟩, ⟨none, none, .m (.st 12 (.t 2) (.t 26))⟩, ⟨some 3, none, .q (.mv (.c (.i .i64 40)))⟩, ⟨some 4, none, .q (.mv (.c (.i .i64 0)))⟩])
      .ret)
    .skip)))
  (.seq (.seq (.reg none [⟨some 27, none, .q (.mv (.t 0))⟩, ⟨some 28, none, .q (.len false (.t 27))⟩, ⟨some 29, none, .q (.bin .lss (.t 28) (.c (.i .i64 12)))⟩])
    (.keep [0, 2, 5, 29]
    (.cond (.t 29) (.seq (.reg none [⟨some 30, none, .q (.ld (some 12) (.t 5))⟩, ⟨some 31, none, .q (.mv (.t 0))⟩, ⟨some 32, none, .q (.len false (.t 31))⟩, ⟨none, none, .m (.st 12 (.t 2) (.t 30))⟩, ⟨some 3, none, .q (.mv (.c (.i .i64 10)))⟩, ⟨some 4, none, .q (.mv (.t 32))⟩])
      .ret)
    .skip)))
  (.seq (.reg none [⟨some 33, none, .q (.mv (.t 0))⟩, ⟨some 34, none, .q (.len false (.t 33))⟩, ⟨some 35, none, .q (.bin .sub (.t 34) (.c (.i .i64 4)))⟩, ⟨some 6, none, .q (.mv (.t 35))⟩])
  (.keep [0, 2, 5, 6]
  (.seq (.seq (.reg none [⟨some 37, none, .q (.mv (.t 0))⟩, ⟨some 38, none, .q (.mv (.t 6))⟩, ⟨some 39, none, .call (.f 27) [(.t 37), (.t 38)]⟩, ⟨some 36, none, .q (.mv (.t 39))⟩, ⟨some 40, none, .q (.ext 0 (.t 36))⟩, ⟨some 41, none, .q (.ext 1 (.t 36))⟩, ⟨some 42, none, .q (.ext 2 (.t 36))⟩, ⟨some 7, none, .q (.mv (.t 40))⟩, ⟨some 8, none, .q (.mv (.t 41))⟩, ⟨some 9, none, .q (.mv (.t 42))⟩])
    (.keep [0, 2, 5, 6, 7]
    (.seq (.reg none [⟨some 43, none, .q (.mv (.t 7))⟩, ⟨some 44, none, .q (.mv (.t 0))⟩, ⟨some 45, none, .q (.mv (.t 6))⟩, ⟨some 46, none, .q (.sls 1 (.t 44) none (some (.t 45)))⟩, ⟨some 47, none, .call (.f 22) [(.t 46)]⟩, ⟨some 48, none, .q (.bin .neq (.t 43) (.t 47))⟩])
    (.keep [0, 2, 5, 6, 48]
    (.cond (.t 48) (.seq (.reg none [⟨some 49, none, .q (.ld (some 12) (.t 5))⟩, ⟨some 50, none, .q (.mv (.t 6))⟩, ⟨none, none, .m (.st 12 (.t 2) (.t 49))⟩, ⟨some 3, none, .q (.mv (.c (.i .i64 41)))⟩, ⟨some 4, none, .q (.mv (.t 50))⟩])
      .ret)
    .skip)))))
  (.seq (.reg none [⟨some 10, none, .m (.alloc (.g [(.i .u32 0), (.i .i64 0), (.i .i64 0), (.i .i64 0), (.i .i64 0), (.i .i64 0), (.i .i64 0), (.i .i64 0), .nil, (.i .i64 0), (.i .i64 0), (.i .i64 0)]))⟩])
  (.keep [0, 2, 5, 6, 10]
  (.seq (.reg none [⟨some 52, none, .q (.mv (.t 0))⟩, ⟨some 53, none, .call (.f 27) [(.t 52), (.c (.i .i64 4))]⟩, ⟨some 51, none, .q (.mv (.t 53))⟩, ⟨some 54, none, .q (.ext 0 (.t 51))⟩, ⟨some 55, none, .q (.ext 1 (.t 51))⟩, ⟨some 56, none, .q (.ext 2 (.t 51))⟩, ⟨some 57, none, .q (.fa 0 (.t 10))⟩, ⟨none, none, .m (.st 1 (.t 57) (.t 54))⟩])
  (.keep [0, 2, 5, 6, 10]
  (.seq (.reg none [⟨some 58, none, .q (.mv (.t 0))⟩, ⟨some 59, none, .q (.mv (.t 6))⟩, ⟨some 60, none, .q (.sls 1 (.t 58) (some (.c (.i .i64 8))) (some (.t 59)))⟩, ⟨some 61, none, .call (.f 28) [(.t 60)]⟩, ⟨some 62, none, .q (.bld [.np, (.i .i64 0), (.i .i64 0)] [(0, 1, .t 61)])⟩, ⟨some 63, none, .m (.box (.t 62))⟩, ⟨some 11, none, .q (.mv (.t 63))⟩])
  (.keep [2, 5, 10, 11]
  (.seq (.reg none [⟨some 64, none, .q (.mv (.t 11))⟩, ⟨some 65, none, .call (.f 29) [(.t 64), (.t 10)]⟩])
  (.keep [2, 5, 10, 11]
  (.seq (.seq (.gst (.frzC 10 8)
      (.reg none [⟨some 66, none, .q (.mv (.t 11))⟩, ⟨some 67, none, .q (.nck (.t 66))⟩, ⟨some 68, none, .q (.fa 1 (.t 67))⟩, ⟨some 69, none, .q (.ld none (.t 68))⟩, ⟨some 70, none, .q (.bin .neq (.t 69) (.c (.i .i64 0)))⟩]))
    (.keep [2, 5, 10, 11, 70]
    (.cond (.t 70) (.seq (.reg (some (9, [2, 3, 4, 6, 7, 8])) [⟨some 71, none, .q (.ld (some 12) (.t 5))⟩, ⟨some 72, none, .q (.mv (.t 11))⟩, ⟨some 73, none, .q (.nck (.t 72))⟩, ⟨some 74, none, .q (.fa 1 (.t 73))⟩, ⟨some 75, none, .q (.ld none (.t 74))⟩, ⟨some 76, none, .q (.mv (.t 11))⟩, ⟨some 77, none, .q (.nck (.t 76))⟩, ⟨some 78, none, .q (.fa 2 (.t 77))⟩, ⟨some 79, none, .q (.ld none (.t 78))⟩, ⟨none, none, .m (.st 12 (.t 2) (.t 71))⟩, ⟨some 3, none, .q (.mv (.t 75))⟩, ⟨some 4, none, .q (.mv (.t 79))⟩])
      .ret)
    .skip)))
  (.seq (.seq (.reg none [⟨some 80, none, .q (.mv (.t 11))⟩, ⟨some 81, none, .q (.nck (.t 80))⟩, ⟨some 82, none, .q (.fa 0 (.t 81))⟩, ⟨some 83, none, .q (.ld none (.t 82))⟩, ⟨some 84, none, .call (.f 30) [(.t 83)]⟩, ⟨some 85, none, .q (.bin .gtr (.t 84) (.c (.i .i64 0)))⟩])
    (.keep [2, 5, 10, 11, 85]
    (.cond (.t 85) (.seq (.gst (.frzP 11 0)
        (.reg (some (7, [])) [⟨some 86, none, .q (.ld (some 12) (.t 5))⟩, ⟨some 87, none, .q (.mv (.t 11))⟩, ⟨some 88, none, .q (.nck (.t 87))⟩, ⟨some 89, none, .q (.fa 0 (.t 88))⟩, ⟨some 90, none, .q (.ld none (.t 89))⟩, ⟨some 91, none, .call (.f 31) [(.t 90)]⟩, ⟨some 92, none, .q (.bin .add (.c (.i .i64 8)) (.t 91))⟩, ⟨none, none, .m (.st 12 (.t 2) (.t 86))⟩, ⟨some 3, none, .q (.mv (.c (.i .i64 13)))⟩, ⟨some 4, none, .q (.mv (.t 92))⟩]))
      .ret)
    .skip)))
  (.seq (.reg none [⟨some 93, none, .q (.ld (some 12) (.t 10))⟩, ⟨none, none, .m (.st 12 (.t 2) (.t 93))⟩, ⟨some 3, none, .q (.mv (.c (.i .i64 0)))⟩, ⟨some 4, none, .q (.mv (.c (.i .i64 0)))⟩])
  .ret)))))))))))))))))))))
theorem r13 : (Try.f13.body.bind (resC Try.prog Try.f13.ntmps)) = some (strip c13) := by kernel_rfl
theorem s13 : Try.f13.results.toList.mapM (resRes Try.prog) = some [.c 2 (some 12), .t 3, .t 4] := by kernel_rfl
theorem clone_p (bs : List UInt8) (hb : bs.length < 1099511627776) : PureS Try.prog 41 [.sl 1 (bs.map brow)] (.sl 1 (bs.map brow)) := by
  refine pure_of ?_
  refine fun_go hmx Try.func41 r41 s41 (by rw [Try.ntmps41]; simp) ?_
  unfold c41
  cases bs with
  | nil =>
    simp
    exact ⟨.nil 1, frz_rows (l := []) rfl⟩
  | cons b bs =>
    simp at hb
    simp
    refine ⟨⟨by omega, by omega⟩, ?_⟩
    exact frz_rows (l := brow b :: bs.map brow) rfl
def orow (bs : List UInt8) (pos : Nat) : List RV := [.v (.sl 1 (bs.map brow)), .v (.i .i64 (pos : Int))]
theorem new_p (bs : List UInt8) (hb : bs.length < 1099511627776) : CallS Try.prog 28 [.v (.sl 1 (bs.map brow))] [] fun r K => r = .pt 0 0 0 0 ∧ K = [.var (orow bs 0)] := by
  refine fun_go hmx Try.func28 r28 s28 (by rw [Try.ntmps28]; simp) ?_
  unfold c28
  simp
  first
    | refine callk rfl Try.call41 (clone_p bs hb) rfl ?_
    | refine callks rfl Try.call41 (clone_p bs hb) rfl ?_
    | refine callq rfl Try.call41 (clone_p bs hb) rfl ?_
  simp [orow]
theorem at_p (bs : List UInt8) (pos : Nat) : CallS Try.prog 31 [.pt 0 0 0 0] [.var (orow bs pos)] fun r K => r = .v (.i .i64 (pos : Int)) ∧ K = [.var (orow bs pos)] := by
  refine fun_go hmx Try.func31 r31 s31 (by rw [Try.ntmps31]; simp) ?_
  unfold c31
  simp [orow]
theorem left_p (bs : List UInt8) (pos : Nat) (hp : pos ≤ bs.length) (hb : bs.length < 1099511627776) : CallS Try.prog 30 [.pt 0 0 0 0] [.var (orow bs pos)] fun r K => r = .v (.i .i64 ((bs.length : Int) - pos)) ∧ K = [.var (orow bs pos)] := by
  refine fun_go hmx Try.func30 r30 s30 (by rw [Try.ntmps30]; simp) ?_
  unfold c30
  have hw : IntKind.i64.wrap ((bs.length : Int) - pos) = (bs.length : Int) - pos := wrap_in (by omega) (by omega)
  simp [orow, hw]
theorem at_i (bs : AV) (pos : Int) : PureS Try.prog 31 [.pim [bs, .i .i64 pos]] (.i .i64 pos) := by
  refine fun_go hmx Try.func31 r31 s31 (by rw [Try.ntmps31]; simp) ?_
  unfold c31
  simp
def uintR (bs : List UInt8) (pos : Nat) (r : RV) (K : List AObj) : Prop :=
  if (getA 0 0 (bs.drop pos)).1 = 0 then r = .v (.tup [.i .u64 ((getA 0 0 (bs.drop pos)).2.1 : Int), .i .i64 0]) ∧ K = [.var (orow bs (pos + (getA 0 0 (bs.drop pos)).2.2))]
  else r = .v (.tup [.i .u64 0, .i .i64 (getA 0 0 (bs.drop pos)).1]) ∧ K = [.var (orow bs pos)]
theorem uint_p (bs : List UInt8) (pos : Nat) (hp : pos ≤ bs.length) (hb : bs.length < 1099511627776) : CallS Try.prog 44 [.pt 0 0 0 0] [.var (orow bs pos)] (uintR bs pos) := by
  refine fun_go hmx Try.func44 r44 s44 (by rw [Try.ntmps44]; simp) ?_
  unfold c44
  simp [orow]
  first
    | refine callk rfl Try.call45 (getO bs pos hb) rfl ?_
    | refine callks rfl Try.call45 (getO bs pos hb) rfl ?_
    | refine callq rfl Try.call45 (getO bs pos hb) rfl ?_
  have hg : getR bs (pos : Int) = told3 (getA 0 0 (bs.drop pos)) pos := by rw [getR, if_neg (by omega)]; simp
  rw [hg]
  rcases hga : getA 0 0 (bs.drop pos) with ⟨e, x, n⟩
  by_cases he0 : e = 0
  · subst he0
    simp [told3, uintR, hga, orow]
  · simp [told3, he0, uintR, hga, orow]
/-- A reader of a witness, and the reader of bytes under it. -/
def wH (bs : List UInt8) (s : St) : List AObj := [.var [.pt 1 0 0 0, .v (.i .i64 s.e), .v (.i .i64 (if s.e = 0 then 0 else 8 + s.bad))], .var (orow bs s.pos)]
theorem number_p (bs : List UInt8) (s : St) (hs : s.pos ≤ bs.length) (hb : bs.length ≤ 65536) (cells : List AV) (off : Nat) (z : Int) (m : Nat × Nat) (hm : m.1 ≤ m.2 ∧ m.2 ≤ 65536) (hz : cells[off]? = some (.i .i64 z)) :
    CallS Try.prog 42 [.pt 0 0 0 0, .pt 2 0 0 off, .v (.i .i64 (m.1 : Int)), .v (.i .i64 (m.2 : Int))] (wH bs s ++ [.var (cells.map .v)]) fun r K => ∃ y s', K = wH bs s' ++ [.var ((cells.set off (.i .i64 y)).map .v)] ∧ Step bs (wiP m) s y s' ∧ (s'.e ≠ 0 → y = z) := by
  have hoff := (List.getElem?_eq_some_iff.1 hz).1
  have hset : cells.set off (.i .i64 z) = cells := set_self hz
  refine fun_cut 3 hmx Try.func42 r42 s42 (by rw [Try.ntmps42]; simp) (by first | exact Nat.le_refl _ | decide | simp) ?_
  unfold c42
  have hcell : (List.map RV.v cells).set off (.v (.i .i64 z)) = List.map RV.v cells := by rw [← List.map_set, hset]
  have hdom : ∀ y, domL (fun x => x < 3) ((List.map RV.v cells).set off (.v (.i .i64 y))) := fun y => by rw [← List.map_set]; simp [-List.map_set]
  simp [wH, orow]
  refine ⟨fun he => ⟨z, s, ⟨⟨rfl, rfl⟩, rfl, hcell.symm⟩, .stay hs he z, fun _ => rfl⟩, fun he => ?_⟩
  refine callf [1] rfl Try.call31 (at_p bs s.pos) (by decide) rfl (by simp) (by simp [orow]) (by simp) ?_
  rintro _ _ ⟨rfl, rfl⟩
  simp [orow]
  refine callf [1] rfl Try.call44 (uint_p bs s.pos hs (by omega)) (by decide) rfl (by simp) (by simp [orow]) (by simp) ?_
  intro r K hr
  unfold uintR at hr
  have hw2 : IntKind.u64.wrap (m.2 : Int) = (m.2 : Int) := wrap_u64_lt (by omega)
  have hw8 : IntKind.i64.wrap (8 + (s.pos : Int)) = 8 + (s.pos : Int) := wrap_in (by omega) (by omega)
  rcases hga : getA 0 0 (bs.drop s.pos) with ⟨e, x, n⟩
  rw [hga] at hr
  simp only at hr
  by_cases he0 : e = 0
  · subst he0
    have hx := getA_lt' hga
    have hu := drop_used hga hs
    rw [if_pos rfl] at hr
    obtain ⟨rfl, rfl⟩ := hr
    by_cases hbad : m.2 < x ∨ x < m.1
    · have hor : (m.2 : Int) < (x : Int) ∨ IntKind.i64.wrap (x : Int) < (m.1 : Int) := by
        rcases hbad with h | h
        · exact .inl (by omega)
        · rw [wrap_in (by omega) (by omega)]; exact .inr (by omega)
      simp [orow, hw2, hw8, hor]
      refine ⟨fun _ => ⟨z, ⟨s.pos + n, 1, s.pos⟩, ⟨⟨rfl, by simp⟩, by simp, hcell.symm⟩, ⟨hu, fun h => absurd he h, fun _ => ?_⟩, fun _ => rfl⟩, fun a b => by rcases hor with h | h <;> omega⟩
      simp only [wiP, hga]
      rw [if_neg (by simp), if_pos hbad]
      exact ⟨rfl, by decide, by simp⟩
    · have hwx : IntKind.i64.wrap (x : Int) = (x : Int) := wrap_in (by omega) (by omega)
      have hn1 : ¬ (m.2 : Int) < (x : Int) := by omega
      have hn2 : ¬ (x : Int) < (m.1 : Int) := by omega
      have hn3 : (x : Int) ≤ (m.2 : Int) := by omega
      have hn4 : (m.1 : Int) ≤ (x : Int) := by omega
      simp [orow, hw2, hw8, hwx, hn1, hn2, hn3, hn4]
      refine ⟨by omega, hdom _, x, ⟨s.pos + n, s.e, s.bad⟩, ⟨⟨rfl, rfl⟩, by simp, rfl⟩, ⟨hu, fun h => absurd he h, fun _ => ?_⟩, fun h => absurd he h⟩
      simp only [wiP, hga]
      rw [if_neg (by simp), if_neg hbad]
      exact ⟨rfl, he, rfl, trivial⟩
  · rw [if_neg he0] at hr
    obtain ⟨rfl, rfl⟩ := hr
    simp [orow, hw2, hw8, he0]
    refine ⟨z, ⟨s.pos, e, s.pos⟩, ⟨⟨rfl, by simp [he0]⟩, rfl, hcell.symm⟩, ⟨hs, fun h => absurd he h, fun _ => ?_⟩, fun _ => rfl⟩
    simp only [wiP, hga]
    rw [if_pos he0]
    exact ⟨rfl, he0, by simp⟩
theorem step_range {bs : List UInt8} {m : Nat × Nat} {s s' : St} {y : Int} (h : Step bs (wiP m) s y s') (hz : s'.e ≠ 0 → y = 0) : 0 ≤ y ∧ y ≤ m.2 := by
  by_cases he : s'.e = 0
  · have h0 : s.e = 0 := Classical.byContradiction fun hh => hh (((h.2.1 hh).1).symm.trans he)
    have h3 := h.2.2 h0
    split at h3
    · rename_i x n hx
      obtain ⟨z, rfl, _, hz2, _⟩ := wi_ok hx
      obtain ⟨rfl, _⟩ := h3
      omega
    · exact absurd (h3.1 ▸ he) h3.2.1
  · rw [hz he]; omega
def witR (w : Wit) : List RV := w.row.map .v
/-- What the fields of a witness are once they are read. -/
def fieldsR (bs : List UInt8) (s0 : St) (sum : Nat) (r : RV) (K : List AObj) : Prop := ∃ ys zs s v, K = wH bs s ++ [.var ((List.map RV.v (witOf sum ys []).row).set 8 (.os 3 v)), .arr v 2 (vrows ((picksOf zs).map Pick.row))] ∧ Step bs fieldsP s0 (ys, zs) s
theorem fields_p (bs : List UInt8) (s0 : St) (hs0 : s0.pos ≤ bs.length) (hb : bs.length ≤ 65536) (sum : Nat) : CallS Try.prog 29 [.pt 0 0 0 0, .pt 2 0 0 0] (wH bs s0 ++ [.var ((List.map RV.v (witOf sum [] []).row).set 8 (.v .nil))]) (fieldsR bs s0 sum) := by
  refine fun_sel [0, 1, 2, 4] hmx Try.func29 r29 s29 (by rw [Try.ntmps29]; simp) (by decide) (fun o ho => by
    have ho : o < 3 := by simpa [wH] using ho
    match o, ho with
    | 0, _ => rfl
    | 1, _ => rfl
    | 2, _ => rfl) ?_
  unfold c29
  simp [wH, orow, witOf, Wit.row, picksOf]
  refine callf [0, 1, 2] rfl Try.call42 (number_p bs s0 hs0 hb [.i .u32 sum, .i .i64 0, .i .i64 0, .i .i64 0, .i .i64 0, .i .i64 0, .i .i64 0, .i .i64 0, .nil, .i .i64 0, .i .i64 0, .i .i64 0] 1 0 (1, 5) (by decide) rfl) (by decide) rfl (by simp) (by simp [wH, orow]) (by simp) ?_
  rintro _ _ ⟨y0, s1, rfl, h0, -⟩
  simp [wH, orow]
  refine go_unroll hmx 5 ?_
  rw [goU_succ]
  simp
  refine callf [0, 1, 2] rfl Try.call42 (number_p bs s1 h0.1 hb [.i .u32 sum, .i .i64 y0, .i .i64 0, .i .i64 0, .i .i64 0, .i .i64 0, .i .i64 0, .i .i64 0, .nil, .i .i64 0, .i .i64 0, .i .i64 0] 2 0 (0, 64) (by decide) rfl) (by decide) rfl (by simp) (by simp [wH, orow]) (by simp) ?_
  rintro _ _ ⟨y1, s2, rfl, h1, -⟩
  simp [wH, orow]
  rw [goU_succ]
  simp
  refine callf [0, 1, 2] rfl Try.call42 (number_p bs s2 h1.1 hb [.i .u32 sum, .i .i64 y0, .i .i64 y1, .i .i64 0, .i .i64 0, .i .i64 0, .i .i64 0, .i .i64 0, .nil, .i .i64 0, .i .i64 0, .i .i64 0] 3 0 (0, 64) (by decide) rfl) (by decide) rfl (by simp) (by simp [wH, orow]) (by simp) ?_
  rintro _ _ ⟨y2, s3, rfl, h2, -⟩
  simp [wH, orow]
  rw [goU_succ]
  simp
  refine callf [0, 1, 2] rfl Try.call42 (number_p bs s3 h2.1 hb [.i .u32 sum, .i .i64 y0, .i .i64 y1, .i .i64 y2, .i .i64 0, .i .i64 0, .i .i64 0, .i .i64 0, .nil, .i .i64 0, .i .i64 0, .i .i64 0] 4 0 (0, 64) (by decide) rfl) (by decide) rfl (by simp) (by simp [wH, orow]) (by simp) ?_
  rintro _ _ ⟨y3, s4, rfl, h3, -⟩
  simp [wH, orow]
  rw [goU_succ]
  simp
  refine callf [0, 1, 2] rfl Try.call42 (number_p bs s4 h3.1 hb [.i .u32 sum, .i .i64 y0, .i .i64 y1, .i .i64 y2, .i .i64 y3, .i .i64 0, .i .i64 0, .i .i64 0, .nil, .i .i64 0, .i .i64 0, .i .i64 0] 5 0 (0, 64) (by decide) rfl) (by decide) rfl (by simp) (by simp [wH, orow]) (by simp) ?_
  rintro _ _ ⟨y4, s5, rfl, h4, -⟩
  simp [wH, orow]
  rw [goU_succ]
  simp
  refine callf [0, 1, 2] rfl Try.call42 (number_p bs s5 h4.1 hb [.i .u32 sum, .i .i64 y0, .i .i64 y1, .i .i64 y2, .i .i64 y3, .i .i64 y4, .i .i64 0, .i .i64 0, .nil, .i .i64 0, .i .i64 0, .i .i64 0] 6 0 (0, 255) (by decide) rfl) (by decide) rfl (by simp) (by simp [wH, orow]) (by simp) ?_
  rintro _ _ ⟨y5, s6, rfl, h5, -⟩
  simp [wH, orow]
  refine callf [0, 1, 2] rfl Try.call42 (number_p bs s6 h5.1 hb [.i .u32 sum, .i .i64 y0, .i .i64 y1, .i .i64 y2, .i .i64 y3, .i .i64 y4, .i .i64 y5, .i .i64 0, .nil, .i .i64 0, .i .i64 0, .i .i64 0] 7 0 (0, 255) (by decide) rfl) (by decide) rfl (by simp) (by simp [wH, orow]) (by simp) ?_
  rintro _ _ ⟨y6, s7, rfl, h6, -⟩
  simp [wH, orow]
  refine callf [0, 1, 2] rfl Try.call42 (number_p bs s7 h6.1 hb [.i .u32 sum, .i .i64 y0, .i .i64 y1, .i .i64 y2, .i .i64 y3, .i .i64 y4, .i .i64 y5, .i .i64 y6, .nil, .i .i64 0, .i .i64 0, .i .i64 0] 9 0 (0, 256) (by decide) rfl) (by decide) rfl (by simp) (by simp [wH, orow]) (by simp) ?_
  rintro _ _ ⟨y7, s8, rfl, h7, -⟩
  simp [wH, orow]
  refine callf [0, 1, 2] rfl Try.call42 (number_p bs s8 h7.1 hb [.i .u32 sum, .i .i64 y0, .i .i64 y1, .i .i64 y2, .i .i64 y3, .i .i64 y4, .i .i64 y5, .i .i64 y6, .nil, .i .i64 y7, .i .i64 0, .i .i64 0] 10 0 (0, 4096) (by decide) rfl) (by decide) rfl (by simp) (by simp [wH, orow]) (by simp) ?_
  rintro _ _ ⟨y8, s9, rfl, h8, -⟩
  simp [wH, orow]
  refine callf [0, 1, 2] rfl Try.call42 (number_p bs s9 h8.1 hb [.i .u32 sum, .i .i64 y0, .i .i64 y1, .i .i64 y2, .i .i64 y3, .i .i64 y4, .i .i64 y5, .i .i64 y6, .nil, .i .i64 y7, .i .i64 y8, .i .i64 0] 11 0 (0, 65536) (by decide) rfl) (by decide) rfl (by simp) (by simp [wH, orow]) (by simp) ?_
  rintro _ _ ⟨y9, s10, rfl, h9, -⟩
  simp [wH, orow]
  refine callf [0, 1, 3] rfl Try.call42 (number_p bs s10 h9.1 hb [.i .i64 0] 0 0 (0, 256) (by decide) rfl) (by decide) rfl (by simp) (by simp [wH, orow]) (by simp) ?_
  rintro _ _ ⟨y10, s11, rfl, h10, hj10⟩
  simp [wH, orow]
  obtain ⟨hy0, hy1⟩ := step_range h10 hj10
  simp only at hy1
  obtain ⟨n, rfl⟩ := Int.eq_ofNat_of_zero_le hy0
  have hseq : Step bs (seqP bnds) s0 [y0, y1, y2, y3, y4, y5, y6, y7, y8, y9, (n : Int)] s11 := step_snoc (step_snoc (step_snoc (step_snoc (step_snoc (step_snoc (step_snoc (step_snoc (step_snoc (step_snoc (step_snoc (ms := []) (Step.ret hs0 []) h0) h1) h2) h3) h4) h5) h6) h7) h8) h9) h10
  refine go_each hmx 5 76 (List.replicate n ()) (fun (_ : St × Nat × List Pick) => []) (fun b => wH bs b.1 ++ [.var ((List.map RV.v [.i .u32 sum, .i .i64 y0, .i .i64 y1, .i .i64 y2, .i .i64 y3, .i .i64 y4, .i .i64 y5, .i .i64 y6, .nil, .i .i64 y7, .i .i64 y8, .i .i64 y9]).set 8 (.os 4 b.2.1)), .var [.v (.i .i64 (n : Int))], .arr b.2.1 2 (vrows (b.2.2.map Pick.row))]) (fun i b _ => Step bs (seqP (pairs i)) s11 (picksI b.2.2) b.1 ∧ b.2.2.length = i) (s11, 0, []) (by simp; omega) rfl rfl (by simp [wH, orow, vrows]) (by simp) (by simp) (by simp [wH, orow]) ⟨Step.ret h10.1 _, rfl⟩ ?_ ?_
  · rintro i _ rest ⟨s, v, ps⟩ hi _ _ ⟨hst, hpl⟩ hwr
    simp at hi
    simp only at hst hpl
    have hi' : (i : Int) < (n : Int) := by omega
    simp [hi, wH, orow]
    refine callf [0, 1, 5] rfl Try.call42 (number_p bs s hst.1 hb [.i .i64 0, .i .i64 0] 0 0 (0, 5) (by decide) rfl) (by decide) rfl (by simp) (by simp [wH, orow]) (by simp) ?_
    rintro _ _ ⟨ya, sa, rfl, ha, -⟩
    simp [wH, orow]
    refine callf [0, 1, 5] rfl Try.call42 (number_p bs sa ha.1 hb [.i .i64 ya, .i .i64 0] 1 0 (0, 4) (by decide) rfl) (by decide) rfl (by simp) (by simp [wH, orow]) (by simp) ?_
    rintro _ _ ⟨yb, sb, rfl, hbb, -⟩
    simp [wH, orow, hwr]
    refine ⟨⟨by omega, by omega⟩, sb, v + 1, ps ++ [⟨ya, yb⟩], ⟨⟨rfl, rfl⟩, rfl, rfl, by simp [vrows, Pick.row]⟩, ?_, by simp [hpl]⟩
    have := step_snoc (step_snoc hst ha) hbb
    rw [← pairs_succ] at this
    have e : picksI (ps ++ [⟨ya, yb⟩]) = picksI ps ++ [ya] ++ [yb] := by
      clear this hst hpl
      induction ps with
      | nil => rfl
      | cons p ps ih => simp [picksI, ih]
    rw [e]; exact this
  · rintro ⟨s, v, ps⟩ ⟨hst, hpl⟩
    simp only [List.length_replicate] at hst hpl
    simp [wH, orow]
    refine ⟨[y0, y1, y2, y3, y4, y5, y6, y7, y8, y9, (n : Int)], picksI ps, s, v, ?_, ?_⟩
    · simp [wH, orow, witOf, Wit.row, picksOf_I]
      exact ⟨by decide, by decide⟩
    · refine hseq.bind ?_
      simp only [List.getD_cons_succ, List.getD_cons_zero, Int.toNat_natCast]
      exact hst.map (f := fun zs => ([y0, y1, y2, y3, y4, y5, y6, y7, y8, y9, (n : Int)], zs))
end Go.Sc.Wi
