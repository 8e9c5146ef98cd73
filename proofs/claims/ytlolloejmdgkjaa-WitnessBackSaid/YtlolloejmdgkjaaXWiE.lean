/- Chapter 27: Read, by the document's text. No condition. -/
import Derived.Test.YtlolloejmdgkjaaXWiD
set_option linter.constructorNameAsVariable false
namespace Go.Sc.Wi
open Go Go.RowKit Go.Av Go.Proofs Go.Sc.Oct Go.Sc Go.Sc.Cw
set_option linter.unusedSimpArgs false
set_option linter.unusedVariables false
/-- scarab/scarabref01.GetFixed -/
def c32 : ACode :=
  (.seq (.reg none [⟨some 4, none, .q (.mv (.c (.i .u32 0)))⟩, ⟨some 5, none, .q (.mv (.c (.i .i64 0)))⟩, ⟨some 6, none, .q (.mv (.c (.i .i64 0)))⟩])
  (.keep [0, 1]
  (.seq (.seq (.reg none [⟨some 9, none, .q (.mv (.t 1))⟩, ⟨some 10, none, .q (.bin .lss (.t 9) (.c (.i .i64 0)))⟩, ⟨some 11, none, .q (.mv (.t 10))⟩, ⟨some 12, some (11, false), .q (.mv (.t 1))⟩, ⟨some 13, some (11, false), .q (.mv (.t 0))⟩, ⟨some 14, some (11, false), .q (.len false (.t 13))⟩, ⟨some 15, some (11, false), .q (.bin .gtr (.t 12) (.t 14))⟩, ⟨some 16, none, .pk (.t 11) (.c (.b true)) (.t 15)⟩])
    (.keep [0, 1, 16]
    (.cond (.t 16) (.seq (.reg none [⟨some 4, none, .q (.mv (.c (.i .u32 0)))⟩, ⟨some 5, none, .q (.mv (.c (.i .i64 0)))⟩, ⟨some 6, none, .q (.mv (.c (.i .i64 1)))⟩])
      .ret)
    .skip)))
  (.seq (.seq (.reg none [⟨some 17, none, .q (.mv (.t 0))⟩, ⟨some 18, none, .q (.len false (.t 17))⟩, ⟨some 19, none, .q (.mv (.t 1))⟩, ⟨some 20, none, .q (.bin .sub (.t 18) (.t 19))⟩, ⟨some 21, none, .q (.bin .lss (.t 20) (.c (.i .i64 4)))⟩])
    (.keep [0, 1, 21]
    (.cond (.t 21) (.seq (.reg none [⟨some 4, none, .q (.mv (.c (.i .u32 0)))⟩, ⟨some 5, none, .q (.mv (.c (.i .i64 0)))⟩, ⟨some 6, none, .q (.mv (.c (.i .i64 10)))⟩])
      .ret)
    .skip)))
  (.seq (.reg none [⟨some 7, none, .q (.mv (.c (.i .u32 0)))⟩])
  (.keep [0, 1, 7]
  (.seq (.seq (.reg none [⟨some 8, none, .q (.mv (.c (.i .i64 0)))⟩])
    (.keep [0, 1, 7, 8]
    (.blk 0 (.keep [0, 1, 7, 8]
    (.loop (.fin [0, 1, 7, 8]
      (.seq (.seq (.reg none [⟨some 22, none, .q (.mv (.t 8))⟩, ⟨some 23, none, .q (.bin .lss (.t 22) (.c (.i .i64 4)))⟩])
        (.keep [0, 1, 7, 8, 23]
        (.cond (.t 23) .skip
        (.exit 0))))
      (.seq (.blk 1 (.reg none [⟨some 26, none, .q (.mv (.t 7))⟩, ⟨some 27, none, .q (.bin .mul (.t 26) (.c (.i .u32 256)))⟩, ⟨some 28, none, .q (.mv (.t 0))⟩, ⟨some 29, none, .q (.mv (.t 1))⟩, ⟨some 30, none, .q (.mv (.t 8))⟩, ⟨some 31, none, .q (.bin .add (.t 29) (.t 30))⟩, ⟨some 32, none, .q (.ias 1 (.t 28) (.t 31))⟩, ⟨some 33, none, .q (.ld none (.t 32))⟩, ⟨some 34, none, .q (.cvi .u32 (.t 33))⟩, ⟨some 35, none, .q (.bin .add (.t 27) (.t 34))⟩, ⟨some 7, none, .q (.mv (.t 35))⟩]))
      (.keep [0, 1, 7, 8]
      (.reg none [⟨some 24, none, .q (.mv (.t 8))⟩, ⟨some 25, none, .q (.bin .add (.t 24) (.c (.i .i64 1)))⟩, ⟨some 8, none, .q (.mv (.t 25))⟩]))))))))))
  (.seq (.reg none [⟨some 36, none, .q (.mv (.t 7))⟩, ⟨some 37, none, .q (.mv (.t 1))⟩, ⟨some 38, none, .q (.bin .add (.t 37) (.c (.i .i64 4)))⟩, ⟨some 4, none, .q (.mv (.t 36))⟩, ⟨some 5, none, .q (.mv (.t 38))⟩, ⟨some 6, none, .q (.mv (.c (.i .i64 0)))⟩])
  .ret))))))))
theorem r32 : (Try.f32.body.bind (resC Try.prog Try.f32.ntmps)) = some (strip c32) := by kernel_rfl
theorem s32 : Try.f32.results.toList.mapM (resRes Try.prog) = some [.t 4, .t 5, .t 6] := by kernel_rfl
/-- (*scarab/scarabref01.Reader).Uint -/
def c34 : ACode :=
  (.seq (.reg none [⟨some 2, none, .q (.mv (.c (.i .u64 0)))⟩, ⟨some 3, none, .q (.mv (.c (.i .i64 0)))⟩])
  (.keep [0]
  (.seq (.reg (some (16, [])) [⟨some 8, none, .q (.mv (.t 0))⟩, ⟨some 9, none, .q (.nck (.t 8))⟩, ⟨some 10, none, .q (.fa 0 (.t 9))⟩, ⟨some 11, none, .q (.ld none (.t 10))⟩, ⟨some 12, none, .q (.mv (.t 0))⟩, ⟨some 13, none, .q (.nck (.t 12))⟩, ⟨some 14, none, .q (.fa 1 (.t 13))⟩, ⟨some 15, none, .q (.ld none (.t 14))⟩, ⟨some 16, none, .call (.f 43) [(.t 11), (.t 15)]⟩, ⟨some 7, none, .q (.mv (.t 16))⟩, ⟨some 17, none, .q (.ext 0 (.t 7))⟩, ⟨some 18, none, .q (.ext 1 (.t 7))⟩, ⟨some 19, none, .q (.ext 2 (.t 7))⟩, ⟨some 4, none, .q (.mv (.t 17))⟩, ⟨some 5, none, .q (.mv (.t 18))⟩, ⟨some 6, none, .q (.mv (.t 19))⟩])
  (.keep [0, 4, 5, 6]
  (.seq (.seq (.reg none [⟨some 20, none, .q (.mv (.t 6))⟩, ⟨some 21, none, .q (.bin .eql (.t 20) (.c (.i .i64 0)))⟩])
    (.keep [0, 4, 5, 6, 21]
    (.cond (.t 21) (.reg none [⟨some 22, none, .q (.mv (.t 0))⟩, ⟨some 23, none, .q (.mv (.t 5))⟩, ⟨some 24, none, .q (.nck (.t 22))⟩, ⟨some 25, none, .q (.fa 1 (.t 24))⟩, ⟨none, none, .m (.st 1 (.t 25) (.t 23))⟩])
    .skip)))
  (.seq (.reg none [⟨some 26, none, .q (.mv (.t 4))⟩, ⟨some 27, none, .q (.mv (.t 6))⟩, ⟨some 2, none, .q (.mv (.t 26))⟩, ⟨some 3, none, .q (.mv (.t 27))⟩])
  .ret))))))
theorem r34 : (Try.f34.body.bind (resC Try.prog Try.f34.ntmps)) = some (strip c34) := by kernel_rfl
theorem s34 : Try.f34.results.toList.mapM (resRes Try.prog) = some [.t 2, .t 3] := by kernel_rfl
/-- (*scarab/scarabref01.Reader).End -/
def c35 : ACode :=
  (.seq (.reg none [⟨some 2, none, .q (.mv (.c (.i .i64 0)))⟩])
  (.keep [0]
  (.seq (.seq (.reg (some (10, [])) [⟨some 3, none, .q (.mv (.t 0))⟩, ⟨some 4, none, .q (.nck (.t 3))⟩, ⟨some 5, none, .q (.fa 1 (.t 4))⟩, ⟨some 6, none, .q (.ld none (.t 5))⟩, ⟨some 7, none, .q (.mv (.t 0))⟩, ⟨some 8, none, .q (.nck (.t 7))⟩, ⟨some 9, none, .q (.fa 0 (.t 8))⟩, ⟨some 10, none, .q (.ld none (.t 9))⟩, ⟨some 11, none, .q (.len false (.t 10))⟩, ⟨some 12, none, .q (.bin .lss (.t 6) (.t 11))⟩])
    (.keep [12]
    (.cond (.t 12) (.seq (.reg none [⟨some 2, none, .q (.mv (.c (.i .i64 13)))⟩])
      .ret)
    .skip)))
  (.seq (.reg none [⟨some 2, none, .q (.mv (.c (.i .i64 0)))⟩])
  .ret))))
theorem r35 : (Try.f35.body.bind (resC Try.prog Try.f35.ntmps)) = some (strip c35) := by kernel_rfl
theorem s35 : Try.f35.results.toList.mapM (resRes Try.prog) = some [.t 2] := by kernel_rfl
/-- scarab/scarabref27.Read -/
def c14 : ACode :=
  (.seq (.reg none [⟨some 2, none, .m (.alloc (.g [(.i .u32 0), (.i .i64 0), (.i .i64 0), (.i .i64 0), (.i .i64 0), (.i .i64 0), (.i .i64 0), (.i .i64 0), .nil, (.i .i64 0), (.i .i64 0), (.i .i64 0)]))⟩, ⟨some 3, none, .q (.mv (.c (.i .i64 0)))⟩, ⟨some 4, none, .q (.mv (.c (.i .i64 0)))⟩])
  (.keep [0, 2]
  (.seq (.seq (.reg none [⟨some 20, none, .q (.mv (.t 0))⟩, ⟨some 21, none, .q (.len false (.t 20))⟩, ⟨some 22, none, .q (.bin .gtr (.t 21) (.c (.i .i64 65536)))⟩])
    (.keep [0, 2, 22]
    (.cond (.t 22) (.seq (.reg none [⟨some 23, none, .q (.bld [(.i .u32 0), (.i .i64 0), (.i .i64 0), (.i .i64 0), (.i .i64 0), (.i .i64 0), (.i .i64 0), (.i .i64 0), .nil, (.i .i64 0), (.i .i64 0), (.i .i64 0)] [])⟩, ⟨none, none, .m (.st 12 (.t 2) (.t 23))⟩, ⟨some 3, none, .q (.mv (.c (.i .i64 2)))⟩, ⟨some 4, none, .q (.mv (.c (.i .i64 0)))⟩])
      .ret)
    .skip)))
  (.seq (.seq (.reg none [⟨some 24, none, .q (.mv (.t 0))⟩, ⟨some 25, none, .q (.len false (.t 24))⟩, ⟨some 26, none, .q (.bin .lss (.t 25) (.c (.i .i64 4)))⟩, ⟨some 27, none, .q (.mv (.t 26))⟩, ⟨some 28, some (27, false), .q (.mv (.t 0))⟩, ⟨some 29, some (27, false), .q (.ias 1 (.t 28) (.c (.i .i64 0)))⟩, ⟨some 30, some (27, false), .q (.ld none (.t 29))⟩, ⟨some 31, some (27, false), .q (.bin .neq (.t 30) (.c (.i .u8 115)))⟩, ⟨some 32, none, .pk (.t 27) (.c (.b true)) (.t 31)⟩, ⟨some 33, none, .q (.mv (.t 32))⟩, ⟨some 34, some (33, false), .q (.mv (.t 0))⟩, ⟨some 35, some (33, false), .q (.ias 1 (.t 34) (.c (.i .i64 1)))⟩, ⟨some 36, some (33, false), .q (.ld none (.t 35))⟩, ⟨some 37, some (33, false), .q (.bin .neq (.t 36) (.c (.i .u8 99)))⟩, ⟨some 38, none, .pk (.t 33) (.c (.b true)) (.t 37)⟩, ⟨some 39, none, .q (.mv (.t 38))⟩, ⟨some 40, some (39, false), .q (.mv (.t 0))⟩, ⟨some 41, some (39, false), .q (.ias 1 (.t 40) (.c (.i .i64 2)))⟩, ⟨some 42, some (39, false), .q (.ld none (.t 41))⟩, ⟨some 43, some (39, false), .q (.bin .neq (.t 42) (.c (.i .u8 97)))⟩, ⟨some 44, none, .pk (.t 39) (.c (.b true)) (.t 43)⟩, ⟨some 45, none, .q (.mv (.t 44))⟩, ⟨some 46, some (45, false), .q (.mv (.t 0))⟩, ⟨some 47, some (45, false), .q (.ias 1 (.t 46) (.c (.i .i64 3)))⟩, ⟨some 48, some (45, false), .q (.ld none (.t 47))⟩, ⟨some 49, some (45, false), .q (.bin .neq (.t 48) (.c (.i .u8 119)))⟩, ⟨some 50, none, .pk (.t 45) (.c (.b true)) (.t 49)⟩])
    (.keep [0, 2, 50]
    (.cond (.t 50) (.seq (.reg none [⟨some 51, none, .q (.bld [(.i .u32 0), (.i .i64 0), (.i .i64 0), (.i .i64 0), (.i .i64 0), (.i .i64 0), (.i .i64 0), (.i .i64 0), .nil, (.i .i64 0), (.i .i64 0), (.i .i64 0)] [])⟩, ⟨none, none, .m (.st 12 (.t 2) (.t 51))⟩, ⟨some 3, none, .q (.mv (.c (.i .i64 40)))⟩, ⟨some 4, none, .q (.mv (.c (.i .i64 0)))⟩])
      .ret)
    .skip)))
  (.seq (.seq (.reg none [⟨some 52, none, .q (.mv (.t 0))⟩, ⟨some 53, none, .q (.len false (.t 52))⟩, ⟨some 54, none, .q (.bin .lss (.t 53) (.c (.i .i64 12)))⟩])
    (.keep [0, 2, 54]
    (.cond (.t 54) (.seq (.reg none [⟨some 55, none, .q (.bld [(.i .u32 0), (.i .i64 0), (.i .i64 0), (.i .i64 0), (.i .i64 0), (.i .i64 0), (.i .i64 0), (.i .i64 0), .nil, (.i .i64 0), (.i .i64 0), (.i .i64 0)] [])⟩, ⟨some 56, none, .q (.mv (.t 0))⟩, ⟨some 57, none, .q (.len false (.t 56))⟩, ⟨none, none, .m (.st 12 (.t 2) (.t 55))⟩, ⟨some 3, none, .q (.mv (.c (.i .i64 10)))⟩, ⟨some 4, none, .q (.mv (.t 57))⟩])
      .ret)
    .skip)))
  (.seq (.reg none [⟨some 59, none, .q (.mv (.t 0))⟩, ⟨some 60, none, .q (.mv (.t 0))⟩, ⟨some 61, none, .q (.len false (.t 60))⟩, ⟨some 62, none, .q (.bin .sub (.t 61) (.c (.i .i64 4)))⟩, ⟨some 63, none, .call (.f 32) [(.t 59), (.t 62)]⟩, ⟨some 58, none, .q (.mv (.t 63))⟩, ⟨some 64, none, .q (.ext 0 (.t 58))⟩, ⟨some 65, none, .q (.ext 1 (.t 58))⟩, ⟨some 66, none, .q (.ext 2 (.t 58))⟩, ⟨some 5, none, .q (.mv (.t 64))⟩, ⟨some 6, none, .q (.mv (.t 65))⟩, ⟨some 7, none, .q (.mv (.t 66))⟩])
  (.keep [0, 2, 5]
  (.seq (.seq (.reg none [⟨some 67, none, .q (.mv (.t 5))⟩, ⟨some 68, none, .q (.mv (.t 0))⟩, ⟨some 69, none, .q (.mv (.t 0))⟩, ⟨some 70, none, .q (.len false (.t 69))⟩, ⟨some 71, none, .q (.bin .sub (.t 70) (.c (.i .i64 4)))⟩, ⟨some 72, none, .q (.sls 1 (.t 68) none (some (.t 71)))⟩, ⟨some 73, none, .call (.f 26) [(.t 72)]⟩, ⟨some 74, none, .q (.bin .neq (.t 67) (.t 73))⟩])
    (.keep [0, 2, 74]
    (.cond (.t 74) (.seq (.reg none [⟨some 75, none, .q (.bld [(.i .u32 0), (.i .i64 0), (.i .i64 0), (.i .i64 0), (.i .i64 0), (.i .i64 0), (.i .i64 0), (.i .i64 0), .nil, (.i .i64 0), (.i .i64 0), (.i .i64 0)] [])⟩, ⟨some 76, none, .q (.mv (.t 0))⟩, ⟨some 77, none, .q (.len false (.t 76))⟩, ⟨some 78, none, .q (.bin .sub (.t 77) (.c (.i .i64 4)))⟩, ⟨none, none, .m (.st 12 (.t 2) (.t 75))⟩, ⟨some 3, none, .q (.mv (.c (.i .i64 41)))⟩, ⟨some 4, none, .q (.mv (.t 78))⟩])
      .ret)
    .skip)))
  (.seq (.reg none [⟨some 8, none, .m (.alloc (.g [(.i .u32 0), (.i .i64 0), (.i .i64 0), (.i .i64 0), (.i .i64 0), (.i .i64 0), (.i .i64 0), (.i .i64 0), .nil, (.i .i64 0), (.i .i64 0), (.i .i64 0)]))⟩])
  (.keep [0, 2, 8]
  (.seq (.reg none [⟨some 80, none, .q (.mv (.t 0))⟩, ⟨some 81, none, .call (.f 32) [(.t 80), (.c (.i .i64 4))]⟩, ⟨some 79, none, .q (.mv (.t 81))⟩, ⟨some 82, none, .q (.ext 0 (.t 79))⟩, ⟨some 83, none, .q (.ext 1 (.t 79))⟩, ⟨some 84, none, .q (.ext 2 (.t 79))⟩, ⟨some 85, none, .q (.fa 0 (.t 8))⟩, ⟨none, none, .m (.st 1 (.t 85) (.t 82))⟩])
  (.keep [0, 2, 8]
  (.seq (.reg none [⟨some 86, none, .q (.mv (.t 0))⟩, ⟨some 87, none, .q (.mv (.t 0))⟩, ⟨some 88, none, .q (.len false (.t 87))⟩, ⟨some 89, none, .q (.bin .sub (.t 88) (.c (.i .i64 4)))⟩, ⟨some 90, none, .q (.sls 1 (.t 86) none (some (.t 89)))⟩, ⟨some 91, none, .q (.bld [.nil, (.i .i64 0)] [(0, 1, .t 90), (1, 1, .c (.i .i64 8))])⟩, ⟨some 92, none, .m (.box (.t 91))⟩, ⟨some 9, none, .q (.mv (.t 92))⟩])
  (.keep [2, 8, 9]
  (.seq (.reg none [⟨some 10, none, .m (.alloc (.g [(.i .i64 0), (.i .i64 0), (.i .i64 0), (.i .i64 0), (.i .i64 0), (.i .i64 0), (.i .i64 0), (.i .i64 0), (.i .i64 0), (.i .i64 0), (.i .i64 0)]))⟩])
  (.keep [2, 8, 9, 10]
  (.seq (.seq (.reg none [⟨some 93, none, .call (.f 33) []⟩, ⟨some 94, none, .q (.len false (.t 93))⟩, ⟨some 95, none, .q (.mv (.c (.i .i64 0)))⟩])
    (.keep [2, 8, 9, 10, 93, 94, 95]
    (.blk 0 (.keep [2, 8, 9, 10, 93, 94, 95]
    (.loop (.fin [2, 8, 9, 10, 93, 94, 95]
      (.seq (.reg none [⟨some 96, none, .q (.bin .lss (.t 95) (.t 94))⟩])
      (.keep [2, 8, 9, 10, 93, 94, 95, 96]
      (.seq (.cond (.t 96) .skip
        (.exit 0))
      (.seq (.blk 1 (.seq (.reg none [⟨some 97, none, .q (.mv (.t 95))⟩, ⟨some 98, none, .q (.ias 1 (.t 93) (.t 95))⟩, ⟨some 99, none, .q (.ld none (.t 98))⟩, ⟨some 11, none, .q (.mv (.t 97))⟩, ⟨some 12, none, .q (.mv (.t 99))⟩])
        (.keep [2, 8, 9, 10, 11, 12, 93, 94, 95]
        (.seq (.reg none [⟨some 100, none, .q (.mv (.t 9))⟩, ⟨some 101, none, .q (.nck (.t 100))⟩, ⟨some 102, none, .q (.fa 1 (.t 101))⟩, ⟨some 103, none, .q (.ld none (.t 102))⟩, ⟨some 13, none, .q (.mv (.t 103))⟩])
        (.keep [2, 8, 9, 10, 11, 12, 13, 93, 94, 95]
        (.seq (.reg none [⟨some 105, none, .q (.mv (.t 9))⟩, ⟨some 106, none, .call (.f 34) [(.t 105)]⟩, ⟨some 104, none, .q (.mv (.t 106))⟩, ⟨some 107, none, .q (.ext 0 (.t 104))⟩, ⟨some 108, none, .q (.ext 1 (.t 104))⟩, ⟨some 14, none, .q (.mv (.t 107))⟩, ⟨some 15, none, .q (.mv (.t 108))⟩])
        (.keep [2, 8, 9, 10, 11, 12, 13, 14, 15, 93, 94, 95]
        (.seq (.seq (.reg none [⟨some 109, none, .q (.mv (.t 15))⟩, ⟨some 110, none, .q (.bin .neq (.t 109) (.c (.i .i64 0)))⟩])
          (.keep [2, 8, 9, 10, 11, 12, 13, 14, 15, 93, 94, 95, 110]
          (.cond (.t 110) (.seq (.reg none [⟨some 111, none, .q (.bld [(.i .u32 0), (.i .i64 0), (.i .i64 0), (.i .i64 0), (.i .i64 0), (.i .i64 0), (.i .i64 0), (.i .i64 0), .nil, (.i .i64 0), (.i .i64 0), (.i .i64 0)] [])⟩, ⟨some 112, none, .q (.mv (.t 15))⟩, ⟨some 113, none, .q (.mv (.t 13))⟩, ⟨none, none, .m (.st 12 (.t 2) (.t 111))⟩, ⟨some 3, none, .q (.mv (.t 112))⟩, ⟨some 4, none, .q (.mv (.t 113))⟩])
            .ret)
          .skip)))
        (.seq (.seq (.reg none [⟨some 114, none, .q (.mv (.t 14))⟩, ⟨some 115, none, .q (.mv (.t 12))⟩, ⟨some 116, none, .q (.bin .gtr (.t 114) (.t 115))⟩, ⟨some 117, none, .q (.mv (.t 116))⟩, ⟨some 118, some (117, false), .q (.mv (.t 11))⟩, ⟨some 119, some (117, false), .q (.bin .eql (.t 118) (.c (.i .i64 0)))⟩, ⟨some 120, some (117, false), .q (.mv (.t 119))⟩, ⟨some 121, some (120, true), .q (.mv (.t 14))⟩, ⟨some 122, some (120, true), .q (.bin .eql (.t 121) (.c (.i .u64 0)))⟩, ⟨some 123, some (117, false), .pk (.t 120) (.t 122) (.c (.b false))⟩, ⟨some 124, none, .pk (.t 117) (.c (.b true)) (.t 123)⟩])
          (.keep [2, 8, 9, 10, 11, 13, 14, 93, 94, 95, 124]
          (.cond (.t 124) (.seq (.reg none [⟨some 125, none, .q (.bld [(.i .u32 0), (.i .i64 0), (.i .i64 0), (.i .i64 0), (.i .i64 0), (.i .i64 0), (.i .i64 0), (.i .i64 0), .nil, (.i .i64 0), (.i .i64 0), (.i .i64 0)] [])⟩, ⟨some 126, none, .q (.mv (.t 13))⟩, ⟨none, none, .m (.st 12 (.t 2) (.t 125))⟩, ⟨some 3, none, .q (.mv (.c (.i .i64 1)))⟩, ⟨some 4, none, .q (.mv (.t 126))⟩])
            .ret)
          .skip)))
        (.reg none [⟨some 127, none, .q (.mv (.t 11))⟩, ⟨some 128, none, .q (.mv (.t 14))⟩, ⟨some 129, none, .q (.cvi .i64 (.t 128))⟩, ⟨some 130, none, .q (.iaa 11 1 (.t 10) (.t 127))⟩, ⟨none, none, .m (.st 1 (.t 130) (.t 129))⟩]))))))))))
      (.keep [2, 8, 9, 10, 93, 94, 95]
      (.reg none [⟨some 131, none, .q (.bin .add (.t 95) (.c (.i .i64 1)))⟩, ⟨some 95, none, .q (.mv (.t 131))⟩]))))))))))))
  (.seq (.reg none [⟨some 132, none, .q (.iaa 11 1 (.t 10) (.c (.i .i64 0)))⟩, ⟨some 133, none, .q (.ld none (.t 132))⟩, ⟨some 134, none, .q (.iaa 11 1 (.t 10) (.c (.i .i64 1)))⟩, ⟨some 135, none, .q (.ld none (.t 134))⟩, ⟨some 136, none, .q (.iaa 11 1 (.t 10) (.c (.i .i64 2)))⟩, ⟨some 137, none, .q (.ld none (.t 136))⟩, ⟨some 138, none, .q (.bld [(.i .i64 0), (.i .i64 0)] [(0, 1, .t 135), (1, 1, .t 137)])⟩, ⟨some 139, none, .q (.iaa 11 1 (.t 10) (.c (.i .i64 3)))⟩, ⟨some 140, none, .q (.ld none (.t 139))⟩, ⟨some 141, none, .q (.iaa 11 1 (.t 10) (.c (.i .i64 4)))⟩, ⟨some 142, none, .q (.ld none (.t 141))⟩, ⟨some 143, none, .q (.bld [(.i .i64 0), (.i .i64 0)] [(0, 1, .t 140), (1, 1, .t 142)])⟩, ⟨some 144, none, .q (.iaa 11 1 (.t 10) (.c (.i .i64 5)))⟩, ⟨some 145, none, .q (.ld none (.t 144))⟩, ⟨some 146, none, .q (.iaa 11 1 (.t 10) (.c (.i .i64 6)))⟩, ⟨some 147, none, .q (.ld none (.t 146))⟩, ⟨some 148, none, .q (.bld [(.i .i64 0), (.i .i64 0), (.i .i64 0), (.i .i64 0), (.i .i64 0), (.i .i64 0), (.i .i64 0)] [(0, 1, .t 133), (1, 2, .t 138), (3, 2, .t 143), (5, 1, .t 145), (6, 1, .t 147)])⟩, ⟨some 149, none, .q (.fa 1 (.t 8))⟩, ⟨none, none, .m (.st 7 (.t 149) (.t 148))⟩])
  (.keep [2, 8, 9, 10]
  (.seq (.gst (.nilC 8 8 2)
    (.reg none [⟨some 150, none, .q (.iaa 11 1 (.t 10) (.c (.i .i64 7)))⟩, ⟨some 151, none, .q (.ld none (.t 150))⟩, ⟨some 152, none, .q (.iaa 11 1 (.t 10) (.c (.i .i64 8)))⟩, ⟨some 153, none, .q (.ld none (.t 152))⟩, ⟨some 154, none, .q (.iaa 11 1 (.t 10) (.c (.i .i64 9)))⟩, ⟨some 155, none, .q (.ld none (.t 154))⟩, ⟨some 156, none, .q (.bld [(.i .i64 0), (.i .i64 0), (.i .i64 0)] [(0, 1, .t 151), (1, 1, .t 153), (2, 1, .t 155)])⟩, ⟨some 157, none, .q (.fa 9 (.t 8))⟩, ⟨none, none, .m (.st 3 (.t 157) (.t 156))⟩]))
  (.keep [2, 8, 9, 10]
  (.seq (.seq (.reg none [⟨some 16, none, .q (.mv (.c (.i .i64 0)))⟩])
    (.keep [2, 8, 9, 10, 16]
    (.blk 2 (.keep [2, 8, 9, 10, 16]
    (.loop (.fin [2, 8, 9, 10, 16]
      (.seq (.seq (.reg none [⟨some 158, none, .q (.mv (.t 16))⟩, ⟨some 159, none, .q (.iaa 11 1 (.t 10) (.c (.i .i64 10)))⟩, ⟨some 160, none, .q (.ld none (.t 159))⟩, ⟨some 161, none, .q (.bin .mul (.c (.i .i64 2)) (.t 160))⟩, ⟨some 162, none, .q (.bin .lss (.t 158) (.t 161))⟩])
        (.keep [2, 8, 9, 10, 16, 162]
        (.cond (.t 162) .skip
        (.exit 2))))
      (.seq (.blk 3 (.seq (.reg none [⟨some 165, none, .q (.mv (.t 9))⟩, ⟨some 166, none, .q (.nck (.t 165))⟩, ⟨some 167, none, .q (.fa 1 (.t 166))⟩, ⟨some 168, none, .q (.ld none (.t 167))⟩, ⟨some 17, none, .q (.mv (.t 168))⟩])
        (.keep [2, 8, 9, 10, 16, 17]
        (.seq (.reg none [⟨some 170, none, .q (.mv (.t 9))⟩, ⟨some 171, none, .call (.f 34) [(.t 170)]⟩, ⟨some 169, none, .q (.mv (.t 171))⟩, ⟨some 172, none, .q (.ext 0 (.t 169))⟩, ⟨some 173, none, .q (.ext 1 (.t 169))⟩, ⟨some 18, none, .q (.mv (.t 172))⟩, ⟨some 19, none, .q (.mv (.t 173))⟩])
        (.keep [2, 8, 9, 10, 16, 17, 18, 19]
        (.seq (.seq (.reg none [⟨some 174, none, .q (.mv (.t 19))⟩, ⟨some 175, none, .q (.bin .neq (.t 174) (.c (.i .i64 0)))⟩])
          (.keep [2, 8, 9, 10, 16, 17, 18, 19, 175]
          (.cond (.t 175) (.seq (.reg none [⟨some 176, none, .q (.bld [(.i .u32 0), (.i .i64 0), (.i .i64 0), (.i .i64 0), (.i .i64 0), (.i .i64 0), (.i .i64 0), (.i .i64 0), .nil, (.i .i64 0), (.i .i64 0), (.i .i64 0)] [])⟩, ⟨some 177, none, .q (.mv (.t 19))⟩, ⟨some 178, none, .q (.mv (.t 17))⟩, ⟨none, none, .m (.st 12 (.t 2) (.t 176))⟩, ⟨some 3, none, .q (.mv (.t 177))⟩, ⟨some 4, none, .q (.mv (.t 178))⟩])
            .ret)
          .skip)))
        (.seq (.seq (.reg none [⟨some 179, none, .q (.mv (.t 16))⟩, ⟨some 180, none, .q (.bin .rem (.t 179) (.c (.i .i64 2)))⟩, ⟨some 181, none, .q (.bin .eql (.t 180) (.c (.i .i64 0)))⟩, ⟨some 182, none, .q (.mv (.t 181))⟩, ⟨some 183, some (182, true), .q (.mv (.t 18))⟩, ⟨some 184, some (182, true), .q (.bin .gtr (.t 183) (.c (.i .u64 5)))⟩, ⟨some 185, none, .pk (.t 182) (.t 184) (.c (.b false))⟩, ⟨some 186, none, .q (.mv (.t 185))⟩, ⟨some 187, some (186, false), .q (.mv (.t 16))⟩, ⟨some 188, some (186, false), .q (.bin .rem (.t 187) (.c (.i .i64 2)))⟩, ⟨some 189, some (186, false), .q (.bin .eql (.t 188) (.c (.i .i64 1)))⟩, ⟨some 190, some (186, false), .q (.mv (.t 189))⟩, ⟨some 191, some (190, true), .q (.mv (.t 18))⟩, ⟨some 192, some (190, true), .q (.bin .gtr (.t 191) (.c (.i .u64 4)))⟩, ⟨some 193, some (186, false), .pk (.t 190) (.t 192) (.c (.b false))⟩, ⟨some 194, none, .pk (.t 186) (.c (.b true)) (.t 193)⟩])
          (.keep [2, 8, 9, 10, 16, 17, 18, 194]
          (.cond (.t 194) (.seq (.reg none [⟨some 195, none, .q (.bld [(.i .u32 0), (.i .i64 0), (.i .i64 0), (.i .i64 0), (.i .i64 0), (.i .i64 0), (.i .i64 0), (.i .i64 0), .nil, (.i .i64 0), (.i .i64 0), (.i .i64 0)] [])⟩, ⟨some 196, none, .q (.mv (.t 17))⟩, ⟨none, none, .m (.st 12 (.t 2) (.t 195))⟩, ⟨some 3, none, .q (.mv (.c (.i .i64 1)))⟩, ⟨some 4, none, .q (.mv (.t 196))⟩])
            .ret)
          .skip)))
        (.seq (.reg none [⟨some 197, none, .q (.mv (.t 16))⟩, ⟨some 198, none, .q (.bin .rem (.t 197) (.c (.i .i64 2)))⟩, ⟨some 199, none, .q (.bin .eql (.t 198) (.c (.i .i64 0)))⟩])
        (.keep [2, 8, 9, 10, 16, 18, 199]
        (.cond (.t 199) (.reg none [⟨some 200, none, .q (.fa 8 (.t 8))⟩, ⟨some 201, none, .q (.ld none (.t 200))⟩, ⟨some 202, none, .q (.mv (.t 18))⟩, ⟨some 203, none, .q (.cvi .i64 (.t 202))⟩, ⟨some 204, none, .q (.bld [(.i .i64 0), (.i .i64 0)] [(0, 1, .t 203)])⟩, ⟨some 205, none, .m (.bsl 1 2 [(.i .i64 0), (.i .i64 0)] [(0, 2, .t 204)])⟩, ⟨some 206, none, .m (.app 2 16 (.t 201) (.t 205))⟩, ⟨some 207, none, .q (.fa 8 (.t 8))⟩, ⟨none, none, .m (.st 1 (.t 207) (.t 206))⟩])
        (.reg none [⟨some 208, none, .q (.fa 8 (.t 8))⟩, ⟨some 209, none, .q (.ld none (.t 208))⟩, ⟨some 210, none, .q (.mv (.t 16))⟩, ⟨some 211, none, .q (.bin .quo (.t 210) (.c (.i .i64 2)))⟩, ⟨some 212, none, .q (.mv (.t 18))⟩, ⟨some 213, none, .q (.cvi .i64 (.t 212))⟩, ⟨some 214, none, .q (.ias 2 (.t 209) (.t 211))⟩, ⟨some 215, none, .q (.fa 1 (.t 214))⟩, ⟨none, none, .m (.st 1 (.t 215) (.t 213))⟩])))))))))))
      (.keep [2, 8, 9, 10, 16]
      (.reg none [⟨some 163, none, .q (.mv (.t 16))⟩, ⟨some 164, none, .q (.bin .add (.t 163) (.c (.i .i64 1)))⟩, ⟨some 16, none, .q (.mv (.t 164))⟩]))))))))))
  (.seq (.seq (.gst (.frzC 8 8)
      (.reg none [⟨some 216, none, .q (.mv (.t 9))⟩, ⟨some 217, none, .call (.f 35) [(.t 216)]⟩, ⟨some 218, none, .q (.bin .neq (.t 217) (.c (.i .i64 0)))⟩]))
    (.keep [2, 8, 9, 218]
    (.cond (.t 218) (.seq (.reg (some (5, [2, 3, 4])) [⟨some 219, none, .q (.bld [(.i .u32 0), (.i .i64 0), (.i .i64 0), (.i .i64 0), (.i .i64 0), (.i .i64 0), (.i .i64 0), (.i .i64 0), .nil, (.i .i64 0), (.i .i64 0), (.i .i64 0)] [])⟩, ⟨some 220, none, .q (.mv (.t 9))⟩, ⟨some 221, none, .q (.nck (.t 220))⟩, ⟨some 222, none, .q (.fa 1 (.t 221))⟩, ⟨some 223, none, .q (.ld none (.t 222))⟩, ⟨none, none, .m (.st 12 (.t 2) (.t 219))⟩, ⟨some 3, none, .q (.mv (.c (.i .i64 13)))⟩, ⟨some 4, none, .q (.mv (.t 223))⟩])
      .ret)
    .skip)))
  (.seq (.reg none [⟨some 224, none, .q (.ld (some 12) (.t 8))⟩, ⟨none, none, .m (.st 12 (.t 2) (.t 224))⟩, ⟨some 3, none, .q (.mv (.c (.i .i64 0)))⟩, ⟨some 4, none, .q (.mv (.c (.i .i64 0)))⟩])
  .ret))))))))))))))))))))))))
theorem r14 : (Try.f14.body.bind (resC Try.prog Try.f14.ntmps)) = some (strip c14) := by kernel_rfl
theorem s14 : Try.f14.results.toList.mapM (resRes Try.prog) = some [.c 2 (some 12), .t 3, .t 4] := by kernel_rfl
theorem gfR (bs : List UInt8) (at' : Int) (hb : bs.length < 1099511627776) : PureS Try.prog 32 [.sl 1 (bs.map brow), .i .i64 at'] (fixRd bs at') := by
  refine fun_go hmx Try.func32 r32 s32 (by rw [Try.ntmps32]; simp) ?_
  unfold c32
  by_cases h : at' < 0 ∨ (bs.length : Int) < at'
  · have h' : (at' < 0 ∨ (bs.length : Int) < at') ↔ True := iff_true_intro h
    simp [h', fixRd]
    intro a b; omega
  obtain ⟨a, rfl⟩ := Int.eq_ofNat_of_zero_le (show 0 ≤ at' by omega)
  have h1 : ¬ ((a : Int) < 0) := by omega
  have h2 : ¬ ((bs.length : Int) < (a : Int)) := by omega
  have hw : IntKind.i64.wrap ((bs.length : Int) - a) = (bs.length : Int) - a := wrap_in (by omega) (by omega)
  by_cases h4 : (bs.length : Int) - a < 4
  · have h5 : ¬ (4 ≤ (bs.length : Int) - a) := by omega
    simp [h2, hw, h4, h5, fixRd]
  have h5 : 4 ≤ (bs.length : Int) - a := by omega
  have hf4 : (four bs a).length = 4 := four_length (by omega)
  have hr : fixRd bs (a : Int) = .tup [.i .u32 (beN (four bs a) 0 : Int), .i .i64 ((a : Int) + 4), .i .i64 0] := by rw [fixRd, if_neg h, if_neg h4]; simp
  have hw4 : IntKind.i64.wrap ((a : Int) + 4) = (a : Int) + 4 := wrap_in (by omega) (by omega)
  rw [hr]
  simp [h1, h2, hw, h4, h5]
  have hget : ∀ i, i < 4 → bs[a + i]? = (four bs a)[i]? := fun i hi => by
    rw [four, List.getElem?_drop, List.getElem?_take, if_pos (by omega)]
  generalize four bs a = xs at *
  refine go_each hmx 0 8 xs (fun (c : Nat) => [(7, .v (.i .u32 (c : Int)))]) (fun _ => []) (fun i c rest => beN rest c = beN xs 0 ∧ c < 256 ^ i) 0 (by omega) rfl rfl rfl (by simp) (by simp) (by simp) ⟨rfl, by simp⟩ ?_ ?_
  · rintro i x rest c hi hx hr2 ⟨hj, hc⟩ hw2
    have hi4 : i < 4 := by omega
    have hi' : (i : Int) < 4 := by omega
    have hi2 : ¬ (4 : Int) ≤ i := by omega
    have hxl := x.toNat_lt
    have hcl : c < 16777216 := by
      have : 256 ^ i ≤ 256 ^ 3 := Nat.pow_le_pow_right (by omega) (by omega)
      omega
    have hwa : IntKind.i64.wrap ((a : Int) + i) = ((a + i : Nat) : Int) := by rw [wrap_in (by omega) (by omega)]; omega
    have hg := hget i hi4
    rw [List.getElem?_eq_getElem hi, hx] at hg
    have hlt : a + i < bs.length := by omega
    have ht : ((a : Int) + (i : Int)).toNat = a + i := by omega
    have hltI : (a : Int) + (i : Int) < (bs.length : Int) := by omega
    simp [hi', hi2, hi, hw2, hwa, hlt, hltI, ht, hg, brow]
    refine ⟨by omega, ?_⟩
    refine ⟨c * 256 + x.toNat, ?_, hj, by rw [Nat.pow_succ]; omega⟩
    have hbx : bs[a + i] = x := by rw [List.getElem?_eq_getElem hlt] at hg; exact Option.some.inj hg
    rw [hbx, wrap_u32_lt (show x.toNat < 4294967296 by omega)]
    have e1 : ((c : Int) * 256) = ((c * 256 : Nat) : Int) := by simp
    rw [e1, wrap_u32_lt (show c * 256 < 4294967296 by omega), ← Int.natCast_add, wrap_u32_lt (by omega)]
  · rintro c ⟨hj, hc⟩
    have hc2 : c = beN xs 0 := by simpa [beN] using hj
    simp [hf4, hw4, hc2]
theorem ruint_p (bs : List UInt8) (pos : Nat) (hp : pos ≤ bs.length) (hb : bs.length < 1099511627776) : CallS Try.prog 34 [.pt 0 0 0 0] [.var (orow bs pos)] (uintR bs pos) := by
  refine fun_go hmx Try.func34 r34 s34 (by rw [Try.ntmps34]; simp) ?_
  unfold c34
  simp [orow]
  first
    | refine callk rfl Try.call43 (getRf bs pos hb) rfl ?_
    | refine callks rfl Try.call43 (getRf bs pos hb) rfl ?_
    | refine callq rfl Try.call43 (getRf bs pos hb) rfl ?_
  have hg : getR bs (pos : Int) = told3 (getA 0 0 (bs.drop pos)) pos := by rw [getR, if_neg (by omega)]; simp
  rw [hg]
  rcases hga : getA 0 0 (bs.drop pos) with ⟨e, x, n⟩
  by_cases he0 : e = 0
  · subst he0
    simp [told3, uintR, hga, orow]
  · simp [told3, he0, uintR, hga, orow]
theorem rend_p (bs : List UInt8) (pos : Nat) : CallS Try.prog 35 [.pt 0 0 0 0] [.var (orow bs pos)] fun r K => r = .v (.i .i64 (if pos < bs.length then 13 else 0)) ∧ K = [.var (orow bs pos)] := by
  refine fun_go hmx Try.func35 r35 s35 (by rw [Try.ntmps35]; simp) ?_
  unfold c35
  simp [orow]
/-! ### Reading, number by number -/
def cont (q : Nat) (ys : List Int) : Res (List Int) → Res (List Int)
  | .err e o => .err e (q + o)
  | .ok zs m => .ok (ys ++ zs) (q + m)
theorem cont_start (r : Res (List Int)) : cont 0 [] r = r := by cases r <;> simp [cont]
theorem cont_err {q : Nat} {ys : List Int} {m : Nat × Nat} {ms : List (Nat × Nat)} {l : List UInt8} {e : Int} {o : Nat} (h : wiP m l = .err e o) : cont q ys (seqP (m :: ms) l) = .err e (q + o) := by
  simp only [seqP, bindP, h, cont]
theorem cont_ok {q : Nat} {ys : List Int} {m : Nat × Nat} {ms : List (Nat × Nat)} {l : List UInt8} {x : Int} {n : Nat} (h : wiP m l = .ok x n) : cont q ys (seqP (m :: ms) l) = cont (q + n) (ys ++ [x]) (seqP ms (l.drop n)) := by
  simp only [seqP, bindP, h, retP]
  rcases seqP ms (l.drop n) with ⟨e, o⟩ | ⟨zs, k⟩
  · simp [cont, Nat.add_assoc]
  · simp [cont, Nat.add_assoc]
def xcells (ys : List Int) : List RV := ((ys ++ List.replicate (11 - ys.length) 0).map fun y => AV.i .i64 y).map .v
theorem xcells_len {ys : List Int} (h : ys.length ≤ 11) : (xcells ys).length = 11 := by simp [xcells]; omega
theorem xcells_set {ys : List Int} (h : ys.length < 11) (x : Int) : (xcells ys).set ys.length (.v (.i .i64 x)) = xcells (ys ++ [x]) := by
  obtain ⟨k, hk⟩ : ∃ k, 11 - ys.length = k + 1 := ⟨10 - ys.length, by omega⟩
  have hk2 : 11 - (ys ++ [x]).length = k := by simp; omega
  rw [xcells, xcells, hk, hk2, List.replicate_succ, ← List.map_set, ← List.map_set, List.set_append_right _ _ (Nat.le_refl _), Nat.sub_self, List.set_cons_zero, List.append_assoc]
  rfl
theorem bnds_get {i : Nat} {m : Nat × Nat} (h : bnds[i]? = some m) : (m.1 = if i = 0 then 1 else 0) ∧ m.2 ≤ 65536 := by
  match i, h with
  | 0, h | 1, h | 2, h | 3, h | 4, h | 5, h | 6, h | 7, h | 8, h | 9, h | 10, h => simp [bnds] at h; subst h; simp
  | n + 11, h => simp [bnds] at h
theorem fields_err {l : List UInt8} {e : Int} {o : Nat} (h : seqP bnds l = .err e o) : fieldsP l = .err e o := by simp only [fieldsP, bindP, h]
theorem fields_err2 {l : List UInt8} {ys : List Int} {n : Nat} {e : Int} {o : Nat} (h : seqP bnds l = .ok ys n) (h' : seqP (pairs (ys.getD 10 0).toNat) (l.drop n) = .err e o) : fieldsP l = .err e (n + o) := by simp only [fieldsP, bindP, h, h']
theorem fields_ok {l : List UInt8} {ys zs : List Int} {n m : Nat} (h : seqP bnds l = .ok ys n) (h' : seqP (pairs (ys.getD 10 0).toNat) (l.drop n) = .ok zs m) : fieldsP l = .ok (ys, zs) (n + m) := by simp only [fieldsP, bindP, h, h', retP, Nat.add_zero]
theorem wi_of {m : Nat × Nat} {l : List UInt8} {e : Int} {x n : Nat} (h : getA 0 0 l = (e, x, n)) : wiP m l = if e ≠ 0 then .err e 0 else if m.2 < x ∨ x < m.1 then .err 1 0 else .ok (x : Int) n := by simp only [wiP, h]
theorem no_told' {V : AV} (H : List AObj) (e o : Int) (h : V = .tup [.g zeroW.row, .i .i64 e, .i .i64 o]) : ∃ a, Frz H (.v (.tup [.g [.i .u32 0, .i .i64 0, .i .i64 0, .i .i64 0, .i .i64 0, .i .i64 0, .i .i64 0, .i .i64 0, .nil, .i .i64 0, .i .i64 0, .i .i64 0], .i .i64 e, .i .i64 o])) a ∧ Wk a V := h ▸ no_told H e o
/-- Picks of which the last one may have its first half alone. -/
def halves : List Int → List Pick
  | a :: b :: r => ⟨a, b⟩ :: halves r
  | [a] => [⟨a, 0⟩]
  | [] => []
theorem halves_even : ∀ (q : Nat) (zs : List Int), zs.length = 2 * q → halves zs = picksOf zs ∧ (halves zs).length = q ∧ ∀ x, halves (zs ++ [x]) = halves zs ++ [⟨x, 0⟩]
  | 0, [], _ => by simp [halves, picksOf]
  | 0, _ :: _, h => by simp at h
  | q + 1, [], h => by simp at h
  | q + 1, [_], h => by simp at h; omega
  | q + 1, a :: b :: r, h => by
    obtain ⟨h1, h2, h3⟩ := halves_even q r (by simp at h; omega)
    exact ⟨by simp [halves, picksOf, h1], by simp [halves, h2], fun x => by simp [halves, h3]⟩
theorem halves_odd : ∀ (q : Nat) (zs : List Int), zs.length = 2 * q + 1 → (halves zs).length = q + 1 ∧ ∀ x, ∃ a, (halves zs)[q]? = some ⟨a, 0⟩ ∧ halves (zs ++ [x]) = (halves zs).set q ⟨a, x⟩
  | q, [], h => by simp at h
  | 0, [a], _ => by simp [halves]
  | 0, _ :: _ :: _, h => by simp at h
  | q + 1, [_], h => by simp at h
  | q + 1, a :: b :: r, h => by
    obtain ⟨h2, h3⟩ := halves_odd q r (by simp at h; omega)
    refine ⟨by simp [halves, h2], fun x => ?_⟩
    obtain ⟨c, e1, e2⟩ := h3 x
    exact ⟨c, by simpa [halves] using e1, by simp [halves, e2]⟩
theorem pairs_length : ∀ n, (pairs n).length = 2 * n
  | 0 => rfl
  | n + 1 => by simp [pairs, pairs_length n]; omega
theorem pairs_get : ∀ (n i : Nat) (m : Nat × Nat), (pairs n)[i]? = some m → m = if i % 2 = 0 then (0, 5) else (0, 4)
  | 0, i, m, h => by simp [pairs] at h
  | n + 1, 0, m, h => by simp [pairs] at h; simp [h]
  | n + 1, 1, m, h => by simp [pairs] at h; simp [h]
  | n + 1, i + 2, m, h => by
    have := pairs_get n i m (by simpa [pairs] using h)
    rw [this, Nat.add_mod_right]
end Go.Sc.Wi
