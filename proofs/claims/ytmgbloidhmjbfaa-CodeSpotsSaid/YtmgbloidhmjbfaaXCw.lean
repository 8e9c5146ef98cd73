/- Chapter 04: programs in bytes: what they are. No condition. -/
import Derived.Test.YtmgbloidhmjbfaaXCwA
import Derived.Test.YtmgbloidhmjbfaaXAv16
import Derived.Test.YtmgbloidhmjbfaaXScDec
set_option linter.constructorNameAsVariable false
namespace Go.Sc.Cw
open Go Go.RowKit Go.Av Go.Proofs Go.Sc.Oct
set_option linter.unusedSimpArgs false
set_option linter.unusedVariables false
/-- (*scarab/code.writer).fun -/
def c115 : ACode :=
  (.seq (.reg none [⟨some 4, none, .m (.box (.t 1))⟩])
  (.keep [0, 2, 4]
  (.seq (.reg none [⟨some 12, none, .q (.mv (.t 0))⟩, ⟨some 13, none, .q (.fa 0 (.t 4))⟩, ⟨some 14, none, .q (.ld none (.t 13))⟩, ⟨some 15, none, .call (.f 112) [(.t 12), (.t 14)]⟩])
  (.keep [0, 2, 4]
  (.seq (.reg none [⟨some 16, none, .q (.mv (.t 0))⟩, ⟨some 17, none, .q (.fa 1 (.t 4))⟩, ⟨some 18, none, .q (.ld none (.t 17))⟩, ⟨some 19, none, .call (.f 112) [(.t 16), (.t 18)]⟩])
  (.keep [0, 2, 4]
  (.seq (.reg none [⟨some 20, none, .q (.mv (.t 0))⟩, ⟨some 21, none, .q (.fa 3 (.t 4))⟩, ⟨some 22, none, .q (.ld none (.t 21))⟩, ⟨some 23, none, .q (.len false (.t 22))⟩, ⟨some 24, none, .call (.f 112) [(.t 20), (.t 23)]⟩])
  (.keep [0, 2, 4]
  (.seq (.seq (.reg none [⟨some 25, none, .q (.fa 3 (.t 4))⟩, ⟨some 26, none, .q (.ld none (.t 25))⟩, ⟨some 27, none, .q (.len false (.t 26))⟩, ⟨some 28, none, .q (.mv (.c (.i .i64 0)))⟩])
    (.keep [0, 2, 4, 26, 27, 28]
    (.blk 0 (.keep [0, 2, 4, 26, 27, 28]
    (.loop (.fin [0, 2, 4, 26, 27, 28]
      (.seq (.reg none [⟨some 29, none, .q (.bin .lss (.t 28) (.t 27))⟩])
      (.keep [0, 2, 4, 26, 27, 28, 29]
      (.seq (.cond (.t 29) .skip
        (.exit 0))
      (.seq (.blk 1 (.seq (.reg none [⟨some 30, none, .q (.ias 2 (.t 26) (.t 28))⟩, ⟨some 31, none, .q (.ld (some 2) (.t 30))⟩, ⟨some 7, none, .m (.alloc (.g [.nil, (.i .i64 0)]))⟩, ⟨none, none, .m (.st 2 (.t 7) (.t 31))⟩])
        (.keep [0, 2, 4, 7, 26, 27, 28]
        (.seq (.reg none [⟨some 32, none, .q (.mv (.t 0))⟩, ⟨some 33, none, .q (.fa 0 (.t 7))⟩, ⟨some 34, none, .q (.ld none (.t 33))⟩, ⟨some 35, none, .q (.len false (.t 34))⟩, ⟨some 36, none, .call (.f 112) [(.t 32), (.t 35)]⟩])
        (.keep [0, 2, 4, 7, 26, 27, 28]
        (.seq (.seq (.reg none [⟨some 37, none, .q (.fa 0 (.t 7))⟩, ⟨some 38, none, .q (.ld none (.t 37))⟩, ⟨some 39, none, .q (.len false (.t 38))⟩, ⟨some 40, none, .q (.mv (.c (.i .i64 0)))⟩])
          (.keep [0, 2, 4, 7, 26, 27, 28, 38, 39, 40]
          (.blk 2 (.keep [0, 2, 4, 7, 26, 27, 28, 38, 39, 40]
          (.loop (.fin [0, 2, 4, 7, 26, 27, 28, 38, 39, 40]
            (.seq (.reg none [⟨some 41, none, .q (.bin .lss (.t 40) (.t 39))⟩])
            (.keep [0, 2, 4, 7, 26, 27, 28, 38, 39, 40, 41]
            (.seq (.cond (.t 41) .skip
              (.exit 2))
            (.seq (.blk 3 (.seq (.reg none [⟨some 42, none, .q (.ias 4 (.t 38) (.t 40))⟩, ⟨some 43, none, .q (.ld (some 4) (.t 42))⟩, ⟨some 9, none, .m (.alloc (.g [(.b false), (.i .i64 0), (.i .i64 0), (.i .i64 0)]))⟩, ⟨none, none, .m (.st 4 (.t 9) (.t 43))⟩])
              (.keep [0, 2, 4, 7, 9, 26, 27, 28, 38, 39, 40]
              (.seq (.reg none [⟨some 44, none, .q (.mv (.t 0))⟩, ⟨some 45, none, .q (.fa 0 (.t 9))⟩, ⟨some 46, none, .q (.ld none (.t 45))⟩, ⟨some 47, none, .call (.f 113) [(.t 44), (.t 46)]⟩])
              (.keep [0, 2, 4, 7, 9, 26, 27, 28, 38, 39, 40]
              (.seq (.reg none [⟨some 48, none, .q (.mv (.t 0))⟩, ⟨some 49, none, .q (.fa 1 (.t 9))⟩, ⟨some 50, none, .q (.ld none (.t 49))⟩, ⟨some 51, none, .call (.f 112) [(.t 48), (.t 50)]⟩])
              (.keep [0, 2, 4, 7, 9, 26, 27, 28, 38, 39, 40]
              (.seq (.reg none [⟨some 52, none, .q (.mv (.t 0))⟩, ⟨some 53, none, .q (.fa 2 (.t 9))⟩, ⟨some 54, none, .q (.ld none (.t 53))⟩, ⟨some 55, none, .q (.bin .add (.t 54) (.c (.i .i64 1)))⟩, ⟨some 56, none, .call (.f 112) [(.t 52), (.t 55)]⟩])
              (.keep [0, 2, 4, 7, 9, 26, 27, 28, 38, 39, 40]
              (.reg none [⟨some 57, none, .q (.mv (.t 0))⟩, ⟨some 58, none, .q (.fa 3 (.t 9))⟩, ⟨some 59, none, .q (.ld none (.t 58))⟩, ⟨some 60, none, .call (.f 112) [(.t 57), (.t 59)]⟩]))))))))))
            (.keep [0, 2, 4, 7, 26, 27, 28, 38, 39, 40]
            (.reg none [⟨some 61, none, .q (.bin .add (.t 40) (.c (.i .i64 1)))⟩, ⟨some 40, none, .q (.mv (.t 61))⟩]))))))))))))
        (.reg none [⟨some 62, none, .q (.mv (.t 0))⟩, ⟨some 63, none, .q (.fa 1 (.t 7))⟩, ⟨some 64, none, .q (.ld none (.t 63))⟩, ⟨some 65, none, .q (.bin .add (.t 64) (.c (.i .i64 1)))⟩, ⟨some 66, none, .call (.f 112) [(.t 62), (.t 65)]⟩])))))))
      (.keep [0, 2, 4, 26, 27, 28]
      (.reg none [⟨some 67, none, .q (.bin .add (.t 28) (.c (.i .i64 1)))⟩, ⟨some 28, none, .q (.mv (.t 67))⟩]))))))))))))
  (.seq (.reg none [⟨some 68, none, .q (.mv (.t 0))⟩, ⟨some 69, none, .q (.fa 2 (.t 4))⟩, ⟨some 70, none, .q (.ld none (.t 69))⟩, ⟨some 71, none, .q (.len false (.t 70))⟩, ⟨some 72, none, .call (.f 112) [(.t 68), (.t 71)]⟩])
  (.keep [0, 2, 4]
  (.seq (.reg none [⟨some 73, none, .q (.fa 2 (.t 4))⟩, ⟨some 74, none, .q (.ld none (.t 73))⟩, ⟨some 75, none, .q (.len false (.t 74))⟩, ⟨some 76, none, .q (.mv (.c (.i .i64 0)))⟩])
  (.keep [0, 2, 74, 75, 76]
  (.blk 4 (.keep [0, 2, 74, 75, 76]
  (.loop (.fin [0, 2, 74, 75, 76]
    (.seq (.reg none [⟨some 77, none, .q (.bin .lss (.t 76) (.t 75))⟩])
    (.keep [0, 2, 74, 75, 76, 77]
    (.seq (.cond (.t 77) .skip
      (.exit 4))
    (.seq (.blk 5 (.seq (.reg none [⟨some 78, none, .q (.mv (.t 76))⟩, ⟨some 79, none, .q (.ias 5 (.t 74) (.t 76))⟩, ⟨some 80, none, .q (.ld (some 5) (.t 79))⟩, ⟨some 11, none, .m (.alloc (.g [(.i .i64 0), (.i .i64 0), (.i .i64 0), (.i .i64 0), (.i .i64 0)]))⟩, ⟨some 10, none, .q (.mv (.t 78))⟩, ⟨none, none, .m (.st 5 (.t 11) (.t 80))⟩])
      (.keep [0, 2, 10, 11, 74, 75, 76]
      (.seq (.reg none [⟨some 81, none, .q (.mv (.t 2))⟩, ⟨some 82, none, .q (.mv (.t 10))⟩, ⟨some 83, none, .call (.t 81) [(.t 82)]⟩])
      (.keep [0, 2, 11, 74, 75, 76]
      (.reg none [⟨some 84, none, .q (.mv (.t 0))⟩, ⟨some 85, none, .q (.ld (some 5) (.t 11))⟩, ⟨some 86, none, .call (.f 98) [(.t 84), (.t 85)]⟩]))))))
    (.keep [0, 2, 74, 75, 76]
    (.reg none [⟨some 87, none, .q (.bin .add (.t 76) (.c (.i .i64 1)))⟩, ⟨some 76, none, .q (.mv (.t 87))⟩])))))))))))))))))))))))
theorem r115 : (Try.f115.body.bind (resC Try.prog Try.f115.ntmps)) = some (strip c115) := by kernel_rfl
theorem s115 : Try.f115.results.toList.mapM (resRes Try.prog) = some [] := by kernel_rfl
/-- scarab/code.written -/
def c80 : ACode :=
  (.seq (.reg none [⟨some 2, none, .m (.box (.t 0))⟩, ⟨some 3, none, .m (.box (.t 1))⟩, ⟨some 4, none, .q (.mv (.c .nil))⟩])
  (.keep [2, 3]
  (.seq (.reg none [⟨some 13, none, .call (.f 83) []⟩, ⟨some 14, none, .q (.bld [.nil] [(0, 1, .t 13)])⟩, ⟨some 15, none, .m (.box (.t 14))⟩, ⟨some 5, none, .m (.alloc .np)⟩, ⟨none, none, .m (.st 1 (.t 5) (.t 15))⟩])
  (.keep [2, 3, 5]
  (.seq (.reg none [⟨some 16, none, .q (.ld none (.t 5))⟩, ⟨some 17, none, .q (.fa 0 (.t 2))⟩, ⟨some 18, none, .q (.ld none (.t 17))⟩, ⟨some 19, none, .q (.len false (.t 18))⟩, ⟨some 20, none, .call (.f 112) [(.t 16), (.t 19)]⟩])
  (.keep [2, 3, 5]
  (.seq (.seq (.reg none [⟨some 21, none, .q (.fa 0 (.t 2))⟩, ⟨some 22, none, .q (.ld none (.t 21))⟩, ⟨some 23, none, .q (.len false (.t 22))⟩, ⟨some 24, none, .q (.mv (.c (.i .i64 0)))⟩])
    (.keep [2, 3, 5, 22, 23, 24]
    (.blk 0 (.keep [2, 3, 5, 22, 23, 24]
    (.loop (.fin [2, 3, 5, 22, 23, 24]
      (.seq (.reg none [⟨some 25, none, .q (.bin .lss (.t 24) (.t 23))⟩])
      (.keep [2, 3, 5, 22, 23, 24, 25]
      (.seq (.cond (.t 25) .skip
        (.exit 0))
      (.seq (.blk 1 (.seq (.reg none [⟨some 26, none, .q (.ias 2 (.t 22) (.t 24))⟩, ⟨some 27, none, .q (.ld (some 2) (.t 26))⟩, ⟨some 7, none, .m (.alloc (.g [(.b false), (.i .i64 0)]))⟩, ⟨none, none, .m (.st 2 (.t 7) (.t 27))⟩])
        (.keep [2, 3, 5, 7, 22, 23, 24]
        (.seq (.reg none [⟨some 28, none, .q (.ld none (.t 5))⟩, ⟨some 29, none, .q (.fa 0 (.t 7))⟩, ⟨some 30, none, .q (.ld none (.t 29))⟩, ⟨some 31, none, .call (.f 113) [(.t 28), (.t 30)]⟩])
        (.keep [2, 3, 5, 7, 22, 23, 24]
        (.reg (some (7, [0])) [⟨some 32, none, .q (.ld none (.t 5))⟩, ⟨some 33, none, .q (.ld none (.t 5))⟩, ⟨some 34, none, .q (.nck (.t 33))⟩, ⟨some 35, none, .q (.fa 0 (.t 34))⟩, ⟨some 36, none, .q (.ld none (.t 35))⟩, ⟨some 37, none, .q (.fa 1 (.t 7))⟩, ⟨some 38, none, .q (.ld none (.t 37))⟩, ⟨some 39, none, .call (.f 114) [(.t 36), (.t 38)]⟩, ⟨some 40, none, .q (.nck (.t 32))⟩, ⟨some 41, none, .q (.fa 0 (.t 40))⟩, ⟨none, none, .m (.st 1 (.t 41) (.t 39))⟩]))))))
      (.keep [2, 3, 5, 22, 23, 24]
      (.reg none [⟨some 42, none, .q (.bin .add (.t 24) (.c (.i .i64 1)))⟩, ⟨some 24, none, .q (.mv (.t 42))⟩]))))))))))))
  (.seq (.reg none [⟨some 43, none, .q (.ld none (.t 5))⟩, ⟨some 44, none, .q (.fa 1 (.t 2))⟩, ⟨some 45, none, .q (.ld none (.t 44))⟩, ⟨some 46, none, .call (.f 112) [(.t 43), (.t 45)]⟩])
  (.keep [2, 3, 5]
  (.seq (.reg none [⟨some 47, none, .q (.ld none (.t 5))⟩, ⟨some 48, none, .q (.fa 2 (.t 2))⟩, ⟨some 49, none, .q (.ld none (.t 48))⟩, ⟨some 50, none, .q (.len false (.t 49))⟩, ⟨some 51, none, .call (.f 112) [(.t 47), (.t 50)]⟩])
  (.keep [2, 3, 5]
  (.seq (.seq (.reg none [⟨some 52, none, .q (.fa 2 (.t 2))⟩, ⟨some 53, none, .q (.ld none (.t 52))⟩, ⟨some 54, none, .q (.len false (.t 53))⟩, ⟨some 55, none, .q (.mv (.c (.i .i64 0)))⟩])
    (.keep [2, 3, 5, 53, 54, 55]
    (.blk 2 (.keep [2, 3, 5, 53, 54, 55]
    (.loop (.fin [2, 3, 5, 53, 54, 55]
      (.seq (.reg none [⟨some 56, none, .q (.bin .lss (.t 55) (.t 54))⟩])
      (.keep [2, 3, 5, 53, 54, 55, 56]
      (.seq (.cond (.t 56) .skip
        (.exit 2))
      (.seq (.blk 3 (.seq (.reg none [⟨some 57, none, .q (.ias 1 (.t 53) (.t 55))⟩, ⟨some 58, none, .q (.ld none (.t 57))⟩, ⟨some 9, none, .q (.mv (.t 58))⟩])
        (.keep [2, 3, 5, 9, 53, 54, 55]
        (.reg none [⟨some 59, none, .q (.ld none (.t 5))⟩, ⟨some 60, none, .q (.mv (.t 9))⟩, ⟨some 61, none, .call (.f 112) [(.t 59), (.t 60)]⟩]))))
      (.keep [2, 3, 5, 53, 54, 55]
      (.reg none [⟨some 62, none, .q (.bin .add (.t 55) (.c (.i .i64 1)))⟩, ⟨some 55, none, .q (.mv (.t 62))⟩]))))))))))))
  (.seq (.reg none [⟨some 63, none, .q (.ld none (.t 5))⟩, ⟨some 64, none, .q (.fa 3 (.t 2))⟩, ⟨some 65, none, .q (.ld none (.t 64))⟩, ⟨some 66, none, .q (.len false (.t 65))⟩, ⟨some 67, none, .call (.f 112) [(.t 63), (.t 66)]⟩])
  (.keep [2, 3, 5]
  (.seq (.seq (.reg none [⟨some 68, none, .q (.fa 3 (.t 2))⟩, ⟨some 69, none, .q (.ld none (.t 68))⟩, ⟨some 70, none, .q (.len false (.t 69))⟩, ⟨some 71, none, .q (.mv (.c (.i .i64 0)))⟩])
    (.keep [3, 5, 69, 70, 71]
    (.blk 4 (.keep [3, 5, 69, 70, 71]
    (.loop (.fin [3, 5, 69, 70, 71]
      (.seq (.reg none [⟨some 72, none, .q (.bin .lss (.t 71) (.t 70))⟩])
      (.keep [3, 5, 69, 70, 71, 72]
      (.seq (.cond (.t 72) .skip
        (.exit 4))
      (.seq (.blk 5 (.seq (.reg none [⟨some 73, none, .q (.mv (.t 71))⟩, ⟨some 74, none, .q (.ias 4 (.t 69) (.t 71))⟩, ⟨some 75, none, .q (.ld (some 4) (.t 74))⟩, ⟨some 10, none, .m (.alloc (.i .i64 0))⟩, ⟨some 11, none, .m (.alloc (.g [(.i .i64 0), (.i .i64 0), .nil, .nil]))⟩, ⟨none, none, .m (.st 1 (.t 10) (.t 73))⟩, ⟨none, none, .m (.st 4 (.t 11) (.t 75))⟩])
        (.keep [3, 5, 10, 11, 69, 70, 71]
        (.reg none [⟨some 76, none, .q (.ld none (.t 5))⟩, ⟨some 77, none, .q (.ld (some 4) (.t 11))⟩, ⟨some 78, none, .q (.mkf 116 [(.t 3), (.t 10), (.t 5)])⟩, ⟨some 79, none, .call (.f 115) [(.t 76), (.t 77), (.t 78)]⟩]))))
      (.keep [3, 5, 69, 70, 71]
      (.reg none [⟨some 80, none, .q (.bin .add (.t 71) (.c (.i .i64 1)))⟩, ⟨some 71, none, .q (.mv (.t 80))⟩]))))))))))))
  (.seq (.reg none [⟨some 81, none, .q (.ld none (.t 5))⟩, ⟨some 82, none, .q (.nck (.t 81))⟩, ⟨some 83, none, .q (.fa 0 (.t 82))⟩, ⟨some 84, none, .q (.ld none (.t 83))⟩, ⟨some 85, none, .call (.f 118) [(.t 84)]⟩, ⟨some 86, none, .call (.f 117) [(.t 85)]⟩, ⟨some 12, none, .m (.alloc (.g [(.i .u8 0), (.i .u8 0), (.i .u8 0), (.i .u8 0)]))⟩, ⟨none, none, .m (.st 4 (.t 12) (.t 86))⟩])
  (.keep [5, 12]
  (.seq (.reg (some (4, [0, 1, 2, 3])) [⟨some 87, none, .q (.ld none (.t 5))⟩, ⟨some 88, none, .q (.nck (.t 87))⟩, ⟨some 89, none, .q (.fa 0 (.t 88))⟩, ⟨some 90, none, .q (.ld none (.t 89))⟩, ⟨some 91, none, .m (.sla 4 (.t 12))⟩, ⟨some 92, none, .m (.app 1 1 (.t 90) (.t 91))⟩, ⟨some 4, none, .q (.mv (.t 92))⟩])
  .ret))))))))))))))))))
theorem r80 : (Try.f80.body.bind (resC Try.prog Try.f80.ntmps)) = some (strip c80) := by kernel_rfl
theorem s80 : Try.f80.results.toList.mapM (resRes Try.prog) = some [.t 4] := by kernel_rfl
/-- scarab/code.written$1 -/
def c116 : ACode :=
  (.reg (some (8, [])) [⟨some 5, none, .q (.ld none (.t 1))⟩, ⟨some 6, none, .q (.ld none (.t 2))⟩, ⟨some 7, none, .q (.mv (.t 0))⟩, ⟨some 8, none, .q (.ld none (.t 3))⟩, ⟨some 9, none, .q (.nck (.t 8))⟩, ⟨some 10, none, .q (.fa 0 (.t 9))⟩, ⟨some 11, none, .q (.ld none (.t 10))⟩, ⟨some 12, none, .q (.len false (.t 11))⟩, ⟨some 13, none, .call (.t 5) [(.t 6), (.t 7), (.t 12)]⟩])
theorem r116 : (Try.f116.body.bind (resC Try.prog Try.f116.ntmps)) = some (strip c116) := by kernel_rfl
theorem s116 : Try.f116.results.toList.mapM (resRes Try.prog) = some [] := by kernel_rfl
theorem headW_len (f : Func) : True := trivial
end Go.Sc.Cw
/- Chapter 04: whether a program is right, by the program. No condition. -/
set_option linter.constructorNameAsVariable false
namespace Go.Sc.Cw
open Go Go.RowKit Go.Av Go.Proofs Go.Sc.Oct
set_option linter.unusedSimpArgs false
set_option linter.unusedVariables false
/-- scarab/code.right -/
def c79 : ACode :=
  (.seq (.reg none [⟨some 1, none, .m (.box (.t 0))⟩, ⟨some 2, none, .q (.mv (.c (.b false)))⟩])
  (.keep [1]
  (.seq (.reg none [⟨some 6, none, .q (.ld (some 4) (.t 1))⟩, ⟨some 7, none, .call (.f 44) [(.t 6)]⟩, ⟨some 5, none, .q (.mv (.t 7))⟩, ⟨some 8, none, .q (.ext 0 (.t 5))⟩, ⟨some 9, none, .q (.ext 1 (.t 5))⟩, ⟨some 4, none, .m (.alloc (.g [(.i .i64 0), (.i .i64 0)]))⟩, ⟨some 3, none, .q (.mv (.t 8))⟩, ⟨none, none, .m (.st 2 (.t 4) (.t 9))⟩])
  (.keep [3]
  (.seq (.reg none [⟨some 10, none, .q (.mv (.t 3))⟩, ⟨some 11, none, .q (.bin .eql (.t 10) (.c (.i .i64 0)))⟩, ⟨some 2, none, .q (.mv (.t 11))⟩])
  .ret)))))
theorem r79 : (Try.f79.body.bind (resC Try.prog Try.f79.ntmps)) = some (strip c79) := by kernel_rfl
theorem s79 : Try.f79.results.toList.mapM (resRes Try.prog) = some [.t 2] := by kernel_rfl
theorem right_w (p : Prog) (hp : p.Ok) : PureS Try.prog 79 [.g p.row] (.b (decide ((check p).1 = 0))) := by
  refine fun_go hmx Try.func79 r79 s79 (by rw [Try.ntmps79]; simp) ?_
  unfold c79
  simp [Prog.row]
  refine callk rfl Try.call44 (Q03.check21 p hp) rfl ?_
  simp [told]
  rw [Bool.eq_iff_iff]; simp
end Go.Sc.Cw
/- Chapter 04: programs in bytes, by the program (W). No condition. -/
set_option linter.constructorNameAsVariable false
namespace Go.Sc.Cw
open Go Go.RowKit Go.Av Go.Proofs Go.Sc.Oct
set_option linter.unusedSimpArgs false
set_option linter.unusedVariables false
/-- scarab/code.Where$1 -/
def c105 : ACode :=
  (.seq (.reg none [⟨some 9, none, .q (.mv (.t 0))⟩, ⟨some 10, none, .q (.ld none (.t 3))⟩, ⟨some 11, none, .q (.bin .eql (.t 9) (.t 10))⟩, ⟨some 12, none, .q (.mv (.t 11))⟩, ⟨some 13, some (12, true), .q (.mv (.t 1))⟩, ⟨some 14, some (12, true), .q (.ld none (.t 4))⟩, ⟨some 15, some (12, true), .q (.bin .eql (.t 13) (.t 14))⟩, ⟨some 16, none, .pk (.t 12) (.t 15) (.c (.b false))⟩])
  (.keep [2, 5, 16]
  (.cond (.t 16) (.reg none [⟨some 17, none, .q (.mv (.t 2))⟩, ⟨none, none, .m (.st 1 (.t 5) (.t 17))⟩])
  .skip)))
theorem r105 : (Try.f105.body.bind (resC Try.prog Try.f105.ntmps)) = some (strip c105) := by kernel_rfl
theorem s105 : Try.f105.results.toList.mapM (resRes Try.prog) = some [] := by kernel_rfl
/-- Told where the instruction pc0 of function f0 begins. -/
def stepW (f0 pc0 s g pc place : Int) : Int := if g = f0 ∧ pc = pc0 then place else s
def objsW (f0 pc0 s : Int) : List AObj := [.var [.v (.i .i64 f0)], .var [.v (.i .i64 pc0)], .var [.v (.i .i64 s)]]
def seeW (o : Nat) : RV := .fr 105 [.pt o 0 0 0, .pt (o + 1) 0 0 0, .pt (o + 2) 0 0 0]
def gtW (f0 pc0 g pc : Int) : Prop := True
theorem see_ok_W (f0 pc0 s g pc : Int) (place : Nat) (hg : gtW f0 pc0 g pc) (hpl : place ≤ 549755813888) : CallS Try.prog 105 [.v (.i .i64 g), .v (.i .i64 pc), .v (.i .i64 place), .pt 0 0 0 0, .pt 1 0 0 0, .pt 2 0 0 0] (objsW f0 pc0 s) fun r K => K = objsW f0 pc0 (stepW f0 pc0 s g pc place) := by
  refine fun_cut 3 hmx Try.func105 r105 s105 (by rw [Try.ntmps105]; simp) (by first | exact Nat.le_refl _ | decide | simp) ?_
  unfold c105
  simp [objsW, stepW]
  refine ⟨fun h1 h2 => ?_, fun h => ?_⟩
  · simp [h1, h2]
  · by_cases h1 : g = f0
    · have h2 := h h1
      simp [h2]
    · simp [h1]

/-- What a function's code tells. -/
def codeSW (f0 pc0 : Int) (g : Int) : Nat → Nat → List Instr → Int → Int
  | _, _, [], s => s
  | pc, place, i :: r, s => codeSW f0 pc0 g (pc + 1) (place + (instrW i).length) r (stepW f0 pc0 s g pc place)
def envHW (f0 pc0 : Int) (v : Nat) (bs : List UInt8) (g : Int) (s : Int) : List AObj := wH v bs ++ [.var [.pt 0 0 0 0], .var [seeW 5], .var [.v (.i .i64 g)]] ++ objsW f0 pc0 s

theorem inner_W (f0 pc0 : Int) (v : Nat) (bs : List UInt8) (g pc : Int) (s : Int) (hg : gtW f0 pc0 g pc) (hb : bs.length ≤ 549755813888) : CallS Try.prog 116 [.v (.i .i64 pc), .pt 3 0 0 0, .pt 4 0 0 0, .pt 2 0 0 0] (envHW f0 pc0 v bs g s) fun r K => K = envHW f0 pc0 v bs g (stepW f0 pc0 s g pc bs.length) := by
  refine fun_cut 8 hmx Try.func116 r116 s116 (by rw [Try.ntmps116]; simp) (by first | exact Nat.le_refl _ | decide | simp) ?_
  unfold c116
  simp [envHW, wH, objsW, seeW]
  refine callf [5, 6, 7] rfl Try.call105 (see_ok_W f0 pc0 s g pc bs.length hg hb) (by decide) rfl (by simp) (by simp [objsW]) (by simp) ?_
  rintro r K rfl
  simp [objsW]

theorem fun_W (f0 pc0 : Int) (v : Nat) (bs : List UInt8) (g : Int) (s : Int) (f : Func) (hG : ∀ i : Nat, i < f.code.length → gtW f0 pc0 g i) (hf : f.Ok) (hc : ∀ i ∈ f.code, form i.op ≠ []) (hb : bs.length + (funW f).length ≤ 549755813888) :
    CallS Try.prog 115 [.pt 0 0 0 0, .v (.g f.row), .fr 116 [.pt 3 0 0 0, .pt 4 0 0 0, .pt 2 0 0 0]] (envHW f0 pc0 v bs g s) fun r K => ∃ v', K = envHW f0 pc0 v' (bs ++ funW f) g (codeSW f0 pc0 g 0 (bs.length + (headW f).length) f.code s) := by
  refine fun_cut 8 hmx Try.func115 r115 s115 (by rw [Try.ntmps115]; simp) (by first | exact Nat.le_refl _ | decide | simp) ?_
  unfold c115
  have hb' : bs.length + ((numW f.params).length + ((numW f.regs).length + ((numW f.selects.length).length + ((selsW f.selects).length + ((numW f.code.length).length + (codeW f.code).length))))) ≤ 549755813888 := by
    simp [funW, headW] at hb; omega
  simp [envHW, wH, objsW, seeW, Func.row, -List.map_append, -List.append_assoc]
  refine callf [0, 1] rfl Try.call112 (num_w f.params v bs (by omega)) (by decide) rfl (by simp) (by simp [wH]) (by simp) ?_
  rintro _ _ ⟨v1, rfl⟩
  simp [wH, -List.map_append, -List.append_assoc]
  refine callf [0, 1] rfl Try.call112 (num_w f.regs v1 (bs ++ numW f.params) (by simp; omega)) (by decide) rfl (by simp) (by simp [wH]) (by simp) ?_
  rintro _ _ ⟨v2, rfl⟩
  simp [wH, -List.map_append, -List.append_assoc]
  refine callf [0, 1] rfl Try.call112 (num_w f.selects.length v2 (bs ++ numW f.params ++ numW f.regs) (by simp; omega)) (by decide) rfl (by simp) (by simp [wH]) (by simp) ?_
  rintro _ _ ⟨v3, rfl⟩
  simp [wH, -List.map_append, -List.append_assoc]
  have hsl : f.selects.length < 9223372036854775807 := hf.fews.lt (by decide)
  have hcl : f.code.length < 9223372036854775807 := hf.few.lt (by decide)
  generalize hA3 : bs ++ numW f.params ++ numW f.regs ++ numW f.selects.length = A3
  have lA3 : A3.length = bs.length + (numW f.params).length + (numW f.regs).length + (numW f.selects.length).length := by rw [← hA3]; simp; omega
  refine go_each hmx 9 28 f.selects (fun (_ : Nat × List UInt8) => []) (fun t => envHW f0 pc0 t.1 t.2 g s ++ [.var (f.row.map .v)]) (fun i t rest => t.2 ++ selsW rest = A3 ++ selsW f.selects ∧ ∀ x ∈ rest, x.Ok) (v3, A3) hsl (by simp [envHW, wH, objsW]) rfl (by simp [envHW, wH, objsW, seeW, Func.row, -List.map_append, -List.append_assoc]) (by simp) (by simp) (by simp [envHW, wH, objsW, seeW, Func.row]) ⟨rfl, hf.sel⟩ ?_ ?_
  · rintro i x rest ⟨u, b⟩ hi hx hr ⟨hj, hok⟩ hw
    simp only at hj hok
    have hx' := hok x (by simp)
    have hok' : ∀ y ∈ rest, y.Ok := fun y hy => hok y (by simp [hy])
    have lj := congrArg List.length hj
    simp only [selsW, selW, List.length_append] at lj
    have hcasel : x.cases.length < 9223372036854775807 := hx'.few.lt (by decide)
    simp [hi, hx, hw, envHW, wH, objsW, seeW, Select.row, -List.map_append, -List.append_assoc]
    refine callf [0, 1] rfl Try.call112 (num_w x.cases.length u b (by omega)) (by decide) rfl (by simp) (by simp [wH]) (by simp) ?_
    rintro _ _ ⟨u1, rfl⟩
    simp [wH, -List.map_append, -List.append_assoc]
    refine go_each hmx 10 40 x.cases (fun (_ : Nat × List UInt8) => []) (fun t => envHW f0 pc0 t.1 t.2 g s ++ [.var (f.row.map .v), .var (x.row.map .v)]) (fun i t rest => t.2 ++ casesW rest = (b ++ numW x.cases.length) ++ casesW x.cases) (u1, b ++ numW x.cases.length) hcasel (by simp [envHW, wH, objsW]) rfl (by simp [envHW, wH, objsW, seeW, Func.row, Select.row, -List.map_append, -List.append_assoc]) (by simp) (by simp) (by simp [envHW, wH, objsW, seeW, Func.row, Select.row]) rfl ?_ ?_
    · rintro i2 y rest2 ⟨u', b'⟩ hi2 hy hr2 hj2 hw2
      simp only at hj2
      have lj2 := congrArg List.length hj2
      simp only [casesW, caseW, List.length_append] at lj2
      simp [hi2, hy, hw2, envHW, wH, objsW, seeW, Case.row, -List.map_append, -List.append_assoc]
      refine callf [0, 1] rfl Try.call113 (truth_w y.send u' b' (by omega)) (by decide) rfl (by simp) (by simp [wH]) (by simp) ?_
      rintro _ _ ⟨w1, rfl⟩
      simp [wH, -List.map_append, -List.append_assoc]
      refine callf [0, 1] rfl Try.call112 (num_w y.chan w1 (b' ++ flagW y.send) (by simp; omega)) (by decide) rfl (by simp) (by simp [wH]) (by simp) ?_
      rintro _ _ ⟨w2, rfl⟩
      simp [wH, -List.map_append, -List.append_assoc]
      refine callf [0, 1] rfl Try.call112 (num_w (IntKind.i64.wrap (y.reg + 1)) w2 (b' ++ flagW y.send ++ numW y.chan) (by rw [num_wrap]; simp; omega)) (by decide) rfl (by simp) (by simp [wH]) (by simp) ?_
      rintro _ _ ⟨w3, rfl⟩
      simp [wH, -List.map_append, -List.append_assoc, num_wrap]
      refine callf [0, 1] rfl Try.call112 (num_w y.to w3 (b' ++ flagW y.send ++ numW y.chan ++ numW (y.reg + 1)) (by simp; omega)) (by decide) rfl (by simp) (by simp [wH]) (by simp) ?_
      rintro _ _ ⟨w4, rfl⟩
      simp [wH, -List.map_append, -List.append_assoc]
      exact ⟨hw2, w4, _, ⟨rfl, rfl⟩, by rw [← hj2]; simp [casesW, caseW]⟩
    · rintro ⟨u', b'⟩ hj2
      simp only [casesW, List.append_nil] at hj2
      subst hj2
      simp [envHW, wH, objsW, seeW, Select.row, -List.map_append, -List.append_assoc]
      refine callf [0, 1] rfl Try.call112 (num_w (IntKind.i64.wrap (x.els + 1)) u' (b ++ numW x.cases.length ++ casesW x.cases) (by rw [num_wrap]; simp; omega)) (by decide) rfl (by simp) (by simp [wH]) (by simp) ?_
      rintro _ _ ⟨w1, rfl⟩
      simp [wH, -List.map_append, -List.append_assoc, num_wrap]
      exact ⟨hw, w1, _, ⟨rfl, rfl⟩, by rw [← hj]; simp [selsW, selW], hok'⟩
  · rintro ⟨u, b⟩ ⟨hj, _⟩
    simp only [selsW, List.append_nil] at hj
    subst hj
    simp [envHW, wH, objsW, seeW, Func.row, -List.map_append, -List.append_assoc]
    refine callf [0, 1] rfl Try.call112 (num_w f.code.length u (A3 ++ selsW f.selects) (by simp; omega)) (by decide) rfl (by simp) (by simp [wH]) (by simp) ?_
    rintro _ _ ⟨u1, rfl⟩
    simp [wH, -List.map_append, -List.append_assoc]
    have hA5 : A3 ++ selsW f.selects ++ numW f.code.length = bs ++ headW f := by rw [← hA3]; simp [headW]
    rw [hA5]
    have lA5 : (bs ++ headW f).length + (codeW f.code).length ≤ 549755813888 := by simp [headW]; omega
    refine go_each hmx 9 76 f.code (fun (_ : Nat × List UInt8 × Int) => []) (fun t => envHW f0 pc0 t.1 t.2.1 g t.2.2 ++ [.var (f.row.map .v)]) (fun i t rest => t.2.1 ++ codeW rest = (bs ++ headW f) ++ codeW f.code ∧ codeSW f0 pc0 g i t.2.1.length rest t.2.2 = codeSW f0 pc0 g 0 (bs ++ headW f).length f.code s ∧ ∀ y ∈ rest, form y.op ≠ [] ∧ (I64 y.op ∧ I64 y.a ∧ I64 y.b ∧ I64 y.c ∧ I64 y.n)) (u1, bs ++ headW f, s) hcl (by simp [envHW, wH, objsW]) rfl (by simp [envHW, wH, objsW, seeW, Func.row, -List.map_append, -List.append_assoc]) (by simp) (by simp) (by simp [envHW, wH, objsW, seeW, Func.row]) ⟨rfl, rfl, fun y hy => ⟨hc y hy, hf.code y hy⟩⟩ ?_ ?_
    · rintro i x rest ⟨w, b, t⟩ hi hx hr ⟨hj, hs, hok⟩ hw
      simp only at hj hs hok
      obtain ⟨hxf, hxi⟩ := hok x (by simp)
      have hok' : ∀ y ∈ rest, form y.op ≠ [] ∧ (I64 y.op ∧ I64 y.a ∧ I64 y.b ∧ I64 y.c ∧ I64 y.n) := fun y hy => hok y (by simp [hy])
      have lj := congrArg List.length hj
      simp only [codeW, List.length_append] at lj
      simp only [List.length_append] at lA5
      simp [hi, hx, hw, envHW, wH, objsW, seeW, Instr.row, -List.map_append, -List.append_assoc]
      refine callf [0, 1, 2, 3, 4, 5, 6, 7] rfl Try.call116 (inner_W f0 pc0 w b g i t (hG i hi) (by omega)) (by decide) rfl (by simp) (by simp [envHW, wH, objsW, seeW, -List.map_append, -List.append_assoc]) (by simp) ?_
      rintro _ _ rfl
      simp [envHW, wH, objsW, seeW, -List.map_append, -List.append_assoc]
      refine callf [0, 1] rfl Try.call98 (instr_w x hxf hxi.2 w b (by omega)) (by decide) rfl (by simp) (by simp [wH]) (by simp [Instr.row]) ?_
      rintro _ _ ⟨w2, rfl⟩
      simp [wH, -List.map_append, -List.append_assoc]
      have q1 : b ++ instrW x ++ codeW rest = bs ++ headW f ++ codeW f.code := by rw [← hj]; simp [codeW]
      have q2 : codeSW f0 pc0 g (i + 1) (b ++ instrW x).length rest (stepW f0 pc0 t g i b.length) = codeSW f0 pc0 g 0 (bs ++ headW f).length f.code s := by rw [← hs]; simp [codeSW]
      simp only [List.length_append] at q2
      first
        | exact ⟨hw, w2, _, _, ⟨rfl, ⟨rfl, rfl⟩, rfl⟩, q1, by simpa using q2, hok'⟩
        | exact ⟨hw, w2, _, _, _, _, ⟨rfl, ⟨rfl, rfl⟩, ⟨rfl, rfl⟩, rfl⟩, q1, by simpa using q2, hok'⟩
        | exact ⟨hw, w2, _, ⟨rfl, rfl⟩, q1, ⟨_, by simpa using q2⟩, hok'⟩
        | exact ⟨hw, w2, b ++ instrW x, stepW f0 pc0 t g i b.length, ⟨rfl, ⟨rfl, rfl⟩, ⟨rfl, rfl⟩, rfl⟩, q1, by simpa using q2, hok'⟩
    · rintro ⟨w, b, t⟩ ⟨hj, hs, _⟩
      simp only [codeW, List.append_nil] at hj
      simp only [codeSW] at hs
      subst hj
      subst hs
      simp [envHW, wH, objsW, seeW, funW]

/-- What a program's code tells. -/
def funsSW (f0 pc0 : Int) : Nat → Nat → List Func → Int → Int
  | _, _, [], s => s
  | g, place, f :: r, s => funsSW f0 pc0 (g + 1) (place + (funW f).length) r (codeSW f0 pc0 g 0 (place + (headW f).length) f.code s)
/-- A program's bytes ahead of its functions. -/
theorem written_W (f0 pc0 : Int) (s : Int) (p : Prog) (hG : ∀ (k : Nat) f, p.funcs[k]? = some f → ∀ i : Nat, i < f.code.length → gtW f0 pc0 k i) (hp : p.Ok) (hc : ∀ f ∈ p.funcs, ∀ i ∈ f.code, form i.op ≠ []) (hb : (bodyW p).length ≤ 549755813888) :
    CallS Try.prog 80 [.v (.g p.row), seeW 0] (objsW f0 pc0 s) fun r K => ∃ v, r = .os 3 v ∧ K = objsW f0 pc0 (funsSW f0 pc0 0 (preW p).length p.funcs s) ++ [.arr v 1 (vrows ((progW p).map brow))] := by
  refine fun_sel [0, 1, 2, 5] hmx Try.func80 r80 s80 (by rw [Try.ntmps80]; simp) (by decide) (by intro o ho; have ho' : o < 3 := ho; clear ho; revert ho'; revert o; decide) ?_
  unfold c80
  have hb' : 5 + ((numW p.vars.length).length + ((varsW p.vars).length + ((numW p.locks).length + ((numW p.chans.length).length + ((chansW p.chans).length + ((numW p.funcs.length).length + (funsW p.funcs).length)))))) ≤ 549755813888 := by
    simp [bodyW, magicB] at hb; omega
  have hvl : p.vars.length < 9223372036854775807 := hp.fewv.lt (by decide)
  have hcl : p.chans.length < 9223372036854775807 := hp.fewc.lt (by decide)
  have hfl : p.funcs.length < 9223372036854775807 := hp.fewf.lt (by decide)
  have hml : magicB.length = 5 := rfl
  simp [objsW, seeW, Prog.row, -List.map_append, -List.append_assoc]
  refine callo rfl Try.call83 magic_w (flat_rows brow_flat) trivial ?_
  simp [-List.map_append, -List.append_assoc]
  refine callf [6, 5] rfl Try.call112 (num_w p.vars.length 0 magicB (by omega)) (by decide) rfl (by simp) (by simp [wH]) (by simp) ?_
  rintro _ _ ⟨v1, rfl⟩
  simp [wH, -List.map_append, -List.append_assoc]
  generalize hA1 : magicB ++ numW p.vars.length = A1
  have lA1 : A1.length = 5 + (numW p.vars.length).length := by rw [← hA1]; simp [hml]
  refine go_each hmx 8 24 p.vars (fun (_ : Nat × List UInt8) => []) (fun t => objsW f0 pc0 s ++ [.var (p.row.map .v), .var [seeW 0], .arr t.1 1 (vrows (t.2.map brow)), .var [.os 5 t.1], .var [.pt 6 0 0 0]]) (fun i t rest => t.2 ++ varsW rest = A1 ++ varsW p.vars ∧ ∀ x ∈ rest, I64 x.init) (v1, A1) hvl (by simp [objsW]) rfl (by simp [objsW, seeW, Prog.row, -List.map_append, -List.append_assoc]) (by simp) (by simp) (by simp [objsW, seeW, Prog.row]) ⟨rfl, hp.vars⟩ ?_ ?_
  · rintro i x rest ⟨u, b⟩ hi hx hr ⟨hj, hok⟩ hw
    simp only at hj hok
    have hx' := hok x (by simp)
    have hok' : ∀ y ∈ rest, I64 y.init := fun y hy => hok y (by simp [hy])
    have lj := congrArg List.length hj
    simp only [varsW, List.length_append] at lj
    simp [hi, hx, hw, objsW, seeW, Var.row, -List.map_append, -List.append_assoc]
    refine callf [6, 5] rfl Try.call113 (truth_w x.atomic u b (by omega)) (by decide) rfl (by simp) (by simp [wH]) (by simp) ?_
    rintro _ _ ⟨w1, rfl⟩
    simp [wH, -List.map_append, -List.append_assoc]
    refine callvs 5 rfl Try.call114 (putIO (b ++ flagW x.atomic) x.init (by simp; omega) hx') (flat_rows brow_flat) rfl ⟨frz_rows rfl, .v _, trivial⟩ ?_
    simp [-List.map_append, -List.append_assoc]
    exact ⟨hw, w1 + 1, _, ⟨⟨rfl, rfl⟩, rfl⟩, by rw [← hj]; simp [varsW], hok'⟩
  rintro ⟨u, b⟩ ⟨hj, _⟩
  simp only [varsW, List.append_nil] at hj
  subst hj
  simp [objsW, seeW, Prog.row, -List.map_append, -List.append_assoc]
  refine callf [6, 5] rfl Try.call112 (num_w p.locks u (A1 ++ varsW p.vars) (by simp; omega)) (by decide) rfl (by simp) (by simp [wH]) (by simp) ?_
  rintro _ _ ⟨v2, rfl⟩
  simp [wH, -List.map_append, -List.append_assoc]
  refine callf [6, 5] rfl Try.call112 (num_w p.chans.length v2 (A1 ++ varsW p.vars ++ numW p.locks) (by simp; omega)) (by decide) rfl (by simp) (by simp [wH]) (by simp) ?_
  rintro _ _ ⟨v3, rfl⟩
  simp [wH, -List.map_append, -List.append_assoc]
  generalize hA2 : A1 ++ varsW p.vars ++ numW p.locks ++ numW p.chans.length = A2
  have lA2 : A2.length = A1.length + (varsW p.vars).length + (numW p.locks).length + (numW p.chans.length).length := by rw [← hA2]; simp; omega
  refine go_each hmx 8 55 p.chans (fun (_ : Nat × List UInt8) => []) (fun t => objsW f0 pc0 s ++ [.var (p.row.map .v), .var [seeW 0], .arr t.1 1 (vrows (t.2.map brow)), .var [.os 5 t.1], .var [.pt 6 0 0 0]]) (fun i t rest => t.2 ++ chansW rest = A2 ++ chansW p.chans) (v3, A2) hcl (by simp [objsW]) rfl (by simp [objsW, seeW, Prog.row, -List.map_append, -List.append_assoc]) (by simp) (by simp) (by simp [objsW, seeW, Prog.row]) rfl ?_ ?_
  · rintro i x rest ⟨u', b⟩ hi hx hr hj hw
    simp only at hj
    have lj := congrArg List.length hj
    simp only [chansW, List.length_append] at lj
    simp [hi, hx, hw, objsW, seeW, irow, -List.map_append, -List.append_assoc]
    refine callf [6, 5] rfl Try.call112 (num_w x u' b (by omega)) (by decide) rfl (by simp) (by simp [wH]) (by simp) ?_
    rintro _ _ ⟨w1, rfl⟩
    simp [wH, -List.map_append, -List.append_assoc]
    exact ⟨hw, w1, _, ⟨⟨rfl, rfl⟩, rfl⟩, by rw [← hj]; simp [chansW]⟩
  rintro ⟨u', b⟩ hj
  simp only [chansW, List.append_nil] at hj
  subst hj
  simp [objsW, seeW, Prog.row, -List.map_append, -List.append_assoc]
  refine callf [6, 5] rfl Try.call112 (num_w p.funcs.length u' (A2 ++ chansW p.chans) (by simp; omega)) (by decide) rfl (by simp) (by simp [wH]) (by simp) ?_
  rintro _ _ ⟨v4, rfl⟩
  simp [wH, -List.map_append, -List.append_assoc]
  have hA3 : A2 ++ chansW p.chans ++ numW p.funcs.length = preW p := by rw [← hA2, ← hA1]; simp [preW]
  have lA3 : (preW p).length + (funsW p.funcs).length ≤ 549755813888 := by rw [← hA3]; simp; omega
  rw [hA3]
  refine go_each hmx 8 71 p.funcs (fun (_ : Nat × List UInt8 × Int) => []) (fun t => objsW f0 pc0 t.2.2 ++ [.var (p.row.map .v), .var [seeW 0], .arr t.1 1 (vrows (t.2.1.map brow)), .var [.os 5 t.1], .var [.pt 6 0 0 0]]) (fun i t rest => t.2.1 ++ funsW rest = preW p ++ funsW p.funcs ∧ funsSW f0 pc0 i t.2.1.length rest t.2.2 = funsSW f0 pc0 0 (preW p).length p.funcs s ∧ ∀ f ∈ rest, f.Ok ∧ ∀ i ∈ f.code, form i.op ≠ []) (v4, preW p, s) hfl (by simp [objsW]) rfl (by simp [objsW, seeW, Prog.row, -List.map_append, -List.append_assoc]) (by simp) (by simp) (by simp [objsW, seeW, Prog.row]) ⟨rfl, rfl, fun f hf => ⟨hp.funcs f hf, hc f hf⟩⟩ ?_ ?_
  · rintro i x rest ⟨w, b, t⟩ hi hx hr ⟨hj, hs, hok⟩ hw
    simp only at hj hs hok
    obtain ⟨hx1, hx2⟩ := hok x (by simp)
    have hok' : ∀ y ∈ rest, y.Ok ∧ ∀ i ∈ y.code, form i.op ≠ [] := fun y hy => hok y (by simp [hy])
    have lj := congrArg List.length hj
    simp only [funsW, List.length_append] at lj
    simp [hi, hx, hw, objsW, seeW, Func.row, -List.map_append, -List.append_assoc]
    refine callf [6, 5, 7, 4, 8, 0, 1, 2] rfl Try.call115 (fun_W f0 pc0 w b i t x (hG i x (by rw [List.getElem?_eq_getElem hi, hx])) hx1 hx2 (by omega)) (by decide) rfl (by simp) (by simp [envHW, wH, objsW, seeW, -List.map_append, -List.append_assoc]) (by simp [Func.row]) ?_
    rintro _ _ ⟨w2, rfl⟩
    simp [envHW, wH, objsW, seeW, -List.map_append, -List.append_assoc]
    have q1 : b ++ funW x ++ funsW rest = preW p ++ funsW p.funcs := by rw [← hj]; simp [funsW]
    have q2 : funsSW f0 pc0 (i + 1) (b ++ funW x).length rest (codeSW f0 pc0 i 0 (b.length + (headW x).length) x.code t) = funsSW f0 pc0 0 (preW p).length p.funcs s := by rw [← hs]; simp [funsSW]
    simp only [List.length_append] at q2
    first
      | exact ⟨hw, w2, _, ⟨⟨rfl, rfl⟩, rfl⟩, q1, ⟨_, by simpa using q2⟩, hok'⟩
      | exact ⟨hw, w2, _, _, ⟨rfl, ⟨rfl, rfl⟩, rfl⟩, q1, by simpa using q2, hok'⟩
      | exact ⟨hw, w2, _, _, ⟨⟨rfl, rfl⟩, rfl, rfl⟩, q1, by simpa using q2, hok'⟩
      | exact ⟨hw, w2, _, _, ⟨⟨rfl, rfl⟩, rfl⟩, q1, by simpa using q2, hok'⟩
      | exact ⟨hw, w2, b ++ funW x, codeSW f0 pc0 i 0 (b.length + (headW x).length) x.code t, ⟨⟨rfl, rfl⟩, rfl, ⟨rfl, rfl⟩, rfl⟩, q1, by simpa using q2, hok'⟩
  rintro ⟨w, b, t⟩ ⟨hj, hs, _⟩
  simp only [funsW, List.append_nil] at hj
  simp only [funsSW] at hs
  subst hj
  subst hs
  have hB : preW p ++ funsW p.funcs = bodyW p := by simp [preW, bodyW]
  simp [objsW, seeW, -List.map_append, -List.append_assoc, hB]
  refine callz rfl Try.call118 (sumO (bodyW p) (by omega)) (.i _ _) ⟨frz_rows rfl, trivial⟩ ?_
  simp [-List.map_append, -List.append_assoc]
  refine callk rfl Try.call117 (fixO (sumN (bodyW p)) (sumN_lt _)) rfl ?_
  have hrows : vrows ((progW p).map brow) = vrows ((bodyW p).map brow) ++ vrows ((fixN (sumN (bodyW p))).map brow) := by rw [progW, List.map_append, vrows_app]
  rw [hrows]
  simp [-List.map_append, -List.append_assoc, fixN, bval]
  have hsl := sumN_lt (bodyW p)
  refine ⟨⟨by omega, by omega⟩, ?_⟩
  simp [brow]
  try omega
  try decide
  try exact ⟨by decide, rfl⟩
end Go.Sc.Cw
/- Chapter 04: programs in bytes, by the program (E). No condition. -/
set_option linter.constructorNameAsVariable false
namespace Go.Sc.Cw
open Go Go.RowKit Go.Av Go.Proofs Go.Sc.Oct
set_option linter.unusedSimpArgs false
set_option linter.unusedVariables false
/-- scarab/code.Encode$1 -/
def c81 : ACode :=
  .skip
theorem r81 : (Try.f81.body.bind (resC Try.prog Try.f81.ntmps)) = some (strip c81) := by kernel_rfl
theorem s81 : Try.f81.results.toList.mapM (resRes Try.prog) = some [] := by kernel_rfl
/-- Nothing is told. -/
def stepE (s g pc place : Int) : Int := s
def objsE (s : Int) : List AObj := []
def seeE (o : Nat) : RV := .v (.fn 81 [])
def gtE (g pc : Int) : Prop := True
theorem see_ok_E (s g pc : Int) (place : Nat) (hg : gtE g pc) (hpl : place ≤ 549755813888) : CallS Try.prog 81 [.v (.i .i64 g), .v (.i .i64 pc), .v (.i .i64 place)] (objsE s) fun r K => K = objsE (stepE s g pc place) := by
  refine fun_cut 0 hmx Try.func81 r81 s81 (by rw [Try.ntmps81]; simp) (by first | exact Nat.le_refl _ | decide | simp) ?_
  unfold c81
  simp [objsE]

/-- What a function's code tells. -/
def codeSE (g : Int) : Nat → Nat → List Instr → Int → Int
  | _, _, [], s => s
  | pc, place, i :: r, s => codeSE g (pc + 1) (place + (instrW i).length) r (stepE s g pc place)
def envHE (v : Nat) (bs : List UInt8) (g : Int) (s : Int) : List AObj := wH v bs ++ [.var [.pt 0 0 0 0], .var [seeE 5], .var [.v (.i .i64 g)]] ++ objsE s

theorem inner_E (v : Nat) (bs : List UInt8) (g pc : Int) (s : Int) (hg : gtE g pc) (hb : bs.length ≤ 549755813888) : CallS Try.prog 116 [.v (.i .i64 pc), .pt 3 0 0 0, .pt 4 0 0 0, .pt 2 0 0 0] (envHE v bs g s) fun r K => K = envHE v bs g (stepE s g pc bs.length) := by
  refine fun_cut 5 hmx Try.func116 r116 s116 (by rw [Try.ntmps116]; simp) (by first | exact Nat.le_refl _ | decide | simp) ?_
  unfold c116
  simp [envHE, wH, objsE, seeE]
  refine callf [] rfl Try.call81 (see_ok_E s g pc bs.length hg hb) (by decide) rfl (by simp) (by simp [objsE]) (by simp) ?_
  rintro r K rfl
  simp [objsE]

theorem fun_E (v : Nat) (bs : List UInt8) (g : Int) (s : Int) (f : Func) (hG : ∀ i : Nat, i < f.code.length → gtE g i) (hf : f.Ok) (hc : ∀ i ∈ f.code, form i.op ≠ []) (hb : bs.length + (funW f).length ≤ 549755813888) :
    CallS Try.prog 115 [.pt 0 0 0 0, .v (.g f.row), .fr 116 [.pt 3 0 0 0, .pt 4 0 0 0, .pt 2 0 0 0]] (envHE v bs g s) fun r K => ∃ v', K = envHE v' (bs ++ funW f) g (codeSE g 0 (bs.length + (headW f).length) f.code s) := by
  refine fun_cut 5 hmx Try.func115 r115 s115 (by rw [Try.ntmps115]; simp) (by first | exact Nat.le_refl _ | decide | simp) ?_
  unfold c115
  have hb' : bs.length + ((numW f.params).length + ((numW f.regs).length + ((numW f.selects.length).length + ((selsW f.selects).length + ((numW f.code.length).length + (codeW f.code).length))))) ≤ 549755813888 := by
    simp [funW, headW] at hb; omega
  simp [envHE, wH, objsE, seeE, Func.row, -List.map_append, -List.append_assoc]
  refine callf [0, 1] rfl Try.call112 (num_w f.params v bs (by omega)) (by decide) rfl (by simp) (by simp [wH]) (by simp) ?_
  rintro _ _ ⟨v1, rfl⟩
  simp [wH, -List.map_append, -List.append_assoc]
  refine callf [0, 1] rfl Try.call112 (num_w f.regs v1 (bs ++ numW f.params) (by simp; omega)) (by decide) rfl (by simp) (by simp [wH]) (by simp) ?_
  rintro _ _ ⟨v2, rfl⟩
  simp [wH, -List.map_append, -List.append_assoc]
  refine callf [0, 1] rfl Try.call112 (num_w f.selects.length v2 (bs ++ numW f.params ++ numW f.regs) (by simp; omega)) (by decide) rfl (by simp) (by simp [wH]) (by simp) ?_
  rintro _ _ ⟨v3, rfl⟩
  simp [wH, -List.map_append, -List.append_assoc]
  have hsl : f.selects.length < 9223372036854775807 := hf.fews.lt (by decide)
  have hcl : f.code.length < 9223372036854775807 := hf.few.lt (by decide)
  generalize hA3 : bs ++ numW f.params ++ numW f.regs ++ numW f.selects.length = A3
  have lA3 : A3.length = bs.length + (numW f.params).length + (numW f.regs).length + (numW f.selects.length).length := by rw [← hA3]; simp; omega
  refine go_each hmx 6 28 f.selects (fun (_ : Nat × List UInt8) => []) (fun t => envHE t.1 t.2 g s ++ [.var (f.row.map .v)]) (fun i t rest => t.2 ++ selsW rest = A3 ++ selsW f.selects ∧ ∀ x ∈ rest, x.Ok) (v3, A3) hsl (by simp [envHE, wH, objsE]) rfl (by simp [envHE, wH, objsE, seeE, Func.row, -List.map_append, -List.append_assoc]) (by simp) (by simp) (by simp [envHE, wH, objsE, seeE, Func.row]) ⟨rfl, hf.sel⟩ ?_ ?_
  · rintro i x rest ⟨u, b⟩ hi hx hr ⟨hj, hok⟩ hw
    simp only at hj hok
    have hx' := hok x (by simp)
    have hok' : ∀ y ∈ rest, y.Ok := fun y hy => hok y (by simp [hy])
    have lj := congrArg List.length hj
    simp only [selsW, selW, List.length_append] at lj
    have hcasel : x.cases.length < 9223372036854775807 := hx'.few.lt (by decide)
    simp [hi, hx, hw, envHE, wH, objsE, seeE, Select.row, -List.map_append, -List.append_assoc]
    refine callf [0, 1] rfl Try.call112 (num_w x.cases.length u b (by omega)) (by decide) rfl (by simp) (by simp [wH]) (by simp) ?_
    rintro _ _ ⟨u1, rfl⟩
    simp [wH, -List.map_append, -List.append_assoc]
    refine go_each hmx 7 40 x.cases (fun (_ : Nat × List UInt8) => []) (fun t => envHE t.1 t.2 g s ++ [.var (f.row.map .v), .var (x.row.map .v)]) (fun i t rest => t.2 ++ casesW rest = (b ++ numW x.cases.length) ++ casesW x.cases) (u1, b ++ numW x.cases.length) hcasel (by simp [envHE, wH, objsE]) rfl (by simp [envHE, wH, objsE, seeE, Func.row, Select.row, -List.map_append, -List.append_assoc]) (by simp) (by simp) (by simp [envHE, wH, objsE, seeE, Func.row, Select.row]) rfl ?_ ?_
    · rintro i2 y rest2 ⟨u', b'⟩ hi2 hy hr2 hj2 hw2
      simp only at hj2
      have lj2 := congrArg List.length hj2
      simp only [casesW, caseW, List.length_append] at lj2
      simp [hi2, hy, hw2, envHE, wH, objsE, seeE, Case.row, -List.map_append, -List.append_assoc]
      refine callf [0, 1] rfl Try.call113 (truth_w y.send u' b' (by omega)) (by decide) rfl (by simp) (by simp [wH]) (by simp) ?_
      rintro _ _ ⟨w1, rfl⟩
      simp [wH, -List.map_append, -List.append_assoc]
      refine callf [0, 1] rfl Try.call112 (num_w y.chan w1 (b' ++ flagW y.send) (by simp; omega)) (by decide) rfl (by simp) (by simp [wH]) (by simp) ?_
      rintro _ _ ⟨w2, rfl⟩
      simp [wH, -List.map_append, -List.append_assoc]
      refine callf [0, 1] rfl Try.call112 (num_w (IntKind.i64.wrap (y.reg + 1)) w2 (b' ++ flagW y.send ++ numW y.chan) (by rw [num_wrap]; simp; omega)) (by decide) rfl (by simp) (by simp [wH]) (by simp) ?_
      rintro _ _ ⟨w3, rfl⟩
      simp [wH, -List.map_append, -List.append_assoc, num_wrap]
      refine callf [0, 1] rfl Try.call112 (num_w y.to w3 (b' ++ flagW y.send ++ numW y.chan ++ numW (y.reg + 1)) (by simp; omega)) (by decide) rfl (by simp) (by simp [wH]) (by simp) ?_
      rintro _ _ ⟨w4, rfl⟩
      simp [wH, -List.map_append, -List.append_assoc]
      exact ⟨hw2, w4, _, ⟨rfl, rfl⟩, by rw [← hj2]; simp [casesW, caseW]⟩
    · rintro ⟨u', b'⟩ hj2
      simp only [casesW, List.append_nil] at hj2
      subst hj2
      simp [envHE, wH, objsE, seeE, Select.row, -List.map_append, -List.append_assoc]
      refine callf [0, 1] rfl Try.call112 (num_w (IntKind.i64.wrap (x.els + 1)) u' (b ++ numW x.cases.length ++ casesW x.cases) (by rw [num_wrap]; simp; omega)) (by decide) rfl (by simp) (by simp [wH]) (by simp) ?_
      rintro _ _ ⟨w1, rfl⟩
      simp [wH, -List.map_append, -List.append_assoc, num_wrap]
      exact ⟨hw, w1, _, ⟨rfl, rfl⟩, by rw [← hj]; simp [selsW, selW], hok'⟩
  · rintro ⟨u, b⟩ ⟨hj, _⟩
    simp only [selsW, List.append_nil] at hj
    subst hj
    simp [envHE, wH, objsE, seeE, Func.row, -List.map_append, -List.append_assoc]
    refine callf [0, 1] rfl Try.call112 (num_w f.code.length u (A3 ++ selsW f.selects) (by simp; omega)) (by decide) rfl (by simp) (by simp [wH]) (by simp) ?_
    rintro _ _ ⟨u1, rfl⟩
    simp [wH, -List.map_append, -List.append_assoc]
    have hA5 : A3 ++ selsW f.selects ++ numW f.code.length = bs ++ headW f := by rw [← hA3]; simp [headW]
    rw [hA5]
    have lA5 : (bs ++ headW f).length + (codeW f.code).length ≤ 549755813888 := by simp [headW]; omega
    refine go_each hmx 6 76 f.code (fun (_ : Nat × List UInt8 × Int) => []) (fun t => envHE t.1 t.2.1 g t.2.2 ++ [.var (f.row.map .v)]) (fun i t rest => t.2.1 ++ codeW rest = (bs ++ headW f) ++ codeW f.code ∧ codeSE g i t.2.1.length rest t.2.2 = codeSE g 0 (bs ++ headW f).length f.code s ∧ ∀ y ∈ rest, form y.op ≠ [] ∧ (I64 y.op ∧ I64 y.a ∧ I64 y.b ∧ I64 y.c ∧ I64 y.n)) (u1, bs ++ headW f, s) hcl (by simp [envHE, wH, objsE]) rfl (by simp [envHE, wH, objsE, seeE, Func.row, -List.map_append, -List.append_assoc]) (by simp) (by simp) (by simp [envHE, wH, objsE, seeE, Func.row]) ⟨rfl, rfl, fun y hy => ⟨hc y hy, hf.code y hy⟩⟩ ?_ ?_
    · rintro i x rest ⟨w, b, t⟩ hi hx hr ⟨hj, hs, hok⟩ hw
      simp only at hj hs hok
      obtain ⟨hxf, hxi⟩ := hok x (by simp)
      have hok' : ∀ y ∈ rest, form y.op ≠ [] ∧ (I64 y.op ∧ I64 y.a ∧ I64 y.b ∧ I64 y.c ∧ I64 y.n) := fun y hy => hok y (by simp [hy])
      have lj := congrArg List.length hj
      simp only [codeW, List.length_append] at lj
      simp only [List.length_append] at lA5
      simp [hi, hx, hw, envHE, wH, objsE, seeE, Instr.row, -List.map_append, -List.append_assoc]
      refine callf [0, 1, 2, 3, 4] rfl Try.call116 (inner_E w b g i t (hG i hi) (by omega)) (by decide) rfl (by simp) (by simp [envHE, wH, objsE, seeE, -List.map_append, -List.append_assoc]) (by simp) ?_
      rintro _ _ rfl
      simp [envHE, wH, objsE, seeE, -List.map_append, -List.append_assoc]
      refine callf [0, 1] rfl Try.call98 (instr_w x hxf hxi.2 w b (by omega)) (by decide) rfl (by simp) (by simp [wH]) (by simp [Instr.row]) ?_
      rintro _ _ ⟨w2, rfl⟩
      simp [wH, -List.map_append, -List.append_assoc]
      have q1 : b ++ instrW x ++ codeW rest = bs ++ headW f ++ codeW f.code := by rw [← hj]; simp [codeW]
      have q2 : codeSE g (i + 1) (b ++ instrW x).length rest (stepE t g i b.length) = codeSE g 0 (bs ++ headW f).length f.code s := by rw [← hs]; simp [codeSE]
      simp only [List.length_append] at q2
      first
        | exact ⟨hw, w2, _, _, ⟨rfl, ⟨rfl, rfl⟩, rfl⟩, q1, by simpa using q2, hok'⟩
        | exact ⟨hw, w2, _, _, _, _, ⟨rfl, ⟨rfl, rfl⟩, ⟨rfl, rfl⟩, rfl⟩, q1, by simpa using q2, hok'⟩
        | exact ⟨hw, w2, _, ⟨rfl, rfl⟩, q1, ⟨_, by simpa using q2⟩, hok'⟩
        | exact ⟨hw, w2, b ++ instrW x, stepE t g i b.length, ⟨rfl, ⟨rfl, rfl⟩, ⟨rfl, rfl⟩, rfl⟩, q1, by simpa using q2, hok'⟩
    · rintro ⟨w, b, t⟩ ⟨hj, hs, _⟩
      simp only [codeW, List.append_nil] at hj
      simp only [codeSE] at hs
      subst hj
      subst hs
      simp [envHE, wH, objsE, seeE, funW]

/-- What a program's code tells. -/
def funsSE : Nat → Nat → List Func → Int → Int
  | _, _, [], s => s
  | g, place, f :: r, s => funsSE (g + 1) (place + (funW f).length) r (codeSE g 0 (place + (headW f).length) f.code s)
/-- A program's bytes ahead of its functions. -/
theorem written_E (s : Int) (p : Prog) (hG : ∀ (k : Nat) f, p.funcs[k]? = some f → ∀ i : Nat, i < f.code.length → gtE k i) (hp : p.Ok) (hc : ∀ f ∈ p.funcs, ∀ i ∈ f.code, form i.op ≠ []) (hb : (bodyW p).length ≤ 549755813888) :
    CallS Try.prog 80 [.v (.g p.row), seeE 0] (objsE s) fun r K => ∃ v, r = .os 0 v ∧ K = objsE (funsSE 0 (preW p).length p.funcs s) ++ [.arr v 1 (vrows ((progW p).map brow))] := by
  refine fun_sel [2] hmx Try.func80 r80 s80 (by rw [Try.ntmps80]; simp) (by decide) (by intro o ho; have ho' : o < 0 := ho; clear ho; revert ho'; revert o; decide) ?_
  unfold c80
  have hb' : 5 + ((numW p.vars.length).length + ((varsW p.vars).length + ((numW p.locks).length + ((numW p.chans.length).length + ((chansW p.chans).length + ((numW p.funcs.length).length + (funsW p.funcs).length)))))) ≤ 549755813888 := by
    simp [bodyW, magicB] at hb; omega
  have hvl : p.vars.length < 9223372036854775807 := hp.fewv.lt (by decide)
  have hcl : p.chans.length < 9223372036854775807 := hp.fewc.lt (by decide)
  have hfl : p.funcs.length < 9223372036854775807 := hp.fewf.lt (by decide)
  have hml : magicB.length = 5 := rfl
  simp [objsE, seeE, Prog.row, -List.map_append, -List.append_assoc]
  refine callo rfl Try.call83 magic_w (flat_rows brow_flat) trivial ?_
  simp [-List.map_append, -List.append_assoc]
  refine callf [3, 2] rfl Try.call112 (num_w p.vars.length 0 magicB (by omega)) (by decide) rfl (by simp) (by simp [wH]) (by simp) ?_
  rintro _ _ ⟨v1, rfl⟩
  simp [wH, -List.map_append, -List.append_assoc]
  generalize hA1 : magicB ++ numW p.vars.length = A1
  have lA1 : A1.length = 5 + (numW p.vars.length).length := by rw [← hA1]; simp [hml]
  refine go_each hmx 5 24 p.vars (fun (_ : Nat × List UInt8) => []) (fun t => objsE s ++ [.var (p.row.map .v), .var [seeE 0], .arr t.1 1 (vrows (t.2.map brow)), .var [.os 2 t.1], .var [.pt 3 0 0 0]]) (fun i t rest => t.2 ++ varsW rest = A1 ++ varsW p.vars ∧ ∀ x ∈ rest, I64 x.init) (v1, A1) hvl (by simp [objsE]) rfl (by simp [objsE, seeE, Prog.row, -List.map_append, -List.append_assoc]) (by simp) (by simp) (by simp [objsE, seeE, Prog.row]) ⟨rfl, hp.vars⟩ ?_ ?_
  · rintro i x rest ⟨u, b⟩ hi hx hr ⟨hj, hok⟩ hw
    simp only at hj hok
    have hx' := hok x (by simp)
    have hok' : ∀ y ∈ rest, I64 y.init := fun y hy => hok y (by simp [hy])
    have lj := congrArg List.length hj
    simp only [varsW, List.length_append] at lj
    simp [hi, hx, hw, objsE, seeE, Var.row, -List.map_append, -List.append_assoc]
    refine callf [3, 2] rfl Try.call113 (truth_w x.atomic u b (by omega)) (by decide) rfl (by simp) (by simp [wH]) (by simp) ?_
    rintro _ _ ⟨w1, rfl⟩
    simp [wH, -List.map_append, -List.append_assoc]
    refine callvs 2 rfl Try.call114 (putIO (b ++ flagW x.atomic) x.init (by simp; omega) hx') (flat_rows brow_flat) rfl ⟨frz_rows rfl, .v _, trivial⟩ ?_
    simp [-List.map_append, -List.append_assoc]
    exact ⟨hw, w1 + 1, _, ⟨⟨rfl, rfl⟩, rfl⟩, by rw [← hj]; simp [varsW], hok'⟩
  rintro ⟨u, b⟩ ⟨hj, _⟩
  simp only [varsW, List.append_nil] at hj
  subst hj
  simp [objsE, seeE, Prog.row, -List.map_append, -List.append_assoc]
  refine callf [3, 2] rfl Try.call112 (num_w p.locks u (A1 ++ varsW p.vars) (by simp; omega)) (by decide) rfl (by simp) (by simp [wH]) (by simp) ?_
  rintro _ _ ⟨v2, rfl⟩
  simp [wH, -List.map_append, -List.append_assoc]
  refine callf [3, 2] rfl Try.call112 (num_w p.chans.length v2 (A1 ++ varsW p.vars ++ numW p.locks) (by simp; omega)) (by decide) rfl (by simp) (by simp [wH]) (by simp) ?_
  rintro _ _ ⟨v3, rfl⟩
  simp [wH, -List.map_append, -List.append_assoc]
  generalize hA2 : A1 ++ varsW p.vars ++ numW p.locks ++ numW p.chans.length = A2
  have lA2 : A2.length = A1.length + (varsW p.vars).length + (numW p.locks).length + (numW p.chans.length).length := by rw [← hA2]; simp; omega
  refine go_each hmx 5 55 p.chans (fun (_ : Nat × List UInt8) => []) (fun t => objsE s ++ [.var (p.row.map .v), .var [seeE 0], .arr t.1 1 (vrows (t.2.map brow)), .var [.os 2 t.1], .var [.pt 3 0 0 0]]) (fun i t rest => t.2 ++ chansW rest = A2 ++ chansW p.chans) (v3, A2) hcl (by simp [objsE]) rfl (by simp [objsE, seeE, Prog.row, -List.map_append, -List.append_assoc]) (by simp) (by simp) (by simp [objsE, seeE, Prog.row]) rfl ?_ ?_
  · rintro i x rest ⟨u', b⟩ hi hx hr hj hw
    simp only at hj
    have lj := congrArg List.length hj
    simp only [chansW, List.length_append] at lj
    simp [hi, hx, hw, objsE, seeE, irow, -List.map_append, -List.append_assoc]
    refine callf [3, 2] rfl Try.call112 (num_w x u' b (by omega)) (by decide) rfl (by simp) (by simp [wH]) (by simp) ?_
    rintro _ _ ⟨w1, rfl⟩
    simp [wH, -List.map_append, -List.append_assoc]
    exact ⟨hw, w1, _, ⟨⟨rfl, rfl⟩, rfl⟩, by rw [← hj]; simp [chansW]⟩
  rintro ⟨u', b⟩ hj
  simp only [chansW, List.append_nil] at hj
  subst hj
  simp [objsE, seeE, Prog.row, -List.map_append, -List.append_assoc]
  refine callf [3, 2] rfl Try.call112 (num_w p.funcs.length u' (A2 ++ chansW p.chans) (by simp; omega)) (by decide) rfl (by simp) (by simp [wH]) (by simp) ?_
  rintro _ _ ⟨v4, rfl⟩
  simp [wH, -List.map_append, -List.append_assoc]
  have hA3 : A2 ++ chansW p.chans ++ numW p.funcs.length = preW p := by rw [← hA2, ← hA1]; simp [preW]
  have lA3 : (preW p).length + (funsW p.funcs).length ≤ 549755813888 := by rw [← hA3]; simp; omega
  rw [hA3]
  refine go_each hmx 5 71 p.funcs (fun (_ : Nat × List UInt8 × Int) => []) (fun t => objsE t.2.2 ++ [.var (p.row.map .v), .var [seeE 0], .arr t.1 1 (vrows (t.2.1.map brow)), .var [.os 2 t.1], .var [.pt 3 0 0 0]]) (fun i t rest => t.2.1 ++ funsW rest = preW p ++ funsW p.funcs ∧ funsSE i t.2.1.length rest t.2.2 = funsSE 0 (preW p).length p.funcs s ∧ ∀ f ∈ rest, f.Ok ∧ ∀ i ∈ f.code, form i.op ≠ []) (v4, preW p, s) hfl (by simp [objsE]) rfl (by simp [objsE, seeE, Prog.row, -List.map_append, -List.append_assoc]) (by simp) (by simp) (by simp [objsE, seeE, Prog.row]) ⟨rfl, rfl, fun f hf => ⟨hp.funcs f hf, hc f hf⟩⟩ ?_ ?_
  · rintro i x rest ⟨w, b, t⟩ hi hx hr ⟨hj, hs, hok⟩ hw
    simp only at hj hs hok
    obtain ⟨hx1, hx2⟩ := hok x (by simp)
    have hok' : ∀ y ∈ rest, y.Ok ∧ ∀ i ∈ y.code, form i.op ≠ [] := fun y hy => hok y (by simp [hy])
    have lj := congrArg List.length hj
    simp only [funsW, List.length_append] at lj
    simp [hi, hx, hw, objsE, seeE, Func.row, -List.map_append, -List.append_assoc]
    refine callf [3, 2, 4, 1, 5] rfl Try.call115 (fun_E w b i t x (hG i x (by rw [List.getElem?_eq_getElem hi, hx])) hx1 hx2 (by omega)) (by decide) rfl (by simp) (by simp [envHE, wH, objsE, seeE, -List.map_append, -List.append_assoc]) (by simp [Func.row]) ?_
    rintro _ _ ⟨w2, rfl⟩
    simp [envHE, wH, objsE, seeE, -List.map_append, -List.append_assoc]
    have q1 : b ++ funW x ++ funsW rest = preW p ++ funsW p.funcs := by rw [← hj]; simp [funsW]
    have q2 : funsSE (i + 1) (b ++ funW x).length rest (codeSE i 0 (b.length + (headW x).length) x.code t) = funsSE 0 (preW p).length p.funcs s := by rw [← hs]; simp [funsSE]
    simp only [List.length_append] at q2
    first
      | exact ⟨hw, w2, _, ⟨⟨rfl, rfl⟩, rfl⟩, q1, ⟨_, by simpa using q2⟩, hok'⟩
      | exact ⟨hw, w2, _, _, ⟨rfl, ⟨rfl, rfl⟩, rfl⟩, q1, by simpa using q2, hok'⟩
      | exact ⟨hw, w2, _, _, ⟨⟨rfl, rfl⟩, rfl, rfl⟩, q1, by simpa using q2, hok'⟩
      | exact ⟨hw, w2, _, _, ⟨⟨rfl, rfl⟩, rfl⟩, q1, by simpa using q2, hok'⟩
      | exact ⟨hw, w2, b ++ funW x, codeSE i 0 (b.length + (headW x).length) x.code t, ⟨⟨rfl, rfl⟩, rfl, ⟨rfl, rfl⟩, rfl⟩, q1, by simpa using q2, hok'⟩
  rintro ⟨w, b, t⟩ ⟨hj, hs, _⟩
  simp only [funsW, List.append_nil] at hj
  simp only [funsSE] at hs
  subst hj
  subst hs
  have hB : preW p ++ funsW p.funcs = bodyW p := by simp [preW, bodyW]
  simp [objsE, seeE, -List.map_append, -List.append_assoc, hB]
  refine callz rfl Try.call118 (sumO (bodyW p) (by omega)) (.i _ _) ⟨frz_rows rfl, trivial⟩ ?_
  simp [-List.map_append, -List.append_assoc]
  refine callk rfl Try.call117 (fixO (sumN (bodyW p)) (sumN_lt _)) rfl ?_
  have hrows : vrows ((progW p).map brow) = vrows ((bodyW p).map brow) ++ vrows ((fixN (sumN (bodyW p))).map brow) := by rw [progW, List.map_append, vrows_app]
  rw [hrows]
  simp [-List.map_append, -List.append_assoc, fixN, bval]
  have hsl := sumN_lt (bodyW p)
  refine ⟨⟨by omega, by omega⟩, ?_⟩
  simp [brow]
  try omega
  try decide
  try exact ⟨by decide, rfl⟩
end Go.Sc.Cw
/- Chapter 04: programs in bytes, their length and sum, by the program. No condition. -/
set_option linter.constructorNameAsVariable false
namespace Go.Sc.Cw
open Go Go.RowKit Go.Av Go.Proofs Go.Sc.Oct
set_option linter.unusedSimpArgs false
set_option linter.unusedVariables false
/-- scarab/code.Encode -/
def c40 : ACode :=
  (.seq (.reg none [⟨some 1, none, .m (.box (.t 0))⟩, ⟨some 2, none, .q (.mv (.c .nil))⟩, ⟨some 3, none, .q (.mv (.c (.i .i64 0)))⟩])
  (.keep [1]
  (.seq (.seq (.reg none [⟨some 4, none, .q (.ld (some 4) (.t 1))⟩, ⟨some 5, none, .call (.f 79) [(.t 4)]⟩, ⟨some 6, none, .q (.un .not (.t 5))⟩])
    (.keep [1, 6]
    (.cond (.t 6) (.seq (.reg none [⟨some 2, none, .q (.mv (.c .nil))⟩, ⟨some 3, none, .q (.mv (.c (.i .i64 3)))⟩])
      .ret)
    .skip)))
  (.seq (.reg none [⟨some 7, none, .q (.ld (some 4) (.t 1))⟩, ⟨some 8, none, .call (.f 80) [(.t 7), (.f 81)]⟩, ⟨some 2, none, .q (.mv (.t 8))⟩, ⟨some 3, none, .q (.mv (.c (.i .i64 0)))⟩])
  .ret))))
theorem r40 : (Try.f40.body.bind (resC Try.prog Try.f40.ntmps)) = some (strip c40) := by kernel_rfl
theorem s40 : Try.f40.results.toList.mapM (resRes Try.prog) = some [.t 2, .t 3] := by kernel_rfl
/-- A program that is right has instructions with operands alone, and few bytes. -/
theorem right_forms {p : Prog} (hp : p.Ok) (h : (check p).1 = 0) : (∀ f ∈ p.funcs, ∀ i ∈ f.code, form i.op ≠ []) ∧ (bodyW p).length ≤ 65000 := by
  have hr := right_of h
  refine ⟨fun f hf i hi => ?_, len_body hr hp⟩
  have h2 := hr.func f hf
  exact ins_form (h2.ins i hi)
def encV (p : Prog) : AV := if (check p).1 = 0 then .tup [.sl 1 ((progW p).map brow), .i .i64 0] else .tup [.sl 1 [], .i .i64 3]
theorem encode_w (p : Prog) (hp : p.Ok) : PureS Try.prog 40 [.g p.row] (encV p) := by
  refine pure_wk ?_
  refine fun_go hmx Try.func40 r40 s40 (by rw [Try.ntmps40]; simp) ?_
  unfold c40
  simp [Prog.row]
  refine callk rfl Try.call79 (right_w p hp) rfl ?_
  simp
  refine ⟨fun h => ?_, fun h => ?_⟩
  · simp [encV, h]
    exact ⟨_, .v _, by simp⟩
  · obtain ⟨h1, h2⟩ := right_forms hp h
    refine callf [] rfl Try.call80 (written_E 0 p (fun _ _ _ _ _ => trivial) hp h1 (by omega)) (by decide) rfl (by simp [seeE]) trivial (by simp [Prog.row, seeE]) ?_
    rintro _ _ ⟨v, rfl, rfl⟩
    simp [objsE, encV, h]
    exact ⟨_, frz_tr (cs' := [_, _]) ⟨frz_rows rfl, .v _, trivial⟩, by simp⟩
end Go.Sc.Cw
/- Chapter 04: programs in bytes, by the program (S). No condition. -/
set_option linter.constructorNameAsVariable false
namespace Go.Sc.Cw
open Go Go.RowKit Go.Av Go.Proofs Go.Sc.Oct
set_option linter.unusedSimpArgs false
set_option linter.unusedVariables false
/-- scarab/code.Spot$1 -/
def c97 : ACode :=
  (.seq (.reg none [⟨some 11, none, .q (.bld [.nil] [])⟩, ⟨some 12, none, .m (.box (.t 11))⟩, ⟨some 10, none, .q (.mv (.t 12))⟩])
  (.gst (.nilC 10 0 1)
  (.keep [0, 1, 2, 3, 4, 5, 6, 10]
  (.seq (.reg none [⟨some 13, none, .q (.mv (.t 10))⟩, ⟨some 14, none, .q (.fa 3 (.t 3))⟩, ⟨some 15, none, .q (.ld none (.t 14))⟩, ⟨some 16, none, .q (.mv (.t 0))⟩, ⟨some 17, none, .q (.ias 4 (.t 15) (.t 16))⟩, ⟨some 18, none, .q (.fa 2 (.t 17))⟩, ⟨some 19, none, .q (.ld none (.t 18))⟩, ⟨some 20, none, .q (.mv (.t 1))⟩, ⟨some 21, none, .q (.ias 5 (.t 19) (.t 20))⟩, ⟨some 22, none, .q (.ld (some 5) (.t 21))⟩, ⟨some 23, none, .call (.f 98) [(.t 13), (.t 22)]⟩])
  (.keep [0, 1, 2, 4, 5, 6, 10]
  (.seq (.reg (some (14, [])) [⟨some 24, none, .q (.ld none (.t 4))⟩, ⟨some 25, none, .q (.mv (.t 2))⟩, ⟨some 26, none, .q (.bin .geq (.t 24) (.t 25))⟩, ⟨some 27, none, .q (.mv (.t 26))⟩, ⟨some 28, some (27, true), .q (.ld none (.t 4))⟩, ⟨some 29, some (27, true), .q (.mv (.t 2))⟩, ⟨some 30, some (27, true), .q (.mv (.t 10))⟩, ⟨some 31, some (27, true), .q (.nck (.t 30))⟩, ⟨some 32, some (27, true), .q (.fa 0 (.t 31))⟩, ⟨some 33, some (27, true), .q (.ld none (.t 32))⟩, ⟨some 34, some (27, true), .q (.len false (.t 33))⟩, ⟨some 35, some (27, true), .q (.bin .add (.t 29) (.t 34))⟩, ⟨some 36, some (27, true), .q (.bin .lss (.t 28) (.t 35))⟩, ⟨some 37, none, .pk (.t 27) (.t 36) (.c (.b false))⟩])
  (.keep [0, 1, 5, 6, 37]
  (.cond (.t 37) (.reg none [⟨some 38, none, .q (.mv (.t 0))⟩, ⟨some 39, none, .q (.mv (.t 1))⟩, ⟨some 40, none, .q (.bld [(.i .i64 0), (.i .i64 0)] [(0, 1, .t 38), (1, 1, .t 39)])⟩, ⟨none, none, .m (.st 2 (.t 5) (.t 40))⟩, ⟨none, none, .m (.st 1 (.t 6) (.c (.b true)))⟩])
  .skip))))))))
theorem r97 : (Try.f97.body.bind (resC Try.prog Try.f97.ntmps)) = some (strip c97) := by kernel_rfl
theorem s97 : Try.f97.results.toList.mapM (resRes Try.prog) = some [] := by kernel_rfl
/-- Told where the instruction lies in whose bytes the place a0 is. -/
structure SpotS where
  f : Int
  pc : Int
  found : Bool
def gtS (p0 : Prog) (a0 g pc : Int) : Prop := ∃ (n m : Nat) (f : Func) (i : Instr), g = n ∧ pc = m ∧ p0.funcs[n]? = some f ∧ f.code[m]? = some i ∧ form i.op ≠ [] ∧ (I64 i.a ∧ I64 i.b ∧ I64 i.c ∧ I64 i.n)
def insLen (p0 : Prog) (g pc : Int) : Int := (((p0.funcs[g.toNat]?).bind fun f => (f.code[pc.toNat]?).map fun i => ((instrW i).length : Int)).getD 0)
def stepS (p0 : Prog) (a0 : Int) (s : SpotS) (g pc place : Int) : SpotS := if place ≤ a0 ∧ a0 < place + insLen p0 g pc then ⟨g, pc, true⟩ else s
def objsS (p0 : Prog) (a0 : Int) (s : SpotS) : List AObj := [.var (p0.row.map .v), .var [.v (.i .i64 a0)], .var [.v (.i .i64 s.f), .v (.i .i64 s.pc)], .var [.v (.b s.found)]]
def seeS (o : Nat) : RV := .fr 97 [.pt o 0 0 0, .pt (o + 1) 0 0 0, .pt (o + 2) 0 0 0, .pt (o + 3) 0 0 0]
theorem see_ok_S (p0 : Prog) (a0 : Int) (s : SpotS) (g pc : Int) (place : Nat) (hg : gtS p0 a0 g pc) (hpl : place ≤ 549755813888) : CallS Try.prog 97 [.v (.i .i64 g), .v (.i .i64 pc), .v (.i .i64 place), .pt 0 0 0 0, .pt 1 0 0 0, .pt 2 0 0 0, .pt 3 0 0 0] (objsS p0 a0 s) fun r K => K = objsS p0 a0 (stepS p0 a0 s g pc place) := by
  obtain ⟨n, m, f, i, rfl, rfl, h1, h2, h3, h4⟩ := hg
  obtain ⟨hn, h1'⟩ := List.getElem?_eq_some_iff.1 h1
  obtain ⟨hm, h2'⟩ := List.getElem?_eq_some_iff.1 h2
  have hil := len_instr h4
  have hins : insLen p0 n m = ((instrW i).length : Int) := by simp [insLen, h1, h2]
  refine fun_cut 4 hmx Try.func97 r97 s97 (by rw [Try.ntmps97]; simp) (by first | exact Nat.le_refl _ | decide | simp) ?_
  unfold c97
  simp [objsS, Prog.row, hn, h1', Func.row, hm, h2', Instr.row]
  refine callf [4, 5] rfl Try.call98 (instr_w i h3 h4 0 [] (by simp; omega)) (by decide) rfl (by simp) (by simp [wH, vrows]) (by simp [Instr.row]) ?_
  rintro _ _ ⟨v', rfl⟩
  simp [wH, objsS, Prog.row]
  have hw : IntKind.i64.wrap ((place : Int) + ((instrW i).length : Int)) = (place : Int) + ((instrW i).length : Int) := wrap_in (by omega) (by omega)
  rw [hw]
  refine ⟨fun h1 h2 => ?_, fun h => ?_⟩
  · rw [stepS, if_pos (by rw [hins]; exact ⟨h1, h2⟩)]
    exact ⟨⟨rfl, rfl⟩, rfl⟩
  · rw [stepS, if_neg (by rw [hins]; rintro ⟨h1, h2⟩; have := h h1; omega)]
    exact ⟨⟨rfl, rfl⟩, rfl⟩

/-- What a function's code tells. -/
def codeSS (p0 : Prog) (a0 : Int) (g : Int) : Nat → Nat → List Instr → SpotS → SpotS
  | _, _, [], s => s
  | pc, place, i :: r, s => codeSS p0 a0 g (pc + 1) (place + (instrW i).length) r (stepS p0 a0 s g pc place)
def envHS (p0 : Prog) (a0 : Int) (v : Nat) (bs : List UInt8) (g : Int) (s : SpotS) : List AObj := wH v bs ++ [.var [.pt 0 0 0 0], .var [seeS 5], .var [.v (.i .i64 g)]] ++ objsS p0 a0 s

theorem inner_S (p0 : Prog) (a0 : Int) (v : Nat) (bs : List UInt8) (g pc : Int) (s : SpotS) (hg : gtS p0 a0 g pc) (hb : bs.length ≤ 549755813888) : CallS Try.prog 116 [.v (.i .i64 pc), .pt 3 0 0 0, .pt 4 0 0 0, .pt 2 0 0 0] (envHS p0 a0 v bs g s) fun r K => K = envHS p0 a0 v bs g (stepS p0 a0 s g pc bs.length) := by
  refine fun_cut 9 hmx Try.func116 r116 s116 (by rw [Try.ntmps116]; simp) (by first | exact Nat.le_refl _ | decide | simp) ?_
  unfold c116
  simp [envHS, wH, objsS, seeS]
  refine callf [5, 6, 7, 8] rfl Try.call97 (see_ok_S p0 a0 s g pc bs.length hg hb) (by decide) rfl (by simp) (by simp [objsS]) (by simp) ?_
  rintro r K rfl
  simp [objsS]

theorem fun_S (p0 : Prog) (a0 : Int) (v : Nat) (bs : List UInt8) (g : Int) (s : SpotS) (f : Func) (hG : ∀ i : Nat, i < f.code.length → gtS p0 a0 g i) (hf : f.Ok) (hc : ∀ i ∈ f.code, form i.op ≠ []) (hb : bs.length + (funW f).length ≤ 549755813888) :
    CallS Try.prog 115 [.pt 0 0 0 0, .v (.g f.row), .fr 116 [.pt 3 0 0 0, .pt 4 0 0 0, .pt 2 0 0 0]] (envHS p0 a0 v bs g s) fun r K => ∃ v', K = envHS p0 a0 v' (bs ++ funW f) g (codeSS p0 a0 g 0 (bs.length + (headW f).length) f.code s) := by
  refine fun_cut 9 hmx Try.func115 r115 s115 (by rw [Try.ntmps115]; simp) (by first | exact Nat.le_refl _ | decide | simp) ?_
  unfold c115
  have hb' : bs.length + ((numW f.params).length + ((numW f.regs).length + ((numW f.selects.length).length + ((selsW f.selects).length + ((numW f.code.length).length + (codeW f.code).length))))) ≤ 549755813888 := by
    simp [funW, headW] at hb; omega
  simp [envHS, wH, objsS, seeS, Func.row, -List.map_append, -List.append_assoc]
  refine callf [0, 1] rfl Try.call112 (num_w f.params v bs (by omega)) (by decide) rfl (by simp) (by simp [wH]) (by simp) ?_
  rintro _ _ ⟨v1, rfl⟩
  simp [wH, -List.map_append, -List.append_assoc]
  refine callf [0, 1] rfl Try.call112 (num_w f.regs v1 (bs ++ numW f.params) (by simp; omega)) (by decide) rfl (by simp) (by simp [wH]) (by simp) ?_
  rintro _ _ ⟨v2, rfl⟩
  simp [wH, -List.map_append, -List.append_assoc]
  refine callf [0, 1] rfl Try.call112 (num_w f.selects.length v2 (bs ++ numW f.params ++ numW f.regs) (by simp; omega)) (by decide) rfl (by simp) (by simp [wH]) (by simp) ?_
  rintro _ _ ⟨v3, rfl⟩
  simp [wH, -List.map_append, -List.append_assoc]
  have hsl : f.selects.length < 9223372036854775807 := hf.fews.lt (by decide)
  have hcl : f.code.length < 9223372036854775807 := hf.few.lt (by decide)
  generalize hA3 : bs ++ numW f.params ++ numW f.regs ++ numW f.selects.length = A3
  have lA3 : A3.length = bs.length + (numW f.params).length + (numW f.regs).length + (numW f.selects.length).length := by rw [← hA3]; simp; omega
  refine go_each hmx 10 28 f.selects (fun (_ : Nat × List UInt8) => []) (fun t => envHS p0 a0 t.1 t.2 g s ++ [.var (f.row.map .v)]) (fun i t rest => t.2 ++ selsW rest = A3 ++ selsW f.selects ∧ ∀ x ∈ rest, x.Ok) (v3, A3) hsl (by simp [envHS, wH, objsS]) rfl (by simp [envHS, wH, objsS, seeS, Func.row, -List.map_append, -List.append_assoc]) (by simp) (by simp) (by simp [envHS, wH, objsS, seeS, Func.row]) ⟨rfl, hf.sel⟩ ?_ ?_
  · rintro i x rest ⟨u, b⟩ hi hx hr ⟨hj, hok⟩ hw
    simp only at hj hok
    have hx' := hok x (by simp)
    have hok' : ∀ y ∈ rest, y.Ok := fun y hy => hok y (by simp [hy])
    have lj := congrArg List.length hj
    simp only [selsW, selW, List.length_append] at lj
    have hcasel : x.cases.length < 9223372036854775807 := hx'.few.lt (by decide)
    simp [hi, hx, hw, envHS, wH, objsS, seeS, Select.row, -List.map_append, -List.append_assoc]
    refine callf [0, 1] rfl Try.call112 (num_w x.cases.length u b (by omega)) (by decide) rfl (by simp) (by simp [wH]) (by simp) ?_
    rintro _ _ ⟨u1, rfl⟩
    simp [wH, -List.map_append, -List.append_assoc]
    refine go_each hmx 11 40 x.cases (fun (_ : Nat × List UInt8) => []) (fun t => envHS p0 a0 t.1 t.2 g s ++ [.var (f.row.map .v), .var (x.row.map .v)]) (fun i t rest => t.2 ++ casesW rest = (b ++ numW x.cases.length) ++ casesW x.cases) (u1, b ++ numW x.cases.length) hcasel (by simp [envHS, wH, objsS]) rfl (by simp [envHS, wH, objsS, seeS, Func.row, Select.row, -List.map_append, -List.append_assoc]) (by simp) (by simp) (by simp [envHS, wH, objsS, seeS, Func.row, Select.row]) rfl ?_ ?_
    · rintro i2 y rest2 ⟨u', b'⟩ hi2 hy hr2 hj2 hw2
      simp only at hj2
      have lj2 := congrArg List.length hj2
      simp only [casesW, caseW, List.length_append] at lj2
      simp [hi2, hy, hw2, envHS, wH, objsS, seeS, Case.row, -List.map_append, -List.append_assoc]
      refine callf [0, 1] rfl Try.call113 (truth_w y.send u' b' (by omega)) (by decide) rfl (by simp) (by simp [wH]) (by simp) ?_
      rintro _ _ ⟨w1, rfl⟩
      simp [wH, -List.map_append, -List.append_assoc]
      refine callf [0, 1] rfl Try.call112 (num_w y.chan w1 (b' ++ flagW y.send) (by simp; omega)) (by decide) rfl (by simp) (by simp [wH]) (by simp) ?_
      rintro _ _ ⟨w2, rfl⟩
      simp [wH, -List.map_append, -List.append_assoc]
      refine callf [0, 1] rfl Try.call112 (num_w (IntKind.i64.wrap (y.reg + 1)) w2 (b' ++ flagW y.send ++ numW y.chan) (by rw [num_wrap]; simp; omega)) (by decide) rfl (by simp) (by simp [wH]) (by simp) ?_
      rintro _ _ ⟨w3, rfl⟩
      simp [wH, -List.map_append, -List.append_assoc, num_wrap]
      refine callf [0, 1] rfl Try.call112 (num_w y.to w3 (b' ++ flagW y.send ++ numW y.chan ++ numW (y.reg + 1)) (by simp; omega)) (by decide) rfl (by simp) (by simp [wH]) (by simp) ?_
      rintro _ _ ⟨w4, rfl⟩
      simp [wH, -List.map_append, -List.append_assoc]
      exact ⟨hw2, w4, _, ⟨rfl, rfl⟩, by rw [← hj2]; simp [casesW, caseW]⟩
    · rintro ⟨u', b'⟩ hj2
      simp only [casesW, List.append_nil] at hj2
      subst hj2
      simp [envHS, wH, objsS, seeS, Select.row, -List.map_append, -List.append_assoc]
      refine callf [0, 1] rfl Try.call112 (num_w (IntKind.i64.wrap (x.els + 1)) u' (b ++ numW x.cases.length ++ casesW x.cases) (by rw [num_wrap]; simp; omega)) (by decide) rfl (by simp) (by simp [wH]) (by simp) ?_
      rintro _ _ ⟨w1, rfl⟩
      simp [wH, -List.map_append, -List.append_assoc, num_wrap]
      exact ⟨hw, w1, _, ⟨rfl, rfl⟩, by rw [← hj]; simp [selsW, selW], hok'⟩
  · rintro ⟨u, b⟩ ⟨hj, _⟩
    simp only [selsW, List.append_nil] at hj
    subst hj
    simp [envHS, wH, objsS, seeS, Func.row, -List.map_append, -List.append_assoc]
    refine callf [0, 1] rfl Try.call112 (num_w f.code.length u (A3 ++ selsW f.selects) (by simp; omega)) (by decide) rfl (by simp) (by simp [wH]) (by simp) ?_
    rintro _ _ ⟨u1, rfl⟩
    simp [wH, -List.map_append, -List.append_assoc]
    have hA5 : A3 ++ selsW f.selects ++ numW f.code.length = bs ++ headW f := by rw [← hA3]; simp [headW]
    rw [hA5]
    have lA5 : (bs ++ headW f).length + (codeW f.code).length ≤ 549755813888 := by simp [headW]; omega
    refine go_each hmx 10 76 f.code (fun (_ : Nat × List UInt8 × SpotS) => []) (fun t => envHS p0 a0 t.1 t.2.1 g t.2.2 ++ [.var (f.row.map .v)]) (fun i t rest => t.2.1 ++ codeW rest = (bs ++ headW f) ++ codeW f.code ∧ codeSS p0 a0 g i t.2.1.length rest t.2.2 = codeSS p0 a0 g 0 (bs ++ headW f).length f.code s ∧ ∀ y ∈ rest, form y.op ≠ [] ∧ (I64 y.op ∧ I64 y.a ∧ I64 y.b ∧ I64 y.c ∧ I64 y.n)) (u1, bs ++ headW f, s) hcl (by simp [envHS, wH, objsS]) rfl (by simp [envHS, wH, objsS, seeS, Func.row, -List.map_append, -List.append_assoc]) (by simp) (by simp) (by simp [envHS, wH, objsS, seeS, Func.row]) ⟨rfl, rfl, fun y hy => ⟨hc y hy, hf.code y hy⟩⟩ ?_ ?_
    · rintro i x rest ⟨w, b, t⟩ hi hx hr ⟨hj, hs, hok⟩ hw
      simp only at hj hs hok
      obtain ⟨hxf, hxi⟩ := hok x (by simp)
      have hok' : ∀ y ∈ rest, form y.op ≠ [] ∧ (I64 y.op ∧ I64 y.a ∧ I64 y.b ∧ I64 y.c ∧ I64 y.n) := fun y hy => hok y (by simp [hy])
      have lj := congrArg List.length hj
      simp only [codeW, List.length_append] at lj
      simp only [List.length_append] at lA5
      simp [hi, hx, hw, envHS, wH, objsS, seeS, Instr.row, -List.map_append, -List.append_assoc]
      refine callf [0, 1, 2, 3, 4, 5, 6, 7, 8] rfl Try.call116 (inner_S p0 a0 w b g i t (hG i hi) (by omega)) (by decide) rfl (by simp) (by simp [envHS, wH, objsS, seeS, -List.map_append, -List.append_assoc]) (by simp) ?_
      rintro _ _ rfl
      simp [envHS, wH, objsS, seeS, -List.map_append, -List.append_assoc]
      refine callf [0, 1] rfl Try.call98 (instr_w x hxf hxi.2 w b (by omega)) (by decide) rfl (by simp) (by simp [wH]) (by simp [Instr.row]) ?_
      rintro _ _ ⟨w2, rfl⟩
      simp [wH, -List.map_append, -List.append_assoc]
      have q1 : b ++ instrW x ++ codeW rest = bs ++ headW f ++ codeW f.code := by rw [← hj]; simp [codeW]
      have q2 : codeSS p0 a0 g (i + 1) (b ++ instrW x).length rest (stepS p0 a0 t g i b.length) = codeSS p0 a0 g 0 (bs ++ headW f).length f.code s := by rw [← hs]; simp [codeSS]
      simp only [List.length_append] at q2
      first
        | exact ⟨hw, w2, _, _, ⟨rfl, ⟨rfl, rfl⟩, rfl⟩, q1, by simpa using q2, hok'⟩
        | exact ⟨hw, w2, _, _, _, _, ⟨rfl, ⟨rfl, rfl⟩, ⟨rfl, rfl⟩, rfl⟩, q1, by simpa using q2, hok'⟩
        | exact ⟨hw, w2, _, ⟨rfl, rfl⟩, q1, ⟨_, by simpa using q2⟩, hok'⟩
        | exact ⟨hw, w2, b ++ instrW x, stepS p0 a0 t g i b.length, ⟨rfl, ⟨rfl, rfl⟩, ⟨rfl, rfl⟩, rfl⟩, q1, by simpa using q2, hok'⟩
    · rintro ⟨w, b, t⟩ ⟨hj, hs, _⟩
      simp only [codeW, List.append_nil] at hj
      simp only [codeSS] at hs
      subst hj
      subst hs
      simp [envHS, wH, objsS, seeS, funW]

/-- What a program's code tells. -/
def funsSS (p0 : Prog) (a0 : Int) : Nat → Nat → List Func → SpotS → SpotS
  | _, _, [], s => s
  | g, place, f :: r, s => funsSS p0 a0 (g + 1) (place + (funW f).length) r (codeSS p0 a0 g 0 (place + (headW f).length) f.code s)
/-- A program's bytes ahead of its functions. -/
theorem written_S (p0 : Prog) (a0 : Int) (s : SpotS) (p : Prog) (hG : ∀ (k : Nat) f, p.funcs[k]? = some f → ∀ i : Nat, i < f.code.length → gtS p0 a0 k i) (hp : p.Ok) (hc : ∀ f ∈ p.funcs, ∀ i ∈ f.code, form i.op ≠ []) (hb : (bodyW p).length ≤ 549755813888) :
    CallS Try.prog 80 [.v (.g p.row), seeS 0] (objsS p0 a0 s) fun r K => ∃ v, r = .os 4 v ∧ K = objsS p0 a0 (funsSS p0 a0 0 (preW p).length p.funcs s) ++ [.arr v 1 (vrows ((progW p).map brow))] := by
  refine fun_sel [0, 1, 2, 3, 6] hmx Try.func80 r80 s80 (by rw [Try.ntmps80]; simp) (by decide) (by intro o ho; have ho' : o < 4 := ho; clear ho; revert ho'; revert o; decide) ?_
  unfold c80
  have hb' : 5 + ((numW p.vars.length).length + ((varsW p.vars).length + ((numW p.locks).length + ((numW p.chans.length).length + ((chansW p.chans).length + ((numW p.funcs.length).length + (funsW p.funcs).length)))))) ≤ 549755813888 := by
    simp [bodyW, magicB] at hb; omega
  have hvl : p.vars.length < 9223372036854775807 := hp.fewv.lt (by decide)
  have hcl : p.chans.length < 9223372036854775807 := hp.fewc.lt (by decide)
  have hfl : p.funcs.length < 9223372036854775807 := hp.fewf.lt (by decide)
  have hml : magicB.length = 5 := rfl
  simp [objsS, seeS, Prog.row, -List.map_append, -List.append_assoc]
  refine callo rfl Try.call83 magic_w (flat_rows brow_flat) trivial ?_
  simp [-List.map_append, -List.append_assoc]
  refine callf [7, 6] rfl Try.call112 (num_w p.vars.length 0 magicB (by omega)) (by decide) rfl (by simp) (by simp [wH]) (by simp) ?_
  rintro _ _ ⟨v1, rfl⟩
  simp [wH, -List.map_append, -List.append_assoc]
  generalize hA1 : magicB ++ numW p.vars.length = A1
  have lA1 : A1.length = 5 + (numW p.vars.length).length := by rw [← hA1]; simp [hml]
  refine go_each hmx 9 24 p.vars (fun (_ : Nat × List UInt8) => []) (fun t => objsS p0 a0 s ++ [.var (p.row.map .v), .var [seeS 0], .arr t.1 1 (vrows (t.2.map brow)), .var [.os 6 t.1], .var [.pt 7 0 0 0]]) (fun i t rest => t.2 ++ varsW rest = A1 ++ varsW p.vars ∧ ∀ x ∈ rest, I64 x.init) (v1, A1) hvl (by simp [objsS]) rfl (by simp [objsS, seeS, Prog.row, -List.map_append, -List.append_assoc]) (by simp) (by simp) (by simp [objsS, seeS, Prog.row]) ⟨rfl, hp.vars⟩ ?_ ?_
  · rintro i x rest ⟨u, b⟩ hi hx hr ⟨hj, hok⟩ hw
    simp only at hj hok
    have hx' := hok x (by simp)
    have hok' : ∀ y ∈ rest, I64 y.init := fun y hy => hok y (by simp [hy])
    have lj := congrArg List.length hj
    simp only [varsW, List.length_append] at lj
    simp [hi, hx, hw, objsS, seeS, Var.row, -List.map_append, -List.append_assoc]
    refine callf [7, 6] rfl Try.call113 (truth_w x.atomic u b (by omega)) (by decide) rfl (by simp) (by simp [wH]) (by simp) ?_
    rintro _ _ ⟨w1, rfl⟩
    simp [wH, -List.map_append, -List.append_assoc]
    refine callvs 6 rfl Try.call114 (putIO (b ++ flagW x.atomic) x.init (by simp; omega) hx') (flat_rows brow_flat) rfl ⟨frz_rows rfl, .v _, trivial⟩ ?_
    simp [-List.map_append, -List.append_assoc]
    exact ⟨hw, w1 + 1, _, ⟨⟨rfl, rfl⟩, rfl⟩, by rw [← hj]; simp [varsW], hok'⟩
  rintro ⟨u, b⟩ ⟨hj, _⟩
  simp only [varsW, List.append_nil] at hj
  subst hj
  simp [objsS, seeS, Prog.row, -List.map_append, -List.append_assoc]
  refine callf [7, 6] rfl Try.call112 (num_w p.locks u (A1 ++ varsW p.vars) (by simp; omega)) (by decide) rfl (by simp) (by simp [wH]) (by simp) ?_
  rintro _ _ ⟨v2, rfl⟩
  simp [wH, -List.map_append, -List.append_assoc]
  refine callf [7, 6] rfl Try.call112 (num_w p.chans.length v2 (A1 ++ varsW p.vars ++ numW p.locks) (by simp; omega)) (by decide) rfl (by simp) (by simp [wH]) (by simp) ?_
  rintro _ _ ⟨v3, rfl⟩
  simp [wH, -List.map_append, -List.append_assoc]
  generalize hA2 : A1 ++ varsW p.vars ++ numW p.locks ++ numW p.chans.length = A2
  have lA2 : A2.length = A1.length + (varsW p.vars).length + (numW p.locks).length + (numW p.chans.length).length := by rw [← hA2]; simp; omega
  refine go_each hmx 9 55 p.chans (fun (_ : Nat × List UInt8) => []) (fun t => objsS p0 a0 s ++ [.var (p.row.map .v), .var [seeS 0], .arr t.1 1 (vrows (t.2.map brow)), .var [.os 6 t.1], .var [.pt 7 0 0 0]]) (fun i t rest => t.2 ++ chansW rest = A2 ++ chansW p.chans) (v3, A2) hcl (by simp [objsS]) rfl (by simp [objsS, seeS, Prog.row, -List.map_append, -List.append_assoc]) (by simp) (by simp) (by simp [objsS, seeS, Prog.row]) rfl ?_ ?_
  · rintro i x rest ⟨u', b⟩ hi hx hr hj hw
    simp only at hj
    have lj := congrArg List.length hj
    simp only [chansW, List.length_append] at lj
    simp [hi, hx, hw, objsS, seeS, irow, -List.map_append, -List.append_assoc]
    refine callf [7, 6] rfl Try.call112 (num_w x u' b (by omega)) (by decide) rfl (by simp) (by simp [wH]) (by simp) ?_
    rintro _ _ ⟨w1, rfl⟩
    simp [wH, -List.map_append, -List.append_assoc]
    exact ⟨hw, w1, _, ⟨⟨rfl, rfl⟩, rfl⟩, by rw [← hj]; simp [chansW]⟩
  rintro ⟨u', b⟩ hj
  simp only [chansW, List.append_nil] at hj
  subst hj
  simp [objsS, seeS, Prog.row, -List.map_append, -List.append_assoc]
  refine callf [7, 6] rfl Try.call112 (num_w p.funcs.length u' (A2 ++ chansW p.chans) (by simp; omega)) (by decide) rfl (by simp) (by simp [wH]) (by simp) ?_
  rintro _ _ ⟨v4, rfl⟩
  simp [wH, -List.map_append, -List.append_assoc]
  have hA3 : A2 ++ chansW p.chans ++ numW p.funcs.length = preW p := by rw [← hA2, ← hA1]; simp [preW]
  have lA3 : (preW p).length + (funsW p.funcs).length ≤ 549755813888 := by rw [← hA3]; simp; omega
  rw [hA3]
  refine go_each hmx 9 71 p.funcs (fun (_ : Nat × List UInt8 × SpotS) => []) (fun t => objsS p0 a0 t.2.2 ++ [.var (p.row.map .v), .var [seeS 0], .arr t.1 1 (vrows (t.2.1.map brow)), .var [.os 6 t.1], .var [.pt 7 0 0 0]]) (fun i t rest => t.2.1 ++ funsW rest = preW p ++ funsW p.funcs ∧ funsSS p0 a0 i t.2.1.length rest t.2.2 = funsSS p0 a0 0 (preW p).length p.funcs s ∧ ∀ f ∈ rest, f.Ok ∧ ∀ i ∈ f.code, form i.op ≠ []) (v4, preW p, s) hfl (by simp [objsS]) rfl (by simp [objsS, seeS, Prog.row, -List.map_append, -List.append_assoc]) (by simp) (by simp) (by simp [objsS, seeS, Prog.row]) ⟨rfl, rfl, fun f hf => ⟨hp.funcs f hf, hc f hf⟩⟩ ?_ ?_
  · rintro i x rest ⟨w, b, t⟩ hi hx hr ⟨hj, hs, hok⟩ hw
    simp only at hj hs hok
    obtain ⟨hx1, hx2⟩ := hok x (by simp)
    have hok' : ∀ y ∈ rest, y.Ok ∧ ∀ i ∈ y.code, form i.op ≠ [] := fun y hy => hok y (by simp [hy])
    have lj := congrArg List.length hj
    simp only [funsW, List.length_append] at lj
    simp [hi, hx, hw, objsS, seeS, Func.row, -List.map_append, -List.append_assoc]
    refine callf [7, 6, 8, 5, 9, 0, 1, 2, 3] rfl Try.call115 (fun_S p0 a0 w b i t x (hG i x (by rw [List.getElem?_eq_getElem hi, hx])) hx1 hx2 (by omega)) (by decide) rfl (by simp) (by simp [envHS, wH, objsS, seeS, -List.map_append, -List.append_assoc]) (by simp [Func.row]) ?_
    rintro _ _ ⟨w2, rfl⟩
    simp [envHS, wH, objsS, seeS, -List.map_append, -List.append_assoc]
    have q1 : b ++ funW x ++ funsW rest = preW p ++ funsW p.funcs := by rw [← hj]; simp [funsW]
    have q2 : funsSS p0 a0 (i + 1) (b ++ funW x).length rest (codeSS p0 a0 i 0 (b.length + (headW x).length) x.code t) = funsSS p0 a0 0 (preW p).length p.funcs s := by rw [← hs]; simp [funsSS]
    simp only [List.length_append] at q2
    first
      | exact ⟨hw, w2, _, ⟨⟨rfl, rfl⟩, rfl⟩, q1, ⟨_, by simpa using q2⟩, hok'⟩
      | exact ⟨hw, w2, _, _, ⟨rfl, ⟨rfl, rfl⟩, rfl⟩, q1, by simpa using q2, hok'⟩
      | exact ⟨hw, w2, _, _, ⟨⟨rfl, rfl⟩, rfl, rfl⟩, q1, by simpa using q2, hok'⟩
      | exact ⟨hw, w2, _, _, ⟨⟨rfl, rfl⟩, rfl⟩, q1, by simpa using q2, hok'⟩
      | exact ⟨hw, w2, b ++ funW x, codeSS p0 a0 i 0 (b.length + (headW x).length) x.code t, ⟨⟨rfl, rfl⟩, rfl, ⟨rfl, rfl⟩, rfl⟩, q1, by simpa using q2, hok'⟩
  rintro ⟨w, b, t⟩ ⟨hj, hs, _⟩
  simp only [funsW, List.append_nil] at hj
  simp only [funsSS] at hs
  subst hj
  subst hs
  have hB : preW p ++ funsW p.funcs = bodyW p := by simp [preW, bodyW]
  simp [objsS, seeS, -List.map_append, -List.append_assoc, hB]
  refine callz rfl Try.call118 (sumO (bodyW p) (by omega)) (.i _ _) ⟨frz_rows rfl, trivial⟩ ?_
  simp [-List.map_append, -List.append_assoc]
  refine callk rfl Try.call117 (fixO (sumN (bodyW p)) (sumN_lt _)) rfl ?_
  have hrows : vrows ((progW p).map brow) = vrows ((bodyW p).map brow) ++ vrows ((fixN (sumN (bodyW p))).map brow) := by rw [progW, List.map_append, vrows_app]
  rw [hrows]
  simp [-List.map_append, -List.append_assoc, fixN, bval]
  have hsl := sumN_lt (bodyW p)
  refine ⟨⟨by omega, by omega⟩, ?_⟩
  simp [brow]
  try omega
  try decide
  try exact ⟨by decide, rfl⟩
end Go.Sc.Cw
