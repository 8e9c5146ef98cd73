/- Chapter 12: the document's own places, Linear, Closed, Cut. No condition. -/
import Derived.Test.YtgipkikbefnokaaXOrV
set_option linter.constructorNameAsVariable false
namespace Go.Sc.Or
open Go Go.RowKit Go.Av Go.Proofs Go.Sc Go.Shelf Go.Sort Go.Sc.Srt
set_option linter.unusedSimpArgs false
set_option linter.unusedVariables false
/-- scarab/scarabref12.places -/
def c91 : ACode :=
  (.seq (.reg none [⟨some 6, none, .q (.mv (.c (.i .i64 0)))⟩])
  (.keep [0, 1, 2]
  (.seq (.seq (.reg none [⟨some 9, none, .q (.mv (.t 1))⟩, ⟨some 10, none, .q (.len false (.t 9))⟩, ⟨some 11, none, .q (.bin .gtr (.t 10) (.c (.i .i64 256)))⟩])
    (.keep [0, 1, 2, 11]
    (.cond (.t 11) (.seq (.reg none [⟨some 6, none, .q (.mv (.c (.i .i64 2)))⟩])
      .ret)
    .skip)))
  (.seq (.reg none [⟨some 12, none, .q (.mv (.t 0))⟩, ⟨some 13, none, .q (.len false (.t 12))⟩, ⟨some 14, none, .m (.mks 1 1 [(.b false)] (.t 13) (.t 13))⟩, ⟨some 7, none, .q (.mv (.t 14))⟩])
  (.keep [0, 1, 2, 7]
  (.seq (.seq (.reg none [⟨some 8, none, .q (.mv (.c (.i .i64 0)))⟩])
    (.keep [0, 1, 2, 7, 8]
    (.blk 0 (.keep [0, 1, 2, 7, 8]
    (.loop (.fin [0, 1, 2, 7, 8]
      (.seq (.seq (.reg none [⟨some 15, none, .q (.mv (.t 8))⟩, ⟨some 16, none, .q (.mv (.t 1))⟩, ⟨some 17, none, .q (.len false (.t 16))⟩, ⟨some 18, none, .q (.bin .lss (.t 15) (.t 17))⟩])
        (.keep [0, 1, 2, 7, 8, 18]
        (.cond (.t 18) .skip
        (.exit 0))))
      (.seq (.blk 1 (.seq (.seq (.reg none [⟨some 21, none, .q (.mv (.t 1))⟩, ⟨some 22, none, .q (.mv (.t 8))⟩, ⟨some 23, none, .q (.ias 1 (.t 21) (.t 22))⟩, ⟨some 24, none, .q (.ld none (.t 23))⟩, ⟨some 25, none, .q (.bin .lss (.t 24) (.c (.i .i64 0)))⟩, ⟨some 26, none, .q (.mv (.t 25))⟩, ⟨some 27, some (26, false), .q (.mv (.t 1))⟩, ⟨some 28, some (26, false), .q (.mv (.t 8))⟩, ⟨some 29, some (26, false), .q (.ias 1 (.t 27) (.t 28))⟩, ⟨some 30, some (26, false), .q (.ld none (.t 29))⟩, ⟨some 31, some (26, false), .q (.mv (.t 0))⟩, ⟨some 32, some (26, false), .q (.len false (.t 31))⟩, ⟨some 33, some (26, false), .q (.bin .geq (.t 30) (.t 32))⟩, ⟨some 34, none, .pk (.t 26) (.c (.b true)) (.t 33)⟩, ⟨some 35, none, .q (.mv (.t 34))⟩, ⟨some 36, some (35, false), .q (.mv (.t 2))⟩, ⟨some 37, some (35, false), .q (.mv (.t 36))⟩, ⟨some 38, some (37, true), .q (.mv (.t 7))⟩, ⟨some 39, some (37, true), .q (.mv (.t 1))⟩, ⟨some 40, some (37, true), .q (.mv (.t 8))⟩, ⟨some 41, some (37, true), .q (.ias 1 (.t 39) (.t 40))⟩, ⟨some 42, some (37, true), .q (.ld none (.t 41))⟩, ⟨some 43, some (37, true), .q (.ias 1 (.t 38) (.t 42))⟩, ⟨some 44, some (37, true), .q (.ld none (.t 43))⟩, ⟨some 45, some (35, false), .pk (.t 37) (.t 44) (.c (.b false))⟩, ⟨some 46, none, .pk (.t 35) (.c (.b true)) (.t 45)⟩])
          (.keep [0, 1, 2, 7, 8, 46]
          (.cond (.t 46) (.seq (.reg none [⟨some 6, none, .q (.mv (.c (.i .i64 1)))⟩])
            .ret)
          .skip)))
        (.reg none [⟨some 47, none, .q (.mv (.t 7))⟩, ⟨some 48, none, .q (.mv (.t 1))⟩, ⟨some 49, none, .q (.mv (.t 8))⟩, ⟨some 50, none, .q (.ias 1 (.t 48) (.t 49))⟩, ⟨some 51, none, .q (.ld none (.t 50))⟩, ⟨some 52, none, .q (.ias 1 (.t 47) (.t 51))⟩, ⟨none, none, .m (.st 1 (.t 52) (.c (.b true)))⟩])))
      (.keep [0, 1, 2, 7, 8]
      (.reg none [⟨some 19, none, .q (.mv (.t 8))⟩, ⟨some 20, none, .q (.bin .add (.t 19) (.c (.i .i64 1)))⟩, ⟨some 8, none, .q (.mv (.t 20))⟩]))))))))))
  (.seq (.seq (.reg none [⟨some 53, none, .q (.mv (.t 2))⟩, ⟨some 54, none, .q (.mv (.t 53))⟩, ⟨some 55, some (54, true), .q (.mv (.t 1))⟩, ⟨some 56, some (54, true), .q (.len false (.t 55))⟩, ⟨some 57, some (54, true), .q (.mv (.t 0))⟩, ⟨some 58, some (54, true), .q (.len false (.t 57))⟩, ⟨some 59, some (54, true), .q (.bin .neq (.t 56) (.t 58))⟩, ⟨some 60, none, .pk (.t 54) (.t 59) (.c (.b false))⟩])
    (.keep [60]
    (.cond (.t 60) (.seq (.reg none [⟨some 6, none, .q (.mv (.c (.i .i64 1)))⟩])
      .ret)
    .skip)))
  (.seq (.reg none [⟨some 6, none, .q (.mv (.c (.i .i64 0)))⟩])
  .ret))))))))
theorem r91 : (Try.f91.body.bind (resC Try.prog Try.f91.ntmps)) = some (strip c91) := by kernel_rfl
theorem s91 : Try.f91.results.toList.mapM (resRes Try.prog) = some [.t 6] := by kernel_rfl
/-- scarab/scarabref12.Linear -/
def c52 : ACode :=
  (.seq (.reg none [⟨some 4, none, .q (.mv (.c (.b false)))⟩, ⟨some 5, none, .q (.mv (.c (.i .i64 0)))⟩])
  (.keep [0, 1]
  (.seq (.reg none [⟨some 10, none, .q (.mv (.t 0))⟩, ⟨some 11, none, .q (.mv (.t 1))⟩, ⟨some 12, none, .call (.f 91) [(.t 10), (.t 11), (.c (.b true))]⟩, ⟨some 6, none, .q (.mv (.t 12))⟩])
  (.keep [0, 1, 6]
  (.seq (.seq (.reg none [⟨some 13, none, .q (.mv (.t 6))⟩, ⟨some 14, none, .q (.bin .neq (.t 13) (.c (.i .i64 0)))⟩])
    (.keep [0, 1, 6, 14]
    (.cond (.t 14) (.seq (.reg none [⟨some 15, none, .q (.mv (.t 6))⟩, ⟨some 4, none, .q (.mv (.c (.b false)))⟩, ⟨some 5, none, .q (.mv (.t 15))⟩])
      .ret)
    .skip)))
  (.seq (.reg none [⟨some 16, none, .q (.mv (.t 0))⟩, ⟨some 17, none, .call (.f 36) [(.t 16)]⟩, ⟨some 7, none, .q (.mv (.t 17))⟩])
  (.keep [1, 7]
  (.seq (.seq (.reg none [⟨some 8, none, .q (.mv (.c (.i .i64 0)))⟩])
    (.keep [1, 7, 8]
    (.blk 0 (.keep [1, 7, 8]
    (.loop (.fin [1, 7, 8]
      (.seq (.seq (.reg none [⟨some 18, none, .q (.mv (.t 8))⟩, ⟨some 19, none, .q (.mv (.t 1))⟩, ⟨some 20, none, .q (.len false (.t 19))⟩, ⟨some 21, none, .q (.bin .lss (.t 18) (.t 20))⟩])
        (.keep [1, 7, 8, 21]
        (.cond (.t 21) .skip
        (.exit 0))))
      (.seq (.blk 1 (.seq (.reg none [⟨some 9, none, .q (.mv (.c (.i .i64 0)))⟩])
        (.keep [1, 7, 8, 9]
        (.blk 2 (.keep [1, 7, 8, 9]
        (.loop (.fin [1, 7, 8, 9]
          (.seq (.seq (.reg none [⟨some 24, none, .q (.mv (.t 9))⟩, ⟨some 25, none, .q (.mv (.t 8))⟩, ⟨some 26, none, .q (.bin .lss (.t 24) (.t 25))⟩])
            (.keep [1, 7, 8, 9, 26]
            (.cond (.t 26) .skip
            (.exit 2))))
          (.seq (.blk 3 (.seq (.reg (some (13, [])) [⟨some 29, none, .q (.mv (.t 7))⟩, ⟨some 30, none, .q (.mv (.t 1))⟩, ⟨some 31, none, .q (.mv (.t 8))⟩, ⟨some 32, none, .q (.ias 1 (.t 30) (.t 31))⟩, ⟨some 33, none, .q (.ld none (.t 32))⟩, ⟨some 34, none, .q (.ias 1 (.t 29) (.t 33))⟩, ⟨some 35, none, .q (.ld none (.t 34))⟩, ⟨some 36, none, .q (.mv (.t 1))⟩, ⟨some 37, none, .q (.mv (.t 9))⟩, ⟨some 38, none, .q (.ias 1 (.t 36) (.t 37))⟩, ⟨some 39, none, .q (.ld none (.t 38))⟩, ⟨some 40, none, .q (.ias 1 (.t 35) (.t 39))⟩, ⟨some 41, none, .q (.ld none (.t 40))⟩])
            (.keep [1, 7, 8, 9, 41]
            (.cond (.t 41) (.seq (.reg none [⟨some 4, none, .q (.mv (.c (.b false)))⟩, ⟨some 5, none, .q (.mv (.c (.i .i64 0)))⟩])
              .ret)
            .skip))))
          (.keep [1, 7, 8, 9]
          (.reg none [⟨some 27, none, .q (.mv (.t 9))⟩, ⟨some 28, none, .q (.bin .add (.t 27) (.c (.i .i64 1)))⟩, ⟨some 9, none, .q (.mv (.t 28))⟩])))))))))))
      (.keep [1, 7, 8]
      (.reg none [⟨some 22, none, .q (.mv (.t 8))⟩, ⟨some 23, none, .q (.bin .add (.t 22) (.c (.i .i64 1)))⟩, ⟨some 8, none, .q (.mv (.t 23))⟩]))))))))))
  (.seq (.reg none [⟨some 4, none, .q (.mv (.c (.b true)))⟩, ⟨some 5, none, .q (.mv (.c (.i .i64 0)))⟩])
  .ret)))))))))
theorem r52 : (Try.f52.body.bind (resC Try.prog Try.f52.ntmps)) = some (strip c52) := by kernel_rfl
theorem s52 : Try.f52.results.toList.mapM (resRes Try.prog) = some [.t 4, .t 5] := by kernel_rfl
/-- scarab/scarabref12.Closed -/
def c54 : ACode :=
  (.seq (.reg none [⟨some 4, none, .q (.mv (.c .nil))⟩, ⟨some 5, none, .q (.mv (.c (.i .i64 0)))⟩])
  (.keep [0, 1]
  (.seq (.reg none [⟨some 12, none, .q (.mv (.t 0))⟩, ⟨some 13, none, .q (.mv (.t 1))⟩, ⟨some 14, none, .call (.f 91) [(.t 12), (.t 13), (.c (.b false))]⟩, ⟨some 6, none, .q (.mv (.t 14))⟩])
  (.keep [0, 1, 6]
  (.seq (.seq (.reg none [⟨some 15, none, .q (.mv (.t 6))⟩, ⟨some 16, none, .q (.bin .neq (.t 15) (.c (.i .i64 0)))⟩])
    (.keep [0, 1, 6, 16]
    (.cond (.t 16) (.seq (.reg none [⟨some 17, none, .q (.mv (.t 6))⟩, ⟨some 4, none, .q (.mv (.c .nil))⟩, ⟨some 5, none, .q (.mv (.t 17))⟩])
      .ret)
    .skip)))
  (.seq (.reg none [⟨some 18, none, .q (.mv (.t 0))⟩, ⟨some 19, none, .call (.f 36) [(.t 18)]⟩, ⟨some 7, none, .q (.mv (.t 19))⟩])
  (.keep [0, 1, 7]
  (.seq (.reg none [⟨some 8, none, .q (.mv (.c .nil))⟩])
  (.gst (.nilT 8 1)
  (.keep [0, 1, 7, 8]
  (.seq (.seq (.reg none [⟨some 9, none, .q (.mv (.c (.i .i64 0)))⟩])
    (.keep [0, 1, 7, 8, 9]
    (.blk 0 (.keep [0, 1, 7, 8, 9]
    (.loop (.fin [0, 1, 7, 8, 9]
      (.seq (.seq (.reg none [⟨some 20, none, .q (.mv (.t 9))⟩, ⟨some 21, none, .q (.mv (.t 0))⟩, ⟨some 22, none, .q (.len false (.t 21))⟩, ⟨some 23, none, .q (.bin .lss (.t 20) (.t 22))⟩])
        (.keep [0, 1, 7, 8, 9, 23]
        (.cond (.t 23) .skip
        (.exit 0))))
      (.seq (.blk 1 (.seq (.reg none [⟨some 10, none, .q (.mv (.c (.b false)))⟩])
        (.keep [0, 1, 7, 8, 9, 10]
        (.seq (.seq (.reg none [⟨some 11, none, .q (.mv (.c (.i .i64 0)))⟩])
          (.keep [0, 1, 7, 8, 9, 10, 11]
          (.blk 2 (.keep [0, 1, 7, 8, 9, 10, 11]
          (.loop (.fin [0, 1, 7, 8, 9, 10, 11]
            (.seq (.seq (.reg none [⟨some 26, none, .q (.mv (.t 11))⟩, ⟨some 27, none, .q (.mv (.t 1))⟩, ⟨some 28, none, .q (.len false (.t 27))⟩, ⟨some 29, none, .q (.bin .lss (.t 26) (.t 28))⟩])
              (.keep [0, 1, 7, 8, 9, 10, 11, 29]
              (.cond (.t 29) .skip
              (.exit 2))))
            (.seq (.blk 3 (.reg (some (22, [])) [⟨some 32, none, .q (.mv (.t 10))⟩, ⟨some 33, none, .q (.mv (.t 32))⟩, ⟨some 34, some (33, false), .q (.mv (.t 9))⟩, ⟨some 35, some (33, false), .q (.mv (.t 1))⟩, ⟨some 36, some (33, false), .q (.mv (.t 11))⟩, ⟨some 37, some (33, false), .q (.ias 1 (.t 35) (.t 36))⟩, ⟨some 38, some (33, false), .q (.ld none (.t 37))⟩, ⟨some 39, some (33, false), .q (.bin .eql (.t 34) (.t 38))⟩, ⟨some 40, none, .pk (.t 33) (.c (.b true)) (.t 39)⟩, ⟨some 41, none, .q (.mv (.t 40))⟩, ⟨some 42, some (41, false), .q (.mv (.t 7))⟩, ⟨some 43, some (41, false), .q (.mv (.t 9))⟩, ⟨some 44, some (41, false), .q (.ias 1 (.t 42) (.t 43))⟩, ⟨some 45, some (41, false), .q (.ld none (.t 44))⟩, ⟨some 46, some (41, false), .q (.mv (.t 1))⟩, ⟨some 47, some (41, false), .q (.mv (.t 11))⟩, ⟨some 48, some (41, false), .q (.ias 1 (.t 46) (.t 47))⟩, ⟨some 49, some (41, false), .q (.ld none (.t 48))⟩, ⟨some 50, some (41, false), .q (.ias 1 (.t 45) (.t 49))⟩, ⟨some 51, some (41, false), .q (.ld none (.t 50))⟩, ⟨some 52, none, .pk (.t 41) (.c (.b true)) (.t 51)⟩, ⟨some 10, none, .q (.mv (.t 52))⟩]))
            (.keep [0, 1, 7, 8, 9, 10, 11]
            (.reg none [⟨some 30, none, .q (.mv (.t 11))⟩, ⟨some 31, none, .q (.bin .add (.t 30) (.c (.i .i64 1)))⟩, ⟨some 11, none, .q (.mv (.t 31))⟩]))))))))))
        (.seq (.reg none [⟨some 53, none, .q (.mv (.t 10))⟩])
        (.keep [0, 1, 7, 8, 9, 53]
        (.cond (.t 53) (.reg none [⟨some 54, none, .q (.mv (.t 8))⟩, ⟨some 55, none, .q (.mv (.t 9))⟩, ⟨some 56, none, .m (.bsl 1 1 [(.i .i64 0)] [(0, 1, .t 55)])⟩, ⟨some 57, none, .m (.app 1 8 (.t 54) (.t 56))⟩, ⟨some 8, none, .q (.mv (.t 57))⟩])
        .skip)))))))
      (.keep [0, 1, 7, 8, 9]
      (.reg none [⟨some 24, none, .q (.mv (.t 9))⟩, ⟨some 25, none, .q (.bin .add (.t 24) (.c (.i .i64 1)))⟩, ⟨some 9, none, .q (.mv (.t 25))⟩]))))))))))
  (.seq (.gst (.letT 8 1)
    (.reg none [⟨some 58, none, .q (.mv (.t 8))⟩, ⟨some 4, none, .q (.mv (.t 58))⟩, ⟨some 5, none, .q (.mv (.c (.i .i64 0)))⟩]))
  .ret))))))))))))
theorem r54 : (Try.f54.body.bind (resC Try.prog Try.f54.ntmps)) = some (strip c54) := by kernel_rfl
theorem s54 : Try.f54.results.toList.mapM (resRes Try.prog) = some [.t 4, .t 5] := by kernel_rfl
/-- scarab/scarabref12.Cut -/
def c53 : ACode :=
  (.seq (.reg none [⟨some 4, none, .q (.mv (.c (.b false)))⟩, ⟨some 5, none, .q (.mv (.c (.i .i64 0)))⟩])
  (.keep [0, 1]
  (.seq (.reg none [⟨some 12, none, .q (.mv (.t 0))⟩, ⟨some 13, none, .q (.mv (.t 1))⟩, ⟨some 14, none, .call (.f 54) [(.t 12), (.t 13)]⟩, ⟨some 11, none, .q (.mv (.t 14))⟩, ⟨some 15, none, .q (.ext 0 (.t 11))⟩, ⟨some 16, none, .q (.ext 1 (.t 11))⟩, ⟨some 6, none, .q (.mv (.t 15))⟩, ⟨some 7, none, .q (.mv (.t 16))⟩])
  (.keep [1, 6, 7]
  (.seq (.seq (.reg none [⟨some 17, none, .q (.mv (.t 7))⟩, ⟨some 18, none, .q (.bin .neq (.t 17) (.c (.i .i64 0)))⟩])
    (.keep [1, 6, 7, 18]
    (.cond (.t 18) (.seq (.reg none [⟨some 19, none, .q (.mv (.t 7))⟩, ⟨some 4, none, .q (.mv (.c (.b false)))⟩, ⟨some 5, none, .q (.mv (.t 19))⟩])
      .ret)
    .skip)))
  (.seq (.seq (.reg none [⟨some 8, none, .q (.mv (.c (.i .i64 0)))⟩])
    (.keep [1, 6, 8]
    (.blk 0 (.keep [1, 6, 8]
    (.loop (.fin [1, 6, 8]
      (.seq (.seq (.reg none [⟨some 20, none, .q (.mv (.t 8))⟩, ⟨some 21, none, .q (.mv (.t 6))⟩, ⟨some 22, none, .q (.len false (.t 21))⟩, ⟨some 23, none, .q (.bin .lss (.t 20) (.t 22))⟩])
        (.keep [1, 6, 8, 23]
        (.cond (.t 23) .skip
        (.exit 0))))
      (.seq (.blk 1 (.seq (.reg none [⟨some 9, none, .q (.mv (.c (.b false)))⟩])
        (.keep [1, 6, 8, 9]
        (.seq (.seq (.reg none [⟨some 10, none, .q (.mv (.c (.i .i64 0)))⟩])
          (.keep [1, 6, 8, 9, 10]
          (.blk 2 (.keep [1, 6, 8, 9, 10]
          (.loop (.fin [1, 6, 8, 9, 10]
            (.seq (.seq (.reg none [⟨some 26, none, .q (.mv (.t 10))⟩, ⟨some 27, none, .q (.mv (.t 1))⟩, ⟨some 28, none, .q (.len false (.t 27))⟩, ⟨some 29, none, .q (.bin .lss (.t 26) (.t 28))⟩])
              (.keep [1, 6, 8, 9, 10, 29]
              (.cond (.t 29) .skip
              (.exit 2))))
            (.seq (.blk 3 (.reg (some (13, [])) [⟨some 32, none, .q (.mv (.t 9))⟩, ⟨some 33, none, .q (.mv (.t 32))⟩, ⟨some 34, some (33, false), .q (.mv (.t 6))⟩, ⟨some 35, some (33, false), .q (.mv (.t 8))⟩, ⟨some 36, some (33, false), .q (.ias 1 (.t 34) (.t 35))⟩, ⟨some 37, some (33, false), .q (.ld none (.t 36))⟩, ⟨some 38, some (33, false), .q (.mv (.t 1))⟩, ⟨some 39, some (33, false), .q (.mv (.t 10))⟩, ⟨some 40, some (33, false), .q (.ias 1 (.t 38) (.t 39))⟩, ⟨some 41, some (33, false), .q (.ld none (.t 40))⟩, ⟨some 42, some (33, false), .q (.bin .eql (.t 37) (.t 41))⟩, ⟨some 43, none, .pk (.t 33) (.c (.b true)) (.t 42)⟩, ⟨some 9, none, .q (.mv (.t 43))⟩]))
            (.keep [1, 6, 8, 9, 10]
            (.reg none [⟨some 30, none, .q (.mv (.t 10))⟩, ⟨some 31, none, .q (.bin .add (.t 30) (.c (.i .i64 1)))⟩, ⟨some 10, none, .q (.mv (.t 31))⟩]))))))))))
        (.seq (.reg none [⟨some 44, none, .q (.mv (.t 9))⟩, ⟨some 45, none, .q (.un .not (.t 44))⟩])
        (.keep [1, 6, 8, 45]
        (.cond (.t 45) (.seq (.reg none [⟨some 4, none, .q (.mv (.c (.b false)))⟩, ⟨some 5, none, .q (.mv (.c (.i .i64 0)))⟩])
          .ret)
        .skip)))))))
      (.keep [1, 6, 8]
      (.reg none [⟨some 24, none, .q (.mv (.t 8))⟩, ⟨some 25, none, .q (.bin .add (.t 24) (.c (.i .i64 1)))⟩, ⟨some 8, none, .q (.mv (.t 25))⟩]))))))))))
  (.seq (.reg none [⟨some 4, none, .q (.mv (.c (.b true)))⟩, ⟨some 5, none, .q (.mv (.c (.i .i64 0)))⟩])
  .ret)))))))
theorem r53 : (Try.f53.body.bind (resC Try.prog Try.f53.ntmps)) = some (strip c53) := by kernel_rfl
theorem s53 : Try.f53.results.toList.mapM (resRes Try.prog) = some [.t 4, .t 5] := by kernel_rfl
/-- Is place i right, behind those ahead of it? -/
def okAt (n : Nat) (all : Bool) (l : List Int) (i : Nat) : Bool := decide (0 ≤ l.getD i 0 ∧ l.getD i 0 < (n : Int)) && !(all && (l.take i).contains (l.getD i 0))
def placesE (n : Nat) (all : Bool) (l : List Int) : Int := if 256 < l.length then 2 else if (List.range l.length).all (okAt n all l) && !(all && decide (l.length ≠ n)) then 0 else 1
def seenR (n : Nat) (l : List Int) (k : Nat) : List Bool := (List.range n).map fun q => (l.take k).contains ((q : Nat) : Int)
@[simp] theorem seenR_length (n : Nat) (l : List Int) (k : Nat) : (seenR n l k).length = n := by simp [seenR]
theorem seenR_get {n : Nat} {l : List Int} {k q : Nat} (h : q < (seenR n l k).length) : (seenR n l k)[q] = (l.take k).contains ((q : Nat) : Int) := by simp [seenR]
theorem seenR_succ {n : Nat} {l : List Int} {k q : Nat} (hk : k < l.length) (hq : l[k] = (q : Int)) : (seenR n l k).set q true = seenR n l (k + 1) := by
  refine List.ext_getElem (by simp) fun p h1 h2 => ?_
  rw [List.getElem_set, seenR_get, seenR_get, List.take_succ_eq_append_getElem hk, hq]
  by_cases e : q = p
  · subst e; simp
  · rw [if_neg e]
    have : ¬ (p : Int) = (q : Int) := by omega
    simp [this]
theorem places_p (t : List Ev) (hn : t.length < 100000000) (l : List Int) (hl : l.length < 100000000000000) (all : Bool) : PureS Try.prog 91 [.sl 26 (t.map Ev.row), .sl 1 (l.map irow), .b all] (.i .i64 (placesE t.length all l)) := by
  by_cases h2 : 256 < l.length
  · have h2I : (256 : Int) < (l.length : Int) := by omega
    refine fun_go hmx Try.func91 r91 s91 (by rw [Try.ntmps91]; simp) ?_
    unfold c91
    simp [h2I, placesE, h2]
  have h2I : ¬ (256 : Int) < (l.length : Int) := by omega
  refine fun_go hmx Try.func91 r91 s91 (by rw [Try.ntmps91]; simp) ?_
  unfold c91
  simp [h2I]
  refine ⟨⟨by omega, by omega⟩, ?_⟩
  refine go_while hmx 1 (fun (k : Nat) => [(8, .v (.i .i64 (k : Int)))]) (fun k => [.arr 0 1 (vrows ((seenR t.length l k).map brow))]) (fun k => k ≤ l.length ∧ (List.range k).all (okAt t.length all l) = true) (fun k => l.length - k) 0 rfl (by simp) ?_ (by simp) (by simp) (by simp) ⟨Nat.zero_le _, by simp⟩ ?_
  · simp only [seenR, List.take_zero, List.contains_nil]
    rw [List.map_const', List.length_range]
    simp [vrows, brow]
  rintro k ⟨hk, hok⟩
  by_cases hkl : k < l.length
  · have hI : (k : Int) < (l.length : Int) := by omega
    have hw : IntKind.i64.wrap ((k : Int) + 1) = (k : Int) + 1 := wrap_in (by omega) (by omega)
    have hgx : l.getD k 0 = l[k] := by rw [List.getD_eq_getElem?_getD, List.getElem?_eq_getElem hkl]; rfl
    have hbad : okAt t.length all l k = false → placesE t.length all l = 1 := fun hb => by
      unfold placesE
      rw [if_neg h2, if_neg]
      rw [Bool.and_eq_true]
      rintro ⟨h3, _⟩
      have := List.all_eq_true.1 h3 k (by simpa using hkl)
      rw [hb] at this; cases this
    have hnext : okAt t.length all l k = true → (List.range (k + 1)).all (okAt t.length all l) = true := fun hb => by
      rw [List.range_succ, List.all_append, hok]; simp [hb]
    have hdef : okAt t.length all l k = (decide (0 ≤ l[k] ∧ l[k] < (t.length : Int)) && !(all && (l.take k).contains l[k])) := by unfold okAt; rw [hgx]
    by_cases hr : 0 ≤ l[k] ∧ l[k] < (t.length : Int)
    · obtain ⟨q, hq⟩ : ∃ q : Nat, l[k] = (q : Int) := ⟨l[k].toNat, by omega⟩
      have hqn : q < t.length := by omega
      have hss := seenR_succ (n := t.length) hkl hq
      rw [hq] at hdef hr
      rw [decide_eq_true hr, Bool.true_and] at hdef
      have hr1 : ¬ (q : Int) < 0 := by omega
      have hr2 : ¬ (t.length : Int) ≤ (q : Int) := by omega
      have hqI : (q : Int) < (t.length : Int) := by omega
      cases all with
      | false =>
        have hn1 := hnext (by rw [hdef]; rfl)
        simp only [List.all_eq_true, List.mem_range] at hn1
        simp [hI, hkl, irow, hq, hr1, hr2, hqI, hqn, seenR_get, vrows_at, brow]
        exact ⟨k + 1, by rw [hw]; rfl, by rw [← hss]; simp [vrows, List.map_set, brow], ⟨by omega, hn1⟩, by omega⟩
      | true =>
        simp [hI, hkl, irow, hq, hr1, hr2, hqI, hqn, seenR_get, vrows_at, brow]
        refine ⟨fun hc => (hbad (by rw [hdef]; simpa using hc)).symm, fun hc => ?_⟩
        have hn1 := hnext (by rw [hdef]; simpa using hc)
        simp only [List.all_eq_true, List.mem_range] at hn1
        exact ⟨k + 1, by rw [hw]; rfl, by rw [← hss]; simp [vrows, List.map_set, brow], ⟨by omega, hn1⟩, by omega⟩
    · rw [decide_eq_false hr, Bool.false_and] at hdef
      have hp1 := hbad hdef
      cases hx : (seenR t.length l k)[l[k].toNat]? with
      | none =>
        by_cases hlt : l[k] < 0
        · simp [hI, hkl, irow, hlt, hx]
          exact hp1.symm
        · have hge : (t.length : Int) ≤ l[k] := by omega
          simp [hI, hkl, irow, hlt, hge, hx]
          exact hp1.symm
      | some b =>
        by_cases hlt : l[k] < 0
        · simp [hI, hkl, irow, hlt, hx, brow]
          exact hp1.symm
        · have hge : (t.length : Int) ≤ l[k] := by omega
          simp [hI, hkl, irow, hlt, hge, hx, brow]
          exact hp1.symm
  · obtain rfl : k = l.length := by omega
    simp
    unfold placesE
    rw [if_neg h2, hok]
    refine ⟨fun ha hb => ?_, fun ha => ?_⟩
    · rw [ha, if_neg (by simp; omega)]
    · rw [if_pos]
      cases all with
      | false => rfl
      | true => have := ha rfl; simp; omega
theorem placesE_ok {n : Nat} {all : Bool} {l : List Int} (h : placesE n all l = 0) : l.length ≤ 256 ∧ ∃ m : List Nat, l = castL m ∧ ∀ i ∈ m, i < n := by
  unfold placesE at h
  split at h
  · cases h
  · split at h
    · rename_i h1 h2
      rw [Bool.and_eq_true] at h2
      have hp : ∀ x ∈ l, 0 ≤ x ∧ x < (n : Int) := fun x hx => by
        obtain ⟨k, hk, rfl⟩ := List.getElem_of_mem hx
        have := List.all_eq_true.1 h2.1 k (by simpa using hk)
        unfold okAt at this
        rw [Bool.and_eq_true, decide_eq_true_eq, List.getD_eq_getElem?_getD, List.getElem?_eq_getElem hk] at this
        exact this.1
      refine ⟨by omega, l.map Int.toNat, ?_, fun i hi => ?_⟩
      · unfold castL
        rw [List.map_map]
        refine (List.map_id l).symm.trans (List.map_congr_left fun x hx => ?_)
        have := hp x hx
        simp only [id, Function.comp]
        omega
      · rw [List.mem_map] at hi
        obtain ⟨x, hx, rfl⟩ := hi
        have := hp x hx
        omega
    · cases h
theorem linearR_p (t : List Ev) (h : Good t) (l : List Int) (hl : l.length < 100000000000000) : PureS Try.prog 52 [.sl 26 (t.map Ev.row), .sl 1 (l.map irow)] (.tup [.b (decide (placesE t.length true l = 0) && linN t (l.map Int.toNat)), .i .i64 (placesE t.length true l)]) := by
  have hlen := h.len
  refine fun_go hmx Try.func52 r52 s52 (by rw [Try.ntmps52]; simp) ?_
  unfold c52
  simp
  first
    | refine callk rfl Try.call91 (places_p t (by omega) l hl true) rfl ?_
    | refine callks rfl Try.call91 (places_p t (by omega) l hl true) rfl ?_
    | refine callq rfl Try.call91 (places_p t (by omega) l hl true) rfl ?_
    | refine callqe rfl Try.call91 (places_p t (by omega) l hl true) rfl ?_
  by_cases h0 : placesE t.length true l = 0
  rotate_left
  · simp [h0]
  obtain ⟨hll, m, rfl, hm⟩ := placesE_ok h0
  have hmm : (castL m).map Int.toNat = m := castL_nat m
  have hcl : (castL m).length = m.length := by simp [castL]
  rw [hmm]
  simp [h0]
  first
    | refine callk rfl Try.call36 (befM_p t h) rfl ?_
    | refine callks rfl Try.call36 (befM_p t h) rfl ?_
    | refine callq rfl Try.call36 (befM_p t h) rfl ?_
    | refine callqe rfl Try.call36 (befM_p t h) rfl ?_
  simp [matV]
  have hml : m.length < 1000000 := by omega
  have hcg : ∀ (k : Nat) (hk : k < m.length), (castL m)[k]'(by omega) = (m[k] : Int) := fun k hk => by simp [castL]
  refine go_while hmx 0 (fun (b : Nat) => [(8, .v (.i .i64 (b : Int)))]) (fun _ => []) (fun b => b ≤ m.length ∧ ∀ b', b' < b → ∀ a, a < b' → befT t (m.getD b' 0) (m.getD a 0) = false) (fun b => m.length - b) 0 rfl (by simp) rfl (by simp) (by simp) (by simp) ⟨Nat.zero_le _, fun b' h => by omega⟩ ?_
  rintro b ⟨hb, hib⟩
  by_cases hbl : b < m.length
  · have hB : (b : Int) < (m.length : Int) := by omega
    have hwb : IntKind.i64.wrap ((b : Int) + 1) = (b : Int) + 1 := wrap_in (by omega) (by omega)
    have hbc : b < (castL m).length := by omega
    have hbg : m.getD b 0 = m[b] := by rw [List.getD_eq_getElem?_getD, List.getElem?_eq_getElem hbl]; rfl
    have hbn : m[b] < t.length := hm _ (List.getElem_mem hbl)
    have hbI : (m[b] : Int) < (t.length : Int) := by omega
    simp [hB, hcl]
    refine go_while hmx 0 (fun (a : Nat) => [(9, .v (.i .i64 (a : Int)))]) (fun _ => []) (fun a => a ≤ b ∧ ∀ a', a' < a → befT t (m.getD b 0) (m.getD a' 0) = false) (fun a => b - a) 0 rfl (by simp) rfl (by simp) (by simp) (by simp) ⟨Nat.zero_le _, fun a' h => by omega⟩ ?_
    rintro a ⟨ha, hia⟩
    by_cases hal : a < b
    · have hA : (a : Int) < (b : Int) := by omega
      have hwa : IntKind.i64.wrap ((a : Int) + 1) = (a : Int) + 1 := wrap_in (by omega) (by omega)
      have ham : a < m.length := by omega
      have hac : a < (castL m).length := by omega
      have hag : m.getD a 0 = m[a] := by rw [List.getD_eq_getElem?_getD, List.getElem?_eq_getElem ham]; rfl
      have han : m[a] < t.length := hm _ (List.getElem_mem ham)
      have haI : (m[a] : Int) < (t.length : Int) := by omega
      have hAm : (a : Int) < (m.length : Int) := by omega
      simp [hA, hB, hAm, hcl, hbl, ham, hbc, hac, hcg, irow, hbn, han, hbI, haI, mat_at, mrow, brow]
      refine ⟨fun hb1 => ?_, fun hb1 => ⟨a + 1, by rw [hwa]; rfl, ⟨by omega, fun a' h1 => ?_⟩, by omega⟩⟩
      · rw [Bool.eq_false_iff, Ne, linN_iff]
        intro h3
        have := h3 b hbl a hal
        rw [hbg, hag, hb1] at this
        cases this
      · by_cases he : a' = a
        · subst he
          show befT t m[b] (m.getD a' 0) = false
          rw [hag]; exact hb1
        · have := hia a' (by omega)
          rw [hbg] at this
          exact this
    · obtain rfl : a = b := by omega
      simp [hwb]
      refine ⟨a + 1, rfl, ⟨by omega, fun b' h1 a' h2 => ?_⟩, by omega⟩
      by_cases he : b' = a
      · subst he; exact hia a' h2
      · exact hib b' (by omega) a' h2
  · obtain rfl : b = m.length := by omega
    simp [hcl]
    exact linN_iff.2 hib
/-- What of the places is closed, to i. -/
def inT (t : List Ev) (m : List Nat) (i k : Nat) : Bool := (m.take k).any fun q => decide (i = q) || befT t i q
theorem inT_succ {t : List Ev} {m : List Nat} {i k : Nat} (hk : k < m.length) : inT t m i (k + 1) = (inT t m i k || decide (i = m[k]) || befT t i m[k]) := by
  unfold inT
  rw [List.take_succ_eq_append_getElem hk, List.any_append]
  simp [Bool.or_assoc]
theorem closedR_p (t : List Ev) (h : Good t) (l : List Int) (hl : l.length < 100000000000000) : PureS Try.prog 54 [.sl 26 (t.map Ev.row), .sl 1 (l.map irow)] (.tup [if placesE t.length false l = 0 then .sl 1 ((castL (closN t (l.map Int.toNat))).map irow) else .nil, .i .i64 (placesE t.length false l)]) := by
  have hlen := h.len
  refine fun_go hmx Try.func54 r54 s54 (by rw [Try.ntmps54]; simp) ?_
  unfold c54
  simp
  first
    | refine callk rfl Try.call91 (places_p t (by omega) l hl false) rfl ?_
    | refine callks rfl Try.call91 (places_p t (by omega) l hl false) rfl ?_
    | refine callq rfl Try.call91 (places_p t (by omega) l hl false) rfl ?_
    | refine callqe rfl Try.call91 (places_p t (by omega) l hl false) rfl ?_
  by_cases h0 : placesE t.length false l = 0
  rotate_left
  · simp [h0]
  obtain ⟨hll, m, rfl, hm⟩ := placesE_ok h0
  have hmm : (castL m).map Int.toNat = m := castL_nat m
  have hcl : (castL m).length = m.length := by simp [castL]
  rw [hmm]
  simp [h0]
  first
    | refine callk rfl Try.call36 (befM_p t h) rfl ?_
    | refine callks rfl Try.call36 (befM_p t h) rfl ?_
    | refine callq rfl Try.call36 (befM_p t h) rfl ?_
    | refine callqe rfl Try.call36 (befM_p t h) rfl ?_
  simp [matV]
  have hml : m.length < 1000000 := by omega
  have hcg : ∀ (k : Nat) (hk : k < m.length), (castL m)[k]'(by omega) = (m[k] : Int) := fun k hk => by simp [castL]
  refine go_while hmx 1 (fun (s : Nat × Nat) => [(8, .os 0 s.2), (9, .v (.i .i64 (s.1 : Int)))]) (fun s => [.arr s.2 1 (vrows ((castL (selTo (fun i => inT t m i m.length) s.1)).map irow))]) (fun s => s.1 ≤ t.length) (fun s => t.length - s.1) (0, 0) rfl (by simp) rfl (by simp) (by simp) (by simp) (Nat.zero_le _) ?_
  rintro ⟨i, v⟩ hi
  simp only at hi
  by_cases hil : i < t.length
  · have hI : (i : Int) < (t.length : Int) := by omega
    have hwi : IntKind.i64.wrap ((i : Int) + 1) = (i : Int) + 1 := wrap_in (by omega) (by omega)
    simp [hI]
    refine go_while hmx 1 (fun (k : Nat) => [(10, .v (.b (inT t m i k))), (11, .v (.i .i64 (k : Int)))]) (fun _ => [.arr v 1 (vrows ((castL (selTo (fun i => inT t m i m.length) i)).map irow))]) (fun k => k ≤ m.length) (fun k => m.length - k) 0 rfl (by simp [inT]) rfl (by simp) (by simp) (by simp) (Nat.zero_le _) ?_
    intro k hk
    by_cases hkl : k < m.length
    · have hK : (k : Int) < (m.length : Int) := by omega
      have hwk : IntKind.i64.wrap ((k : Int) + 1) = (k : Int) + 1 := wrap_in (by omega) (by omega)
      have hkc : k < (castL m).length := by omega
      have hkn : m[k] < t.length := hm _ (List.getElem_mem hkl)
      have hkI : (m[k] : Int) < (t.length : Int) := by omega
      have hsn := inT_succ (t := t) (i := i) hkl
      simp [hK, hkl, hcl, hkc, hcg, irow, hil, hI, hkn, hkI, mat_at, mrow, brow]
      refine ⟨k + 1, ⟨?_, by rw [hwk]; rfl⟩, by omega, by omega⟩
      rw [hsn]
      congr 2
      rw [decide_eq_decide]; omega
    · obtain rfl : k = m.length := by omega
      have hs := selTo_succ (fun i => inT t m i m.length) i
      have hsl := selTo_len (fun i => inT t m i m.length) i
      have hsc : (castL (selTo (fun i => inT t m i m.length) i)).length = (selTo (fun i => inT t m i m.length) i).length := by simp [castL]
      simp [hcl, hwi]
      refine ⟨fun hf => ⟨⟨by omega, by omega⟩, i + 1, v + 1, ⟨rfl, rfl⟩, ⟨rfl, ?_⟩, by omega, by omega⟩, fun hf => ⟨i + 1, v, ⟨rfl, rfl⟩, ⟨rfl, ?_⟩, by omega, by omega⟩⟩
      · rw [hs, if_pos hf]; simp [vrows, irow, castL]
      · rw [hs, if_neg (by rw [hf]; simp)]
  · obtain rfl : i = t.length := by omega
    simp
    have : (fun i => inT t m i m.length) = fun i => m.any fun q => decide (i = q) || befT t i q := by
      funext i; unfold inT; rw [List.take_length]
    rw [closN, this]
theorem cutR_p (t : List Ev) (h : Good t) (l : List Int) (hl : l.length < 100000000000000) : PureS Try.prog 53 [.sl 26 (t.map Ev.row), .sl 1 (l.map irow)] (.tup [.b (decide (placesE t.length false l = 0) && cutN t (l.map Int.toNat)), .i .i64 (placesE t.length false l)]) := by
  have hlen := h.len
  refine fun_go hmx Try.func53 r53 s53 (by rw [Try.ntmps53]; simp) ?_
  unfold c53
  simp
  first
    | refine callk rfl Try.call54 (closedR_p t h l hl) rfl ?_
    | refine callks rfl Try.call54 (closedR_p t h l hl) rfl ?_
    | refine callq rfl Try.call54 (closedR_p t h l hl) rfl ?_
    | refine callqe rfl Try.call54 (closedR_p t h l hl) rfl ?_
  by_cases h0 : placesE t.length false l = 0
  rotate_left
  · simp [h0]
  obtain ⟨hll, m, rfl, hm⟩ := placesE_ok h0
  have hmm : (castL m).map Int.toNat = m := castL_nat m
  have hcl : (castL m).length = m.length := by simp [castL]
  rw [hmm]
  simp [h0]
  have hml : m.length < 1000000 := by omega
  have hcg : ∀ (k : Nat) (hk : k < m.length), (castL m)[k]'(by omega) = (m[k] : Int) := fun k hk => by simp [castL]
  have hCl : (closN t m).length ≤ 256 := by have := selTo_len (fun i => m.any fun q => decide (i = q) || befT t i q) t.length; unfold closN; omega
  obtain ⟨C, hC⟩ : ∃ C, closN t m = C := ⟨_, rfl⟩
  have hcut : cutN t m = C.all fun i => m.contains i := by unfold cutN; rw [hC]
  rw [hC] at hCl ⊢
  have hcC : (castL C).length = C.length := by simp [castL]
  have hCg : ∀ (k : Nat) (hk : k < C.length), (castL C)[k]'(by omega) = (C[k] : Int) := fun k hk => by simp [castL]
  refine go_while hmx 0 (fun (i : Nat) => [(8, .v (.i .i64 (i : Int)))]) (fun _ => []) (fun i => i ≤ C.length ∧ (C.take i).all (fun x => m.contains x) = true) (fun i => C.length - i) 0 rfl (by simp) rfl (by simp) (by simp) (by simp) ⟨Nat.zero_le _, by simp⟩ ?_
  rintro i ⟨hi, hai⟩
  by_cases hil : i < C.length
  · have hI : (i : Int) < (C.length : Int) := by omega
    have hwi : IntKind.i64.wrap ((i : Int) + 1) = (i : Int) + 1 := wrap_in (by omega) (by omega)
    have hic : i < (castL C).length := by omega
    simp [hI, hcC]
    refine go_while hmx 0 (fun (k : Nat) => [(9, .v (.b (decide (C[i] ∈ m.take k)))), (10, .v (.i .i64 (k : Int)))]) (fun _ => []) (fun k => k ≤ m.length) (fun k => m.length - k) 0 rfl (by simp) rfl (by simp) (by simp) (by simp) (Nat.zero_le _) ?_
    intro k hk
    by_cases hkl : k < m.length
    · have hK : (k : Int) < (m.length : Int) := by omega
      have hwk : IntKind.i64.wrap ((k : Int) + 1) = (k : Int) + 1 := wrap_in (by omega) (by omega)
      have hkc : k < (castL m).length := by omega
      have hcs : decide (C[i] ∈ m.take (k + 1)) = (decide (C[i] ∈ m.take k) || decide (C[i] = m[k])) := by
        rw [List.take_succ_eq_append_getElem hkl, ← Bool.decide_or, decide_eq_decide, List.mem_append, List.mem_singleton]
      simp [hK, hkl, hcl, hkc, hcg, irow, hil, hI, hic, hCg, hcC]
      refine ⟨k + 1, ⟨?_, by rw [hwk]; rfl⟩, by omega, by omega⟩
      rw [hcs]
      congr 1
      rw [Bool.eq_iff_iff, beq_iff_eq, decide_eq_true_eq]; omega
    · obtain rfl : k = m.length := by omega
      simp [hcl, hwi]
      refine ⟨fun hn => ?_, fun hn => ⟨i + 1, rfl, ⟨by omega, fun x hx => ?_⟩, by omega⟩⟩
      · rw [hcut, Bool.eq_false_iff, Ne, List.all_eq_true]
        intro h3
        exact hn (by simpa using h3 C[i] (List.getElem_mem hil))
      · rw [List.take_succ_eq_append_getElem hil, List.mem_append, List.mem_singleton] at hx
        rcases hx with hx | rfl
        · have := List.all_eq_true.1 hai x hx; simpa using this
        · exact hn
  · obtain rfl : i = C.length := by omega
    simp [hcC]
    rw [List.take_length] at hai
    rw [hcut]; exact hai
end Go.Sc.Or
