/- Chapter 03: what an instruction reads and sets, by the program's text. No condition. -/
import Derived.Test.YtdjcfjfgdblefaaXSo
set_option linter.constructorNameAsVariable false
namespace Go.Sc.So
open Go Go.RowKit Go.Av Go.Proofs Go.Sc Go.Sc.Srt Go.Sc.Q03
set_option linter.unusedSimpArgs false
set_option linter.unusedVariables false
/-- scarab/prog.Reads -/
def c26 : ACode :=
  (.seq (.reg none [⟨some 3, none, .m (.box (.t 0))⟩, ⟨some 6, none, .q (.mv (.c .nil))⟩, ⟨some 7, none, .q (.mv (.c (.i .i64 0)))⟩])
  (.keep [1, 2, 3]
  (.seq (.reg none [⟨some 15, none, .q (.ld (some 4) (.t 3))⟩, ⟨some 16, none, .q (.mv (.t 1))⟩, ⟨some 17, none, .q (.mv (.t 2))⟩, ⟨some 18, none, .call (.f 47) [(.t 15), (.t 16), (.t 17)]⟩, ⟨some 14, none, .q (.mv (.t 18))⟩, ⟨some 19, none, .q (.ext 0 (.t 14))⟩, ⟨some 20, none, .q (.ext 1 (.t 14))⟩, ⟨some 8, none, .m (.alloc (.g [(.i .i64 0), (.i .i64 0), (.i .i64 0), (.i .i64 0), (.i .i64 0)]))⟩, ⟨none, none, .m (.st 5 (.t 8) (.t 19))⟩, ⟨some 9, none, .q (.mv (.t 20))⟩])
  (.keep [1, 3, 8, 9]
  (.seq (.seq (.reg none [⟨some 21, none, .q (.mv (.t 9))⟩, ⟨some 22, none, .q (.bin .neq (.t 21) (.c (.i .i64 0)))⟩])
    (.keep [1, 3, 8, 9, 22]
    (.cond (.t 22) (.seq (.reg none [⟨some 23, none, .q (.mv (.t 9))⟩, ⟨some 6, none, .q (.mv (.c .nil))⟩, ⟨some 7, none, .q (.mv (.t 23))⟩])
      .ret)
    .skip)))
  (.seq (.reg none [⟨some 10, none, .q (.mv (.c .nil))⟩])
  (.gst (.nilT 10 1)
  (.keep [1, 3, 8, 10]
  (.seq (.seq (.reg none [⟨some 24, none, .q (.fa 0 (.t 8))⟩, ⟨some 25, none, .q (.ld none (.t 24))⟩])
    (.keep [1, 3, 8, 10, 25]
    (.blk 0 (.seq (.seq (.reg none [⟨some 41, none, .q (.bin .eql (.t 25) (.c (.i .i64 43)))⟩, ⟨some 40, none, .q (.mv (.t 41))⟩])
      (.keep [1, 3, 8, 10, 25, 40]
      (.cond (.t 40) .skip
      (.seq (.reg none [⟨some 42, none, .q (.bin .eql (.t 25) (.c (.i .i64 44)))⟩, ⟨some 40, none, .q (.mv (.t 42))⟩])
        (.keep [1, 3, 8, 10, 25, 40]
        (.cond (.t 40) .skip
        (.seq (.reg none [⟨some 43, none, .q (.bin .eql (.t 25) (.c (.i .i64 63)))⟩, ⟨some 40, none, .q (.mv (.t 43))⟩])
          (.keep [1, 3, 8, 10, 25, 40]
          (.cond (.t 40) .skip
          (.reg none [⟨some 44, none, .q (.bin .eql (.t 25) (.c (.i .i64 65)))⟩, ⟨some 40, none, .q (.mv (.t 44))⟩]))))))))))
    (.cond (.t 40) (.reg none [⟨some 45, none, .q (.fa 1 (.t 8))⟩, ⟨some 46, none, .q (.ld none (.t 45))⟩, ⟨some 47, none, .m (.bsl 1 1 [(.i .i64 0)] [(0, 1, .t 46)])⟩, ⟨some 10, none, .q (.mv (.t 47))⟩])
    (.seq (.seq (.reg none [⟨some 49, none, .q (.bin .eql (.t 25) (.c (.i .i64 51)))⟩, ⟨some 48, none, .q (.mv (.t 49))⟩])
        (.keep [1, 3, 8, 10, 25, 48]
        (.cond (.t 48) .skip
        (.seq (.reg none [⟨some 50, none, .q (.bin .eql (.t 25) (.c (.i .i64 54)))⟩, ⟨some 48, none, .q (.mv (.t 50))⟩])
          (.keep [1, 3, 8, 10, 25, 48]
          (.cond (.t 48) .skip
          (.seq (.reg none [⟨some 51, none, .q (.bin .eql (.t 25) (.c (.i .i64 58)))⟩, ⟨some 48, none, .q (.mv (.t 51))⟩])
            (.keep [1, 3, 8, 10, 25, 48]
            (.cond (.t 48) .skip
            (.reg none [⟨some 52, none, .q (.bin .eql (.t 25) (.c (.i .i64 41)))⟩, ⟨some 48, none, .q (.mv (.t 52))⟩]))))))))))
      (.cond (.t 48) (.reg none [⟨some 53, none, .q (.fa 2 (.t 8))⟩, ⟨some 54, none, .q (.ld none (.t 53))⟩, ⟨some 55, none, .m (.bsl 1 1 [(.i .i64 0)] [(0, 1, .t 54)])⟩, ⟨some 10, none, .q (.mv (.t 55))⟩])
      (.seq (.reg none [⟨some 57, none, .q (.bin .eql (.t 25) (.c (.i .i64 52)))⟩, ⟨some 56, none, .q (.mv (.t 57))⟩])
        (.keep [1, 3, 8, 10, 25, 56]
        (.cond (.t 56) (.reg none [⟨some 58, none, .q (.fa 3 (.t 8))⟩, ⟨some 59, none, .q (.ld none (.t 58))⟩, ⟨some 60, none, .m (.bsl 1 1 [(.i .i64 0)] [(0, 1, .t 59)])⟩, ⟨some 10, none, .q (.mv (.t 60))⟩])
        (.seq (.reg none [⟨some 62, none, .q (.bin .eql (.t 25) (.c (.i .i64 53)))⟩, ⟨some 61, none, .q (.mv (.t 62))⟩])
          (.keep [1, 3, 8, 10, 25, 61]
          (.cond (.t 61) (.reg none [⟨some 63, none, .q (.fa 3 (.t 8))⟩, ⟨some 64, none, .q (.ld none (.t 63))⟩, ⟨some 65, none, .q (.fa 4 (.t 8))⟩, ⟨some 66, none, .q (.ld none (.t 65))⟩, ⟨some 67, none, .m (.bsl 2 1 [(.i .i64 0)] [(0, 1, .t 64), (1, 1, .t 66)])⟩, ⟨some 10, none, .q (.mv (.t 67))⟩])
          (.seq (.reg none [⟨some 69, none, .q (.bin .eql (.t 25) (.c (.i .i64 62)))⟩, ⟨some 68, none, .q (.mv (.t 69))⟩])
            (.keep [1, 3, 8, 10, 25, 68]
            (.cond (.t 68) (.seq (.reg none [⟨some 70, none, .q (.fa 3 (.t 3))⟩, ⟨some 71, none, .q (.ld none (.t 70))⟩, ⟨some 72, none, .q (.fa 2 (.t 8))⟩, ⟨some 73, none, .q (.ld none (.t 72))⟩, ⟨some 74, none, .q (.ias 4 (.t 71) (.t 73))⟩, ⟨some 75, none, .q (.fa 0 (.t 74))⟩, ⟨some 76, none, .q (.ld none (.t 75))⟩, ⟨some 77, none, .q (.mv (.c (.i .i64 0)))⟩])
              (.keep [8, 10, 76, 77]
              (.blk 1 (.keep [8, 10, 76, 77]
              (.loop (.fin [8, 10, 76, 77]
                (.seq (.reg none [⟨some 78, none, .q (.bin .lss (.t 77) (.t 76))⟩])
                (.keep [8, 10, 76, 77, 78]
                (.seq (.cond (.t 78) .skip
                  (.exit 1))
                (.seq (.blk 2 (.seq (.reg none [⟨some 79, none, .q (.mv (.t 77))⟩, ⟨some 11, none, .q (.mv (.t 79))⟩])
                  (.keep [8, 10, 11, 76, 77]
                  (.reg none [⟨some 80, none, .q (.mv (.t 10))⟩, ⟨some 81, none, .q (.fa 3 (.t 8))⟩, ⟨some 82, none, .q (.ld none (.t 81))⟩, ⟨some 83, none, .q (.mv (.t 11))⟩, ⟨some 84, none, .q (.bin .add (.t 82) (.t 83))⟩, ⟨some 85, none, .m (.bsl 1 1 [(.i .i64 0)] [(0, 1, .t 84)])⟩, ⟨some 86, none, .m (.app 1 8 (.t 80) (.t 85))⟩, ⟨some 10, none, .q (.mv (.t 86))⟩]))))
                (.keep [8, 10, 76, 77]
                (.reg none [⟨some 87, none, .q (.bin .add (.t 77) (.c (.i .i64 1)))⟩, ⟨some 77, none, .q (.mv (.t 87))⟩]))))))))))))
            (.seq (.reg none [⟨some 89, none, .q (.bin .eql (.t 25) (.c (.i .i64 61)))⟩, ⟨some 88, none, .q (.mv (.t 89))⟩])
              (.keep [1, 3, 8, 10, 88]
              (.cond (.t 88) (.seq (.reg (some (13, [])) [⟨some 90, none, .q (.fa 3 (.t 3))⟩, ⟨some 91, none, .q (.ld none (.t 90))⟩, ⟨some 92, none, .q (.mv (.t 1))⟩, ⟨some 93, none, .q (.ias 4 (.t 91) (.t 92))⟩, ⟨some 94, none, .q (.fa 3 (.t 93))⟩, ⟨some 95, none, .q (.ld none (.t 94))⟩, ⟨some 96, none, .q (.fa 1 (.t 8))⟩, ⟨some 97, none, .q (.ld none (.t 96))⟩, ⟨some 98, none, .q (.ias 2 (.t 95) (.t 97))⟩, ⟨some 99, none, .q (.fa 0 (.t 98))⟩, ⟨some 100, none, .q (.ld none (.t 99))⟩, ⟨some 101, none, .q (.len false (.t 100))⟩, ⟨some 102, none, .q (.mv (.c (.i .i64 0)))⟩])
                (.keep [10, 100, 101, 102]
                (.blk 3 (.keep [10, 100, 101, 102]
                (.loop (.fin [10, 100, 101, 102]
                  (.seq (.reg none [⟨some 103, none, .q (.bin .lss (.t 102) (.t 101))⟩])
                  (.keep [10, 100, 101, 102, 103]
                  (.seq (.cond (.t 103) .skip
                    (.exit 3))
                  (.seq (.blk 4 (.seq (.reg none [⟨some 104, none, .q (.ias 4 (.t 100) (.t 102))⟩, ⟨some 105, none, .q (.ld (some 4) (.t 104))⟩, ⟨some 13, none, .m (.alloc (.g [(.b false), (.i .i64 0), (.i .i64 0), (.i .i64 0)]))⟩, ⟨none, none, .m (.st 4 (.t 13) (.t 105))⟩])
                    (.keep [10, 13, 100, 101, 102]
                    (.seq (.reg none [⟨some 106, none, .q (.fa 0 (.t 13))⟩, ⟨some 107, none, .q (.ld none (.t 106))⟩])
                    (.keep [10, 13, 100, 101, 102, 107]
                    (.cond (.t 107) (.reg none [⟨some 108, none, .q (.mv (.t 10))⟩, ⟨some 109, none, .q (.fa 2 (.t 13))⟩, ⟨some 110, none, .q (.ld none (.t 109))⟩, ⟨some 111, none, .m (.bsl 1 1 [(.i .i64 0)] [(0, 1, .t 110)])⟩, ⟨some 112, none, .m (.app 1 8 (.t 108) (.t 111))⟩, ⟨some 10, none, .q (.mv (.t 112))⟩])
                    .skip))))))
                  (.keep [10, 100, 101, 102]
                  (.reg none [⟨some 113, none, .q (.bin .add (.t 102) (.c (.i .i64 1)))⟩, ⟨some 102, none, .q (.mv (.t 113))⟩]))))))))))))
              (.seq (.reg none [⟨some 26, none, .q (.fa 0 (.t 8))⟩, ⟨some 27, none, .q (.ld none (.t 26))⟩, ⟨some 28, none, .q (.bin .leq (.t 27) (.c (.i .i64 15)))⟩])
                (.keep [8, 10, 28]
                (.cond (.t 28) (.reg none [⟨some 29, none, .q (.fa 2 (.t 8))⟩, ⟨some 30, none, .q (.ld none (.t 29))⟩, ⟨some 31, none, .m (.bsl 1 1 [(.i .i64 0)] [(0, 1, .t 30)])⟩, ⟨some 10, none, .q (.mv (.t 31))⟩])
                (.seq (.reg none [⟨some 32, none, .q (.fa 0 (.t 8))⟩, ⟨some 33, none, .q (.ld none (.t 32))⟩, ⟨some 34, none, .q (.bin .leq (.t 33) (.c (.i .i64 36)))⟩])
                  (.keep [8, 10, 34]
                  (.cond (.t 34) (.reg none [⟨some 35, none, .q (.fa 2 (.t 8))⟩, ⟨some 36, none, .q (.ld none (.t 35))⟩, ⟨some 37, none, .q (.fa 3 (.t 8))⟩, ⟨some 38, none, .q (.ld none (.t 37))⟩, ⟨some 39, none, .m (.bsl 2 1 [(.i .i64 0)] [(0, 1, .t 36), (1, 1, .t 38)])⟩, ⟨some 10, none, .q (.mv (.t 39))⟩])
                  .skip)))))))))))))))))))))))))
  (.seq (.reg none [⟨some 114, none, .q (.mv (.t 10))⟩, ⟨some 115, none, .call (.f 48) [(.t 114)]⟩, ⟨some 6, none, .q (.mv (.t 115))⟩, ⟨some 7, none, .q (.mv (.c (.i .i64 0)))⟩])
  .ret))))))))))
theorem r26 : (Try.f26.body.bind (resC Try.prog Try.f26.ntmps)) = some (strip c26) := by kernel_rfl
theorem s26 : Try.f26.results.toList.mapM (resRes Try.prog) = some [.t 6, .t 7] := by kernel_rfl
/-- scarab/prog.Sets -/
def c28 : ACode :=
  (.seq (.reg none [⟨some 3, none, .m (.box (.t 0))⟩, ⟨some 6, none, .q (.mv (.c .nil))⟩, ⟨some 7, none, .q (.mv (.c (.i .i64 0)))⟩])
  (.keep [1, 2, 3]
  (.seq (.reg none [⟨some 14, none, .q (.ld (some 4) (.t 3))⟩, ⟨some 15, none, .q (.mv (.t 1))⟩, ⟨some 16, none, .q (.mv (.t 2))⟩, ⟨some 17, none, .call (.f 47) [(.t 14), (.t 15), (.t 16)]⟩, ⟨some 13, none, .q (.mv (.t 17))⟩, ⟨some 18, none, .q (.ext 0 (.t 13))⟩, ⟨some 19, none, .q (.ext 1 (.t 13))⟩, ⟨some 8, none, .m (.alloc (.g [(.i .i64 0), (.i .i64 0), (.i .i64 0), (.i .i64 0), (.i .i64 0)]))⟩, ⟨none, none, .m (.st 5 (.t 8) (.t 18))⟩, ⟨some 9, none, .q (.mv (.t 19))⟩])
  (.keep [1, 3, 8, 9]
  (.seq (.seq (.reg none [⟨some 20, none, .q (.mv (.t 9))⟩, ⟨some 21, none, .q (.bin .neq (.t 20) (.c (.i .i64 0)))⟩])
    (.keep [1, 3, 8, 9, 21]
    (.cond (.t 21) (.seq (.reg none [⟨some 22, none, .q (.mv (.t 9))⟩, ⟨some 6, none, .q (.mv (.c .nil))⟩, ⟨some 7, none, .q (.mv (.t 22))⟩])
      .ret)
    .skip)))
  (.seq (.reg none [⟨some 10, none, .q (.mv (.c .nil))⟩])
  (.gst (.nilT 10 1)
  (.keep [1, 3, 8, 10]
  (.seq (.seq (.reg none [⟨some 23, none, .q (.fa 0 (.t 8))⟩, ⟨some 24, none, .q (.ld none (.t 23))⟩])
    (.keep [1, 3, 8, 10, 24]
    (.blk 0 (.seq (.seq (.reg none [⟨some 32, none, .q (.bin .eql (.t 24) (.c (.i .i64 40)))⟩, ⟨some 31, none, .q (.mv (.t 32))⟩])
      (.keep [1, 3, 8, 10, 24, 31]
      (.cond (.t 31) .skip
      (.seq (.reg none [⟨some 33, none, .q (.bin .eql (.t 24) (.c (.i .i64 41)))⟩, ⟨some 31, none, .q (.mv (.t 33))⟩])
        (.keep [1, 3, 8, 10, 24, 31]
        (.cond (.t 31) .skip
        (.seq (.reg none [⟨some 34, none, .q (.bin .eql (.t 24) (.c (.i .i64 50)))⟩, ⟨some 31, none, .q (.mv (.t 34))⟩])
          (.keep [1, 3, 8, 10, 24, 31]
          (.cond (.t 31) .skip
          (.seq (.reg none [⟨some 35, none, .q (.bin .eql (.t 24) (.c (.i .i64 57)))⟩, ⟨some 31, none, .q (.mv (.t 35))⟩])
            (.keep [1, 3, 8, 10, 24, 31]
            (.cond (.t 31) .skip
            (.seq (.reg none [⟨some 36, none, .q (.bin .eql (.t 24) (.c (.i .i64 52)))⟩, ⟨some 31, none, .q (.mv (.t 36))⟩])
              (.keep [1, 3, 8, 10, 24, 31]
              (.cond (.t 31) .skip
              (.seq (.reg none [⟨some 37, none, .q (.bin .eql (.t 24) (.c (.i .i64 53)))⟩, ⟨some 31, none, .q (.mv (.t 37))⟩])
                (.keep [1, 3, 8, 10, 24, 31]
                (.cond (.t 31) .skip
                (.reg none [⟨some 38, none, .q (.bin .eql (.t 24) (.c (.i .i64 62)))⟩, ⟨some 31, none, .q (.mv (.t 38))⟩])))))))))))))))))))
    (.cond (.t 31) (.reg none [⟨some 39, none, .q (.fa 1 (.t 8))⟩, ⟨some 40, none, .q (.ld none (.t 39))⟩, ⟨some 41, none, .m (.bsl 1 1 [(.i .i64 0)] [(0, 1, .t 40)])⟩, ⟨some 10, none, .q (.mv (.t 41))⟩])
    (.seq (.reg none [⟨some 43, none, .q (.bin .eql (.t 24) (.c (.i .i64 59)))⟩, ⟨some 42, none, .q (.mv (.t 43))⟩])
      (.keep [1, 3, 8, 10, 24, 42]
      (.cond (.t 42) (.reg none [⟨some 44, none, .q (.fa 1 (.t 8))⟩, ⟨some 45, none, .q (.ld none (.t 44))⟩, ⟨some 46, none, .q (.fa 3 (.t 8))⟩, ⟨some 47, none, .q (.ld none (.t 46))⟩, ⟨some 48, none, .m (.bsl 2 1 [(.i .i64 0)] [(0, 1, .t 45), (1, 1, .t 47)])⟩, ⟨some 10, none, .q (.mv (.t 48))⟩])
      (.seq (.reg none [⟨some 50, none, .q (.bin .eql (.t 24) (.c (.i .i64 61)))⟩, ⟨some 49, none, .q (.mv (.t 50))⟩])
        (.keep [1, 3, 8, 10, 49]
        (.cond (.t 49) (.seq (.reg (some (13, [])) [⟨some 51, none, .q (.fa 3 (.t 3))⟩, ⟨some 52, none, .q (.ld none (.t 51))⟩, ⟨some 53, none, .q (.mv (.t 1))⟩, ⟨some 54, none, .q (.ias 4 (.t 52) (.t 53))⟩, ⟨some 55, none, .q (.fa 3 (.t 54))⟩, ⟨some 56, none, .q (.ld none (.t 55))⟩, ⟨some 57, none, .q (.fa 1 (.t 8))⟩, ⟨some 58, none, .q (.ld none (.t 57))⟩, ⟨some 59, none, .q (.ias 2 (.t 56) (.t 58))⟩, ⟨some 60, none, .q (.fa 0 (.t 59))⟩, ⟨some 61, none, .q (.ld none (.t 60))⟩, ⟨some 62, none, .q (.len false (.t 61))⟩, ⟨some 63, none, .q (.mv (.c (.i .i64 0)))⟩])
          (.keep [10, 61, 62, 63]
          (.blk 1 (.keep [10, 61, 62, 63]
          (.loop (.fin [10, 61, 62, 63]
            (.seq (.reg none [⟨some 64, none, .q (.bin .lss (.t 63) (.t 62))⟩])
            (.keep [10, 61, 62, 63, 64]
            (.seq (.cond (.t 64) .skip
              (.exit 1))
            (.seq (.blk 2 (.seq (.reg none [⟨some 65, none, .q (.ias 4 (.t 61) (.t 63))⟩, ⟨some 66, none, .q (.ld (some 4) (.t 65))⟩, ⟨some 12, none, .m (.alloc (.g [(.b false), (.i .i64 0), (.i .i64 0), (.i .i64 0)]))⟩, ⟨none, none, .m (.st 4 (.t 12) (.t 66))⟩])
              (.keep [10, 12, 61, 62, 63]
              (.seq (.reg none [⟨some 67, none, .q (.fa 0 (.t 12))⟩, ⟨some 68, none, .q (.ld none (.t 67))⟩, ⟨some 69, none, .q (.un .not (.t 68))⟩])
              (.keep [10, 12, 61, 62, 63, 69]
              (.cond (.t 69) (.reg none [⟨some 70, none, .q (.mv (.t 10))⟩, ⟨some 71, none, .q (.fa 2 (.t 12))⟩, ⟨some 72, none, .q (.ld none (.t 71))⟩, ⟨some 73, none, .m (.bsl 1 1 [(.i .i64 0)] [(0, 1, .t 72)])⟩, ⟨some 74, none, .m (.app 1 8 (.t 70) (.t 73))⟩, ⟨some 10, none, .q (.mv (.t 74))⟩])
              .skip))))))
            (.keep [10, 61, 62, 63]
            (.reg none [⟨some 75, none, .q (.bin .add (.t 63) (.c (.i .i64 1)))⟩, ⟨some 63, none, .q (.mv (.t 75))⟩]))))))))))))
        (.seq (.reg none [⟨some 25, none, .q (.fa 0 (.t 8))⟩, ⟨some 26, none, .q (.ld none (.t 25))⟩, ⟨some 27, none, .q (.bin .leq (.t 26) (.c (.i .i64 36)))⟩])
          (.keep [8, 10, 27]
          (.cond (.t 27) (.reg none [⟨some 28, none, .q (.fa 1 (.t 8))⟩, ⟨some 29, none, .q (.ld none (.t 28))⟩, ⟨some 30, none, .m (.bsl 1 1 [(.i .i64 0)] [(0, 1, .t 29)])⟩, ⟨some 10, none, .q (.mv (.t 30))⟩])
          .skip))))))))))))))
  (.seq (.reg none [⟨some 76, none, .q (.mv (.t 10))⟩, ⟨some 77, none, .call (.f 48) [(.t 76)]⟩, ⟨some 6, none, .q (.mv (.t 77))⟩, ⟨some 7, none, .q (.mv (.c (.i .i64 0)))⟩])
  .ret))))))))))
theorem r28 : (Try.f28.body.bind (resC Try.prog Try.f28.ntmps)) = some (strip c28) := by kernel_rfl
theorem s28 : Try.f28.results.toList.mapM (resRes Try.prog) = some [.t 6, .t 7] := by kernel_rfl
theorem push_item (acc : List Int) (x : Int) : vrows (acc.map irow) ++ [[RV.v (AV.i .i64 x)]] = vrows ((acc ++ [x]).map irow) := by simp [vrows, irow]
set_option maxHeartbeats 4000000 in
theorem reads_p (p : Prog) (f pc : Int) (hp : p.Ok) : PureS Try.prog 26 [.g p.row, .i .i64 f, .i .i64 pc] (regV (readsV p f pc) (askE p f pc)) := by
  refine pure_wk ?_
  refine fun_go hmx Try.func26 r26 s26 (by rw [Try.ntmps26]; simp) ?_
  unfold c26
  simp [Prog.row]
  first
    | refine callk rfl Try.call47 (at_p p f pc hp) rfl ?_
    | refine callks rfl Try.call47 (at_p p f pc hp) rfl ?_
    | refine callq rfl Try.call47 (at_p p f pc hp) rfl ?_
  simp
  by_cases h : askE p f pc = 0
  rotate_left
  · simp [h, readsV, regV]
    exact ⟨_, .v _, by simp⟩
  obtain ⟨hrp, hf, hpc, hok⟩ := ask_ok h
  have hgf : p.funcs[f.toNat]? = some (p.funcs.getD f.toNat default) := by
    rw [List.getD_eq_getElem?_getD, List.getElem?_eq_getElem (by omega)]; rfl
  rw [readsV, if_pos h]
  simp [h]
  simp only [← List.getD_eq_getElem?_getD]
  generalize p.funcs.getD f.toNat default = F at *
  generalize insAt p f pc = x at *
  obtain ⟨⟨o1, o65, o36, o45⟩, ⟨r0, r8⟩, hrd, hst, hsel, hspawn⟩ := hok
  have hb := hrd
  have hcases : (x.op ≤ 15) ∨ (16 ≤ x.op ∧ x.op ≤ 36) ∨ x.op = 40 ∨ x.op = 41 ∨ x.op = 42 ∨ x.op = 43 ∨ x.op = 44 ∨ x.op = 45 ∨ x.op = 50 ∨ x.op = 51 ∨ x.op = 52 ∨ x.op = 53 ∨ x.op = 54 ∨ x.op = 55 ∨ x.op = 56 ∨ x.op = 57 ∨ x.op = 58 ∨ x.op = 59 ∨ x.op = 60 ∨ x.op = 63 ∨ x.op = 64 ∨ x.op = 65 ∨ x.op = 61 ∨ x.op = 62 := by omega
  rcases hcases with hop | hop | hop | hop | hop | hop | hop | hop | hop | hop | hop | hop | hop | hop | hop | hop | hop | hop | hop | hop | hop | hop | hop | hop
  · -- x.op ≤ 15
    have n40 : ¬ x.op = 40 := by omega
    have n41 : ¬ x.op = 41 := by omega
    have n42 : ¬ x.op = 42 := by omega
    have n43 : ¬ x.op = 43 := by omega
    have n44 : ¬ x.op = 44 := by omega
    have n45 : ¬ x.op = 45 := by omega
    have n50 : ¬ x.op = 50 := by omega
    have n51 : ¬ x.op = 51 := by omega
    have n52 : ¬ x.op = 52 := by omega
    have n53 : ¬ x.op = 53 := by omega
    have n54 : ¬ x.op = 54 := by omega
    have n55 : ¬ x.op = 55 := by omega
    have n56 : ¬ x.op = 56 := by omega
    have n57 : ¬ x.op = 57 := by omega
    have n58 : ¬ x.op = 58 := by omega
    have n59 : ¬ x.op = 59 := by omega
    have n60 : ¬ x.op = 60 := by omega
    have n61 : ¬ x.op = 61 := by omega
    have n62 : ¬ x.op = 62 := by omega
    have n63 : ¬ x.op = 63 := by omega
    have n64 : ¬ x.op = 64 := by omega
    have n65 : ¬ x.op = 65 := by omega
    have y15 : x.op ≤ 15 := by omega
    have hL : readsL p F x = [x.b] := by unfold readsL; rw [if_pos (by omega)]
    rw [hL] at hb ⊢
    have h8 : ∀ y ∈ ([x.b] : List Int), y < 8 := fun y hy => by have := hb y hy; omega
    simp [Instr.row, n40, n41, n42, n43, n44, n45, n50, n51, n52, n53, n54, n55, n56, n57, n58, n59, n60, n61, n62, n63, n64, n65, y15]
    refine callf [3] rfl Try.call48 (told_p [x.b] 0 (by simp) h8) (by decide) rfl (by simp) (by simp [irow, vrows]) (by simp) ?_
    rintro _ _ rfl
    simp
    exact ⟨_, .v _, by simp [regV]⟩
  · -- 16 ≤ x.op ∧ x.op ≤ 36
    have n40 : ¬ x.op = 40 := by omega
    have n41 : ¬ x.op = 41 := by omega
    have n42 : ¬ x.op = 42 := by omega
    have n43 : ¬ x.op = 43 := by omega
    have n44 : ¬ x.op = 44 := by omega
    have n45 : ¬ x.op = 45 := by omega
    have n50 : ¬ x.op = 50 := by omega
    have n51 : ¬ x.op = 51 := by omega
    have n52 : ¬ x.op = 52 := by omega
    have n53 : ¬ x.op = 53 := by omega
    have n54 : ¬ x.op = 54 := by omega
    have n55 : ¬ x.op = 55 := by omega
    have n56 : ¬ x.op = 56 := by omega
    have n57 : ¬ x.op = 57 := by omega
    have n58 : ¬ x.op = 58 := by omega
    have n59 : ¬ x.op = 59 := by omega
    have n60 : ¬ x.op = 60 := by omega
    have n61 : ¬ x.op = 61 := by omega
    have n62 : ¬ x.op = 62 := by omega
    have n63 : ¬ x.op = 63 := by omega
    have n64 : ¬ x.op = 64 := by omega
    have n65 : ¬ x.op = 65 := by omega
    have n15 : ¬ x.op ≤ 15 := by omega
    have y36 : x.op ≤ 36 := by omega
    have hL : readsL p F x = [x.b, x.c] := by unfold readsL; rw [if_neg (by omega), if_pos (by omega)]
    rw [hL] at hb ⊢
    have h8 : ∀ y ∈ ([x.b, x.c] : List Int), y < 8 := fun y hy => by have := hb y hy; omega
    simp [Instr.row, n40, n41, n42, n43, n44, n45, n50, n51, n52, n53, n54, n55, n56, n57, n58, n59, n60, n61, n62, n63, n64, n65, n15, y36]
    refine callf [3] rfl Try.call48 (told_p [x.b, x.c] 0 (by simp) h8) (by decide) rfl (by simp) (by simp [irow, vrows]) (by simp) ?_
    rintro _ _ rfl
    simp
    exact ⟨_, .v _, by simp [regV]⟩
  · -- 40
    have hL : readsL p F x = [] := by unfold readsL; simp [hop]
    rw [hL] at hb ⊢
    have h8 : ∀ y ∈ ([] : List Int), y < 8 := fun y hy => by have := hb y hy; omega
    simp [Instr.row, hop]
    refine callf [2] rfl Try.call48 (told_p [] 0 (by simp) h8) (by decide) rfl (by simp) (by simp [irow, vrows]) (by simp) ?_
    rintro _ _ rfl
    simp
    exact ⟨_, .v _, by simp [regV]⟩
  · -- 41
    have hL : readsL p F x = [x.b] := by unfold readsL; simp [hop]
    rw [hL] at hb ⊢
    have h8 : ∀ y ∈ ([x.b] : List Int), y < 8 := fun y hy => by have := hb y hy; omega
    simp [Instr.row, hop]
    refine callf [3] rfl Try.call48 (told_p [x.b] 0 (by simp) h8) (by decide) rfl (by simp) (by simp [irow, vrows]) (by simp) ?_
    rintro _ _ rfl
    simp
    exact ⟨_, .v _, by simp [regV]⟩
  · -- 42
    have hL : readsL p F x = [] := by unfold readsL; simp [hop]
    rw [hL] at hb ⊢
    have h8 : ∀ y ∈ ([] : List Int), y < 8 := fun y hy => by have := hb y hy; omega
    simp [Instr.row, hop]
    refine callf [2] rfl Try.call48 (told_p [] 0 (by simp) h8) (by decide) rfl (by simp) (by simp [irow, vrows]) (by simp) ?_
    rintro _ _ rfl
    simp
    exact ⟨_, .v _, by simp [regV]⟩
  · -- 43
    have hL : readsL p F x = [x.a] := by unfold readsL; simp [hop]
    rw [hL] at hb ⊢
    have h8 : ∀ y ∈ ([x.a] : List Int), y < 8 := fun y hy => by have := hb y hy; omega
    simp [Instr.row, hop]
    refine callf [3] rfl Try.call48 (told_p [x.a] 0 (by simp) h8) (by decide) rfl (by simp) (by simp [irow, vrows]) (by simp) ?_
    rintro _ _ rfl
    simp
    exact ⟨_, .v _, by simp [regV]⟩
  · -- 44
    have hL : readsL p F x = [x.a] := by unfold readsL; simp [hop]
    rw [hL] at hb ⊢
    have h8 : ∀ y ∈ ([x.a] : List Int), y < 8 := fun y hy => by have := hb y hy; omega
    simp [Instr.row, hop]
    refine callf [3] rfl Try.call48 (told_p [x.a] 0 (by simp) h8) (by decide) rfl (by simp) (by simp [irow, vrows]) (by simp) ?_
    rintro _ _ rfl
    simp
    exact ⟨_, .v _, by simp [regV]⟩
  · -- 45
    have hL : readsL p F x = [] := by unfold readsL; simp [hop]
    rw [hL] at hb ⊢
    have h8 : ∀ y ∈ ([] : List Int), y < 8 := fun y hy => by have := hb y hy; omega
    simp [Instr.row, hop]
    refine callf [2] rfl Try.call48 (told_p [] 0 (by simp) h8) (by decide) rfl (by simp) (by simp [irow, vrows]) (by simp) ?_
    rintro _ _ rfl
    simp
    exact ⟨_, .v _, by simp [regV]⟩
  · -- 50
    have hL : readsL p F x = [] := by unfold readsL; simp [hop]
    rw [hL] at hb ⊢
    have h8 : ∀ y ∈ ([] : List Int), y < 8 := fun y hy => by have := hb y hy; omega
    simp [Instr.row, hop]
    refine callf [2] rfl Try.call48 (told_p [] 0 (by simp) h8) (by decide) rfl (by simp) (by simp [irow, vrows]) (by simp) ?_
    rintro _ _ rfl
    simp
    exact ⟨_, .v _, by simp [regV]⟩
  · -- 51
    have hL : readsL p F x = [x.b] := by unfold readsL; simp [hop]
    rw [hL] at hb ⊢
    have h8 : ∀ y ∈ ([x.b] : List Int), y < 8 := fun y hy => by have := hb y hy; omega
    simp [Instr.row, hop]
    refine callf [3] rfl Try.call48 (told_p [x.b] 0 (by simp) h8) (by decide) rfl (by simp) (by simp [irow, vrows]) (by simp) ?_
    rintro _ _ rfl
    simp
    exact ⟨_, .v _, by simp [regV]⟩
  · -- 52
    have hL : readsL p F x = [x.c] := by unfold readsL; simp [hop]
    rw [hL] at hb ⊢
    have h8 : ∀ y ∈ ([x.c] : List Int), y < 8 := fun y hy => by have := hb y hy; omega
    simp [Instr.row, hop]
    refine callf [3] rfl Try.call48 (told_p [x.c] 0 (by simp) h8) (by decide) rfl (by simp) (by simp [irow, vrows]) (by simp) ?_
    rintro _ _ rfl
    simp
    exact ⟨_, .v _, by simp [regV]⟩
  · -- 53
    have hL : readsL p F x = [x.c, x.n] := by unfold readsL; simp [hop]
    rw [hL] at hb ⊢
    have h8 : ∀ y ∈ ([x.c, x.n] : List Int), y < 8 := fun y hy => by have := hb y hy; omega
    simp [Instr.row, hop]
    refine callf [3] rfl Try.call48 (told_p [x.c, x.n] 0 (by simp) h8) (by decide) rfl (by simp) (by simp [irow, vrows]) (by simp) ?_
    rintro _ _ rfl
    simp
    exact ⟨_, .v _, by simp [regV]⟩
  · -- 54
    have hL : readsL p F x = [x.b] := by unfold readsL; simp [hop]
    rw [hL] at hb ⊢
    have h8 : ∀ y ∈ ([x.b] : List Int), y < 8 := fun y hy => by have := hb y hy; omega
    simp [Instr.row, hop]
    refine callf [3] rfl Try.call48 (told_p [x.b] 0 (by simp) h8) (by decide) rfl (by simp) (by simp [irow, vrows]) (by simp) ?_
    rintro _ _ rfl
    simp
    exact ⟨_, .v _, by simp [regV]⟩
  · -- 55
    have hL : readsL p F x = [] := by unfold readsL; simp [hop]
    rw [hL] at hb ⊢
    have h8 : ∀ y ∈ ([] : List Int), y < 8 := fun y hy => by have := hb y hy; omega
    simp [Instr.row, hop]
    refine callf [2] rfl Try.call48 (told_p [] 0 (by simp) h8) (by decide) rfl (by simp) (by simp [irow, vrows]) (by simp) ?_
    rintro _ _ rfl
    simp
    exact ⟨_, .v _, by simp [regV]⟩
  · -- 56
    have hL : readsL p F x = [] := by unfold readsL; simp [hop]
    rw [hL] at hb ⊢
    have h8 : ∀ y ∈ ([] : List Int), y < 8 := fun y hy => by have := hb y hy; omega
    simp [Instr.row, hop]
    refine callf [2] rfl Try.call48 (told_p [] 0 (by simp) h8) (by decide) rfl (by simp) (by simp [irow, vrows]) (by simp) ?_
    rintro _ _ rfl
    simp
    exact ⟨_, .v _, by simp [regV]⟩
  · -- 57
    have hL : readsL p F x = [] := by unfold readsL; simp [hop]
    rw [hL] at hb ⊢
    have h8 : ∀ y ∈ ([] : List Int), y < 8 := fun y hy => by have := hb y hy; omega
    simp [Instr.row, hop]
    refine callf [2] rfl Try.call48 (told_p [] 0 (by simp) h8) (by decide) rfl (by simp) (by simp [irow, vrows]) (by simp) ?_
    rintro _ _ rfl
    simp
    exact ⟨_, .v _, by simp [regV]⟩
  · -- 58
    have hL : readsL p F x = [x.b] := by unfold readsL; simp [hop]
    rw [hL] at hb ⊢
    have h8 : ∀ y ∈ ([x.b] : List Int), y < 8 := fun y hy => by have := hb y hy; omega
    simp [Instr.row, hop]
    refine callf [3] rfl Try.call48 (told_p [x.b] 0 (by simp) h8) (by decide) rfl (by simp) (by simp [irow, vrows]) (by simp) ?_
    rintro _ _ rfl
    simp
    exact ⟨_, .v _, by simp [regV]⟩
  · -- 59
    have hL : readsL p F x = [] := by unfold readsL; simp [hop]
    rw [hL] at hb ⊢
    have h8 : ∀ y ∈ ([] : List Int), y < 8 := fun y hy => by have := hb y hy; omega
    simp [Instr.row, hop]
    refine callf [2] rfl Try.call48 (told_p [] 0 (by simp) h8) (by decide) rfl (by simp) (by simp [irow, vrows]) (by simp) ?_
    rintro _ _ rfl
    simp
    exact ⟨_, .v _, by simp [regV]⟩
  · -- 60
    have hL : readsL p F x = [] := by unfold readsL; simp [hop]
    rw [hL] at hb ⊢
    have h8 : ∀ y ∈ ([] : List Int), y < 8 := fun y hy => by have := hb y hy; omega
    simp [Instr.row, hop]
    refine callf [2] rfl Try.call48 (told_p [] 0 (by simp) h8) (by decide) rfl (by simp) (by simp [irow, vrows]) (by simp) ?_
    rintro _ _ rfl
    simp
    exact ⟨_, .v _, by simp [regV]⟩
  · -- 63
    have hL : readsL p F x = [x.a] := by unfold readsL; simp [hop]
    rw [hL] at hb ⊢
    have h8 : ∀ y ∈ ([x.a] : List Int), y < 8 := fun y hy => by have := hb y hy; omega
    simp [Instr.row, hop]
    refine callf [3] rfl Try.call48 (told_p [x.a] 0 (by simp) h8) (by decide) rfl (by simp) (by simp [irow, vrows]) (by simp) ?_
    rintro _ _ rfl
    simp
    exact ⟨_, .v _, by simp [regV]⟩
  · -- 64
    have hL : readsL p F x = [] := by unfold readsL; simp [hop]
    rw [hL] at hb ⊢
    have h8 : ∀ y ∈ ([] : List Int), y < 8 := fun y hy => by have := hb y hy; omega
    simp [Instr.row, hop]
    refine callf [2] rfl Try.call48 (told_p [] 0 (by simp) h8) (by decide) rfl (by simp) (by simp [irow, vrows]) (by simp) ?_
    rintro _ _ rfl
    simp
    exact ⟨_, .v _, by simp [regV]⟩
  · -- 65
    have hL : readsL p F x = [x.a] := by unfold readsL; simp [hop]
    rw [hL] at hb ⊢
    have h8 : ∀ y ∈ ([x.a] : List Int), y < 8 := fun y hy => by have := hb y hy; omega
    simp [Instr.row, hop]
    refine callf [3] rfl Try.call48 (told_p [x.a] 0 (by simp) h8) (by decide) rfl (by simp) (by simp [irow, vrows]) (by simp) ?_
    rintro _ _ rfl
    simp
    exact ⟨_, .v _, by simp [regV]⟩
  · -- 61
    obtain ⟨a0, a1, a4⟩ := hsel hop
    have hgs : F.selects[x.a.toNat]? = some (F.selects.getD x.a.toNat default) := by
      rw [List.getD_eq_getElem?_getD, List.getElem?_eq_getElem (by omega)]; rfl
    have hgf2 : ∀ hh, p.funcs[f.toNat]'hh = F := fun hh => by
      have := List.getElem?_eq_getElem hh; rw [hgf] at this; exact (Option.some.inj this).symm
    have hL : readsL p F x = ((F.selects.getD x.a.toNat default).cases.filter (fun c => c.send)).map (·.reg) := by unfold readsL; simp [hop]
    rw [hL] at hb ⊢
    generalize F.selects.getD x.a.toNat default = S at *
    have hgs2 : ∀ hh, F.selects[x.a.toNat]'hh = S := fun hh => by
      have := List.getElem?_eq_getElem hh; rw [hgs] at this; exact (Option.some.inj this).symm
    simp [Instr.row, hop, hgf, hgf2, hgs, hgs2, Func.row, Select.row, hf, a0, a1]
    refine go_each hmx 3 102 S.cases (fun (b : Nat × List Int) => [(10, .os 2 b.1)]) (fun b => [.var (p.row.map .v), .var (x.row.map .v), .arr b.1 1 (vrows (b.2.map irow))]) (fun _ b rest => b.2 ++ (rest.filter (fun c => c.send)).map (·.reg) = (S.cases.filter (fun c => c.send)).map (·.reg)) (0, []) (by omega) rfl rfl (by simp [Prog.row, Instr.row, hop, vrows]) (by simp) (by simp [RV.dom]) (by simp [Prog.row, Instr.row]) rfl ?_ ?_
    · rintro i c rest ⟨v, acc⟩ hi hx hr hj hw
      simp only at hj
      have hac : acc.length ≤ 4 := by
        have h1 := congrArg List.length hj
        have h2 := List.length_filter_le (fun c => c.send) S.cases
        simp only [List.length_append, List.length_map] at h1; omega
      simp [hi, hx, Case.row, hw]
      refine ⟨fun hc => ⟨by omega, acc ++ [c.reg], push_item _ _, ?_⟩, fun hc => ⟨acc, rfl, ?_⟩⟩ <;> rw [← hj] <;> simp [hc]
    · rintro ⟨v, acc⟩ hj
      simp only [List.filter_nil, List.map_nil, List.append_nil] at hj
      have hac : acc.length ≤ 4 := by
        have h1 := congrArg List.length hj
        have h2 := List.length_filter_le (fun c => c.send) S.cases
        simp only [List.length_map] at h1; omega
      simp [Prog.row, Instr.row]
      refine callf [2] rfl Try.call48 (told_p acc v (by omega) (fun y hy => by have := hb y (hj ▸ hy); omega)) (by decide) rfl (by simp) (by simp) (by simp) ?_
      rintro _ _ rfl
      simp
      exact ⟨_, .v _, by simp [regV, hj]⟩
  · -- 62
    obtain ⟨b0, b1, k0, k8, c0, c8⟩ := hspawn hop
    have hgb : p.funcs[x.b.toNat]? = some (p.funcs.getD x.b.toNat default) := by
      rw [List.getD_eq_getElem?_getD, List.getElem?_eq_getElem (by omega)]; rfl
    have hL : readsL p F x = (List.range (p.funcs.getD x.b.toNat default).params.toNat).map (fun k : Nat => x.c + k) := by unfold readsL; simp [hop]
    rw [hL] at hb ⊢
    generalize p.funcs.getD x.b.toNat default = G at *
    have hgb2 : ∀ hh, p.funcs[x.b.toNat]'hh = G := fun hh => by
      have := List.getElem?_eq_getElem hh; rw [hgb] at this; exact (Option.some.inj this).symm
    simp [Instr.row, hop, hgb, hgb2, Func.row, b0, b1]
    have hkl : (List.range G.params.toNat).length = G.params.toNat := by simp
    refine go_each hmx 3 77 (List.range G.params.toNat) (fun (b : Nat × List Int) => [(10, .os 2 b.1)]) (fun b => [.var (p.row.map .v), .var (x.row.map .v), .arr b.1 1 (vrows (b.2.map irow))]) (fun _ b rest => b.2 ++ rest.map (fun k : Nat => x.c + k) = (List.range G.params.toNat).map (fun k : Nat => x.c + k)) (0, []) (by omega) rfl rfl (by simp [Prog.row, Instr.row, hop, vrows]) (by simp) (by simp [RV.dom]) (by simp [Prog.row, Instr.row]) rfl ?_ ?_
    · rintro i c rest ⟨v, acc⟩ hi hx hr hj hw
      simp only at hj
      rw [hkl] at hi
      have hci : c = i := by rw [← hx]; simp
      subst hci
      have hac : acc.length ≤ 8 := by
        have h1 := congrArg List.length hj
        simp only [List.length_append, List.length_map, List.length_range] at h1; omega
      have hiI : (c : Int) < G.params := by omega
      have hw2 : IntKind.i64.wrap (x.c + (c : Int)) = x.c + (c : Int) := wrap_in (by omega) (by omega)
      simp [hi, hiI, hw, hw2, Prog.row, Instr.row]
      refine ⟨by omega, acc ++ [x.c + (c : Int)], push_item _ _, ?_⟩
      rw [← hj]; simp
    · rintro ⟨v, acc⟩ hj
      simp only [List.map_nil, List.append_nil] at hj
      have hac : acc.length ≤ 8 := by
        have h1 := congrArg List.length hj
        simp only [List.length_map, List.length_range] at h1; omega
      have hkI : ((G.params.toNat : Nat) : Int) = G.params := by omega
      simp [Prog.row, Instr.row, hkI]
      refine callf [2] rfl Try.call48 (told_p acc v (by omega) (fun y hy => by have := hb y (hj ▸ hy); omega)) (by decide) rfl (by simp) (by simp) (by simp) ?_
      rintro _ _ rfl
      simp
      exact ⟨_, .v _, by simp [regV, hj]⟩
set_option maxHeartbeats 4000000 in
theorem sets_p (p : Prog) (f pc : Int) (hp : p.Ok) : PureS Try.prog 28 [.g p.row, .i .i64 f, .i .i64 pc] (regV (setsV p f pc) (askE p f pc)) := by
  refine pure_wk ?_
  refine fun_go hmx Try.func28 r28 s28 (by rw [Try.ntmps28]; simp) ?_
  unfold c28
  simp [Prog.row]
  first
    | refine callk rfl Try.call47 (at_p p f pc hp) rfl ?_
    | refine callks rfl Try.call47 (at_p p f pc hp) rfl ?_
    | refine callq rfl Try.call47 (at_p p f pc hp) rfl ?_
  simp
  by_cases h : askE p f pc = 0
  rotate_left
  · simp [h, setsV, regV]
    exact ⟨_, .v _, by simp⟩
  obtain ⟨hrp, hf, hpc, hok⟩ := ask_ok h
  have hgf : p.funcs[f.toNat]? = some (p.funcs.getD f.toNat default) := by
    rw [List.getD_eq_getElem?_getD, List.getElem?_eq_getElem (by omega)]; rfl
  rw [setsV, if_pos h]
  simp [h]
  simp only [← List.getD_eq_getElem?_getD]
  generalize p.funcs.getD f.toNat default = F at *
  generalize insAt p f pc = x at *
  obtain ⟨⟨o1, o65, o36, o45⟩, ⟨r0, r8⟩, hrd, hst, hsel, hspawn⟩ := hok
  have hb := hst
  have hcases : (x.op ≤ 36) ∨ x.op = 40 ∨ x.op = 41 ∨ x.op = 42 ∨ x.op = 43 ∨ x.op = 44 ∨ x.op = 45 ∨ x.op = 50 ∨ x.op = 51 ∨ x.op = 52 ∨ x.op = 53 ∨ x.op = 54 ∨ x.op = 55 ∨ x.op = 56 ∨ x.op = 57 ∨ x.op = 58 ∨ x.op = 59 ∨ x.op = 60 ∨ x.op = 62 ∨ x.op = 63 ∨ x.op = 64 ∨ x.op = 65 ∨ x.op = 61 := by omega
  rcases hcases with hop | hop | hop | hop | hop | hop | hop | hop | hop | hop | hop | hop | hop | hop | hop | hop | hop | hop | hop | hop | hop | hop | hop
  · -- x.op ≤ 36
    have n40 : ¬ x.op = 40 := by omega
    have n41 : ¬ x.op = 41 := by omega
    have n42 : ¬ x.op = 42 := by omega
    have n43 : ¬ x.op = 43 := by omega
    have n44 : ¬ x.op = 44 := by omega
    have n45 : ¬ x.op = 45 := by omega
    have n50 : ¬ x.op = 50 := by omega
    have n51 : ¬ x.op = 51 := by omega
    have n52 : ¬ x.op = 52 := by omega
    have n53 : ¬ x.op = 53 := by omega
    have n54 : ¬ x.op = 54 := by omega
    have n55 : ¬ x.op = 55 := by omega
    have n56 : ¬ x.op = 56 := by omega
    have n57 : ¬ x.op = 57 := by omega
    have n58 : ¬ x.op = 58 := by omega
    have n59 : ¬ x.op = 59 := by omega
    have n60 : ¬ x.op = 60 := by omega
    have n61 : ¬ x.op = 61 := by omega
    have n62 : ¬ x.op = 62 := by omega
    have n63 : ¬ x.op = 63 := by omega
    have n64 : ¬ x.op = 64 := by omega
    have n65 : ¬ x.op = 65 := by omega
    have y36 : x.op ≤ 36 := by omega
    have hL : setsL F x = [x.a] := by unfold setsL; rw [if_pos (by omega)]
    rw [hL] at hb ⊢
    have h8 : ∀ y ∈ ([x.a] : List Int), y < 8 := fun y hy => by have := hb y hy; omega
    simp [Instr.row, n40, n41, n42, n43, n44, n45, n50, n51, n52, n53, n54, n55, n56, n57, n58, n59, n60, n61, n62, n63, n64, n65, y36]
    refine callf [3] rfl Try.call48 (told_p [x.a] 0 (by simp) h8) (by decide) rfl (by simp) (by simp [irow, vrows]) (by simp) ?_
    rintro _ _ rfl
    simp
    exact ⟨_, .v _, by simp [regV]⟩
  · -- 40
    have hL : setsL F x = [x.a] := by unfold setsL; simp [hop]
    rw [hL] at hb ⊢
    have h8 : ∀ y ∈ ([x.a] : List Int), y < 8 := fun y hy => by have := hb y hy; omega
    simp [Instr.row, hop]
    refine callf [3] rfl Try.call48 (told_p [x.a] 0 (by simp) h8) (by decide) rfl (by simp) (by simp [irow, vrows]) (by simp) ?_
    rintro _ _ rfl
    simp
    exact ⟨_, .v _, by simp [regV]⟩
  · -- 41
    have hL : setsL F x = [x.a] := by unfold setsL; simp [hop]
    rw [hL] at hb ⊢
    have h8 : ∀ y ∈ ([x.a] : List Int), y < 8 := fun y hy => by have := hb y hy; omega
    simp [Instr.row, hop]
    refine callf [3] rfl Try.call48 (told_p [x.a] 0 (by simp) h8) (by decide) rfl (by simp) (by simp [irow, vrows]) (by simp) ?_
    rintro _ _ rfl
    simp
    exact ⟨_, .v _, by simp [regV]⟩
  · -- 42
    have hL : setsL F x = [] := by unfold setsL; simp [hop]
    rw [hL] at hb ⊢
    have h8 : ∀ y ∈ ([] : List Int), y < 8 := fun y hy => by have := hb y hy; omega
    simp [Instr.row, hop]
    refine callf [2] rfl Try.call48 (told_p [] 0 (by simp) h8) (by decide) rfl (by simp) (by simp [irow, vrows]) (by simp) ?_
    rintro _ _ rfl
    simp
    exact ⟨_, .v _, by simp [regV]⟩
  · -- 43
    have hL : setsL F x = [] := by unfold setsL; simp [hop]
    rw [hL] at hb ⊢
    have h8 : ∀ y ∈ ([] : List Int), y < 8 := fun y hy => by have := hb y hy; omega
    simp [Instr.row, hop]
    refine callf [2] rfl Try.call48 (told_p [] 0 (by simp) h8) (by decide) rfl (by simp) (by simp [irow, vrows]) (by simp) ?_
    rintro _ _ rfl
    simp
    exact ⟨_, .v _, by simp [regV]⟩
  · -- 44
    have hL : setsL F x = [] := by unfold setsL; simp [hop]
    rw [hL] at hb ⊢
    have h8 : ∀ y ∈ ([] : List Int), y < 8 := fun y hy => by have := hb y hy; omega
    simp [Instr.row, hop]
    refine callf [2] rfl Try.call48 (told_p [] 0 (by simp) h8) (by decide) rfl (by simp) (by simp [irow, vrows]) (by simp) ?_
    rintro _ _ rfl
    simp
    exact ⟨_, .v _, by simp [regV]⟩
  · -- 45
    have hL : setsL F x = [] := by unfold setsL; simp [hop]
    rw [hL] at hb ⊢
    have h8 : ∀ y ∈ ([] : List Int), y < 8 := fun y hy => by have := hb y hy; omega
    simp [Instr.row, hop]
    refine callf [2] rfl Try.call48 (told_p [] 0 (by simp) h8) (by decide) rfl (by simp) (by simp [irow, vrows]) (by simp) ?_
    rintro _ _ rfl
    simp
    exact ⟨_, .v _, by simp [regV]⟩
  · -- 50
    have hL : setsL F x = [x.a] := by unfold setsL; simp [hop]
    rw [hL] at hb ⊢
    have h8 : ∀ y ∈ ([x.a] : List Int), y < 8 := fun y hy => by have := hb y hy; omega
    simp [Instr.row, hop]
    refine callf [3] rfl Try.call48 (told_p [x.a] 0 (by simp) h8) (by decide) rfl (by simp) (by simp [irow, vrows]) (by simp) ?_
    rintro _ _ rfl
    simp
    exact ⟨_, .v _, by simp [regV]⟩
  · -- 51
    have hL : setsL F x = [] := by unfold setsL; simp [hop]
    rw [hL] at hb ⊢
    have h8 : ∀ y ∈ ([] : List Int), y < 8 := fun y hy => by have := hb y hy; omega
    simp [Instr.row, hop]
    refine callf [2] rfl Try.call48 (told_p [] 0 (by simp) h8) (by decide) rfl (by simp) (by simp [irow, vrows]) (by simp) ?_
    rintro _ _ rfl
    simp
    exact ⟨_, .v _, by simp [regV]⟩
  · -- 52
    have hL : setsL F x = [x.a] := by unfold setsL; simp [hop]
    rw [hL] at hb ⊢
    have h8 : ∀ y ∈ ([x.a] : List Int), y < 8 := fun y hy => by have := hb y hy; omega
    simp [Instr.row, hop]
    refine callf [3] rfl Try.call48 (told_p [x.a] 0 (by simp) h8) (by decide) rfl (by simp) (by simp [irow, vrows]) (by simp) ?_
    rintro _ _ rfl
    simp
    exact ⟨_, .v _, by simp [regV]⟩
  · -- 53
    have hL : setsL F x = [x.a] := by unfold setsL; simp [hop]
    rw [hL] at hb ⊢
    have h8 : ∀ y ∈ ([x.a] : List Int), y < 8 := fun y hy => by have := hb y hy; omega
    simp [Instr.row, hop]
    refine callf [3] rfl Try.call48 (told_p [x.a] 0 (by simp) h8) (by decide) rfl (by simp) (by simp [irow, vrows]) (by simp) ?_
    rintro _ _ rfl
    simp
    exact ⟨_, .v _, by simp [regV]⟩
  · -- 54
    have hL : setsL F x = [] := by unfold setsL; simp [hop]
    rw [hL] at hb ⊢
    have h8 : ∀ y ∈ ([] : List Int), y < 8 := fun y hy => by have := hb y hy; omega
    simp [Instr.row, hop]
    refine callf [2] rfl Try.call48 (told_p [] 0 (by simp) h8) (by decide) rfl (by simp) (by simp [irow, vrows]) (by simp) ?_
    rintro _ _ rfl
    simp
    exact ⟨_, .v _, by simp [regV]⟩
  · -- 55
    have hL : setsL F x = [] := by unfold setsL; simp [hop]
    rw [hL] at hb ⊢
    have h8 : ∀ y ∈ ([] : List Int), y < 8 := fun y hy => by have := hb y hy; omega
    simp [Instr.row, hop]
    refine callf [2] rfl Try.call48 (told_p [] 0 (by simp) h8) (by decide) rfl (by simp) (by simp [irow, vrows]) (by simp) ?_
    rintro _ _ rfl
    simp
    exact ⟨_, .v _, by simp [regV]⟩
  · -- 56
    have hL : setsL F x = [] := by unfold setsL; simp [hop]
    rw [hL] at hb ⊢
    have h8 : ∀ y ∈ ([] : List Int), y < 8 := fun y hy => by have := hb y hy; omega
    simp [Instr.row, hop]
    refine callf [2] rfl Try.call48 (told_p [] 0 (by simp) h8) (by decide) rfl (by simp) (by simp [irow, vrows]) (by simp) ?_
    rintro _ _ rfl
    simp
    exact ⟨_, .v _, by simp [regV]⟩
  · -- 57
    have hL : setsL F x = [x.a] := by unfold setsL; simp [hop]
    rw [hL] at hb ⊢
    have h8 : ∀ y ∈ ([x.a] : List Int), y < 8 := fun y hy => by have := hb y hy; omega
    simp [Instr.row, hop]
    refine callf [3] rfl Try.call48 (told_p [x.a] 0 (by simp) h8) (by decide) rfl (by simp) (by simp [irow, vrows]) (by simp) ?_
    rintro _ _ rfl
    simp
    exact ⟨_, .v _, by simp [regV]⟩
  · -- 58
    have hL : setsL F x = [] := by unfold setsL; simp [hop]
    rw [hL] at hb ⊢
    have h8 : ∀ y ∈ ([] : List Int), y < 8 := fun y hy => by have := hb y hy; omega
    simp [Instr.row, hop]
    refine callf [2] rfl Try.call48 (told_p [] 0 (by simp) h8) (by decide) rfl (by simp) (by simp [irow, vrows]) (by simp) ?_
    rintro _ _ rfl
    simp
    exact ⟨_, .v _, by simp [regV]⟩
  · -- 59
    have hL : setsL F x = [x.a, x.c] := by unfold setsL; simp [hop]
    rw [hL] at hb ⊢
    have h8 : ∀ y ∈ ([x.a, x.c] : List Int), y < 8 := fun y hy => by have := hb y hy; omega
    simp [Instr.row, hop]
    refine callf [3] rfl Try.call48 (told_p [x.a, x.c] 0 (by simp) h8) (by decide) rfl (by simp) (by simp [irow, vrows]) (by simp) ?_
    rintro _ _ rfl
    simp
    exact ⟨_, .v _, by simp [regV]⟩
  · -- 60
    have hL : setsL F x = [] := by unfold setsL; simp [hop]
    rw [hL] at hb ⊢
    have h8 : ∀ y ∈ ([] : List Int), y < 8 := fun y hy => by have := hb y hy; omega
    simp [Instr.row, hop]
    refine callf [2] rfl Try.call48 (told_p [] 0 (by simp) h8) (by decide) rfl (by simp) (by simp [irow, vrows]) (by simp) ?_
    rintro _ _ rfl
    simp
    exact ⟨_, .v _, by simp [regV]⟩
  · -- 62
    have hL : setsL F x = [x.a] := by unfold setsL; simp [hop]
    rw [hL] at hb ⊢
    have h8 : ∀ y ∈ ([x.a] : List Int), y < 8 := fun y hy => by have := hb y hy; omega
    simp [Instr.row, hop]
    refine callf [3] rfl Try.call48 (told_p [x.a] 0 (by simp) h8) (by decide) rfl (by simp) (by simp [irow, vrows]) (by simp) ?_
    rintro _ _ rfl
    simp
    exact ⟨_, .v _, by simp [regV]⟩
  · -- 63
    have hL : setsL F x = [] := by unfold setsL; simp [hop]
    rw [hL] at hb ⊢
    have h8 : ∀ y ∈ ([] : List Int), y < 8 := fun y hy => by have := hb y hy; omega
    simp [Instr.row, hop]
    refine callf [2] rfl Try.call48 (told_p [] 0 (by simp) h8) (by decide) rfl (by simp) (by simp [irow, vrows]) (by simp) ?_
    rintro _ _ rfl
    simp
    exact ⟨_, .v _, by simp [regV]⟩
  · -- 64
    have hL : setsL F x = [] := by unfold setsL; simp [hop]
    rw [hL] at hb ⊢
    have h8 : ∀ y ∈ ([] : List Int), y < 8 := fun y hy => by have := hb y hy; omega
    simp [Instr.row, hop]
    refine callf [2] rfl Try.call48 (told_p [] 0 (by simp) h8) (by decide) rfl (by simp) (by simp [irow, vrows]) (by simp) ?_
    rintro _ _ rfl
    simp
    exact ⟨_, .v _, by simp [regV]⟩
  · -- 65
    have hL : setsL F x = [] := by unfold setsL; simp [hop]
    rw [hL] at hb ⊢
    have h8 : ∀ y ∈ ([] : List Int), y < 8 := fun y hy => by have := hb y hy; omega
    simp [Instr.row, hop]
    refine callf [2] rfl Try.call48 (told_p [] 0 (by simp) h8) (by decide) rfl (by simp) (by simp [irow, vrows]) (by simp) ?_
    rintro _ _ rfl
    simp
    exact ⟨_, .v _, by simp [regV]⟩
  · -- 61
    obtain ⟨a0, a1, a4⟩ := hsel hop
    have hgs : F.selects[x.a.toNat]? = some (F.selects.getD x.a.toNat default) := by
      rw [List.getD_eq_getElem?_getD, List.getElem?_eq_getElem (by omega)]; rfl
    have hgf2 : ∀ hh, p.funcs[f.toNat]'hh = F := fun hh => by
      have := List.getElem?_eq_getElem hh; rw [hgf] at this; exact (Option.some.inj this).symm
    have hL : setsL F x = ((F.selects.getD x.a.toNat default).cases.filter (fun c => !c.send)).map (·.reg) := by unfold setsL; simp [hop]
    rw [hL] at hb ⊢
    generalize F.selects.getD x.a.toNat default = S at *
    have hgs2 : ∀ hh, F.selects[x.a.toNat]'hh = S := fun hh => by
      have := List.getElem?_eq_getElem hh; rw [hgs] at this; exact (Option.some.inj this).symm
    simp [Instr.row, hop, hgf, hgf2, hgs, hgs2, Func.row, Select.row, hf, a0, a1]
    refine go_each hmx 3 63 S.cases (fun (b : Nat × List Int) => [(10, .os 2 b.1)]) (fun b => [.var (p.row.map .v), .var (x.row.map .v), .arr b.1 1 (vrows (b.2.map irow))]) (fun _ b rest => b.2 ++ (rest.filter (fun c => !c.send)).map (·.reg) = (S.cases.filter (fun c => !c.send)).map (·.reg)) (0, []) (by omega) rfl rfl (by simp [Prog.row, Instr.row, hop, vrows]) (by simp) (by simp [RV.dom]) (by simp [Prog.row, Instr.row]) rfl ?_ ?_
    · rintro i c rest ⟨v, acc⟩ hi hx hr hj hw
      simp only at hj
      have hac : acc.length ≤ 4 := by
        have h1 := congrArg List.length hj
        have h2 := List.length_filter_le (fun c => !c.send) S.cases
        simp only [List.length_append, List.length_map] at h1; omega
      simp [hi, hx, Case.row, hw]
      refine ⟨fun hc => ⟨by omega, acc ++ [c.reg], push_item _ _, ?_⟩, fun hc => ⟨acc, rfl, ?_⟩⟩ <;> rw [← hj] <;> simp [hc]
    · rintro ⟨v, acc⟩ hj
      simp only [List.filter_nil, List.map_nil, List.append_nil] at hj
      have hac : acc.length ≤ 4 := by
        have h1 := congrArg List.length hj
        have h2 := List.length_filter_le (fun c => !c.send) S.cases
        simp only [List.length_map] at h1; omega
      simp [Prog.row, Instr.row]
      refine callf [2] rfl Try.call48 (told_p acc v (by omega) (fun y hy => by have := hb y (hj ▸ hy); omega)) (by decide) rfl (by simp) (by simp) (by simp) ?_
      rintro _ _ rfl
      simp
      exact ⟨_, .v _, by simp [regV, hj]⟩
end Go.Sc.So
