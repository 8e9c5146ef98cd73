/- Chapter 03: what an instruction reads and sets, by the document. No condition. -/
import Derived.Test.YtdjcfjfgdblefaaXSoD
set_option linter.constructorNameAsVariable false
namespace Go.Sc.So
open Go Go.RowKit Go.Av Go.Proofs Go.Sc Go.Sc.Srt Go.Sc.Q03
set_option linter.unusedSimpArgs false
set_option linter.unusedVariables false
/-- scarab/scarabref03.Reads -/
def c27 : ACode :=
  (.seq (.reg none [⟨some 3, none, .m (.box (.t 0))⟩, ⟨some 6, none, .q (.mv (.c .nil))⟩, ⟨some 7, none, .q (.mv (.c (.i .i64 0)))⟩])
  (.keep [1, 2, 3]
  (.seq (.seq (.reg none [⟨some 16, none, .q (.ld (some 4) (.t 3))⟩, ⟨some 17, none, .q (.mv (.t 1))⟩, ⟨some 18, none, .q (.mv (.t 2))⟩, ⟨some 19, none, .call (.f 49) [(.t 16), (.t 17), (.t 18)]⟩, ⟨some 8, none, .q (.mv (.t 19))⟩])
    (.keep [1, 2, 3, 8]
    (.seq (.reg none [⟨some 20, none, .q (.mv (.t 8))⟩, ⟨some 21, none, .q (.bin .neq (.t 20) (.c (.i .i64 0)))⟩])
    (.keep [1, 2, 3, 8, 21]
    (.cond (.t 21) (.seq (.reg none [⟨some 22, none, .q (.mv (.t 8))⟩, ⟨some 6, none, .q (.mv (.c .nil))⟩, ⟨some 7, none, .q (.mv (.t 22))⟩])
      .ret)
    .skip)))))
  (.seq (.reg none [⟨some 23, none, .q (.fa 3 (.t 3))⟩, ⟨some 24, none, .q (.ld none (.t 23))⟩, ⟨some 25, none, .q (.mv (.t 1))⟩, ⟨some 26, none, .q (.ias 4 (.t 24) (.t 25))⟩, ⟨some 27, none, .q (.fa 2 (.t 26))⟩, ⟨some 28, none, .q (.ld none (.t 27))⟩, ⟨some 29, none, .q (.mv (.t 2))⟩, ⟨some 30, none, .q (.ias 5 (.t 28) (.t 29))⟩, ⟨some 31, none, .q (.ld (some 5) (.t 30))⟩, ⟨some 9, none, .m (.alloc (.g [(.i .i64 0), (.i .i64 0), (.i .i64 0), (.i .i64 0), (.i .i64 0)]))⟩, ⟨none, none, .m (.st 5 (.t 9) (.t 31))⟩])
  (.keep [1, 3, 9]
  (.seq (.seq (.reg none [⟨some 32, none, .q (.fa 0 (.t 9))⟩, ⟨some 33, none, .q (.ld none (.t 32))⟩, ⟨some 10, none, .q (.mv (.t 33))⟩])
    (.keep [1, 3, 9, 10]
    (.blk 0 (.seq (.reg none [⟨some 35, none, .q (.mv (.t 10))⟩, ⟨some 36, none, .q (.bin .leq (.t 35) (.c (.i .i64 15)))⟩, ⟨some 37, none, .q (.mv (.t 36))⟩, ⟨some 38, some (37, false), .q (.mv (.t 10))⟩, ⟨some 39, some (37, false), .q (.bin .eql (.t 38) (.c (.i .i64 41)))⟩, ⟨some 40, none, .pk (.t 37) (.c (.b true)) (.t 39)⟩, ⟨some 34, none, .q (.mv (.t 40))⟩])
    (.keep [1, 3, 9, 10, 34]
    (.cond (.t 34) (.seq (.reg none [⟨some 41, none, .q (.fa 2 (.t 9))⟩, ⟨some 42, none, .q (.ld none (.t 41))⟩, ⟨some 43, none, .m (.bsl 1 1 [(.i .i64 0)] [(0, 1, .t 42)])⟩, ⟨some 44, none, .call (.f 50) [(.t 43)]⟩, ⟨some 6, none, .q (.mv (.t 44))⟩, ⟨some 7, none, .q (.mv (.c (.i .i64 0)))⟩])
      .ret)
    (.seq (.reg none [⟨some 46, none, .q (.mv (.t 10))⟩, ⟨some 47, none, .q (.bin .leq (.t 46) (.c (.i .i64 36)))⟩, ⟨some 45, none, .q (.mv (.t 47))⟩])
      (.keep [1, 3, 9, 10, 45]
      (.cond (.t 45) (.seq (.reg none [⟨some 48, none, .q (.fa 2 (.t 9))⟩, ⟨some 49, none, .q (.ld none (.t 48))⟩, ⟨some 50, none, .q (.fa 3 (.t 9))⟩, ⟨some 51, none, .q (.ld none (.t 50))⟩, ⟨some 52, none, .m (.bsl 2 1 [(.i .i64 0)] [(0, 1, .t 49), (1, 1, .t 51)])⟩, ⟨some 53, none, .call (.f 50) [(.t 52)]⟩, ⟨some 6, none, .q (.mv (.t 53))⟩, ⟨some 7, none, .q (.mv (.c (.i .i64 0)))⟩])
        .ret)
      (.seq (.reg none [⟨some 55, none, .q (.mv (.t 10))⟩, ⟨some 56, none, .q (.bin .eql (.t 55) (.c (.i .i64 43)))⟩, ⟨some 57, none, .q (.mv (.t 56))⟩, ⟨some 58, some (57, false), .q (.mv (.t 10))⟩, ⟨some 59, some (57, false), .q (.bin .eql (.t 58) (.c (.i .i64 44)))⟩, ⟨some 60, none, .pk (.t 57) (.c (.b true)) (.t 59)⟩, ⟨some 61, none, .q (.mv (.t 60))⟩, ⟨some 62, some (61, false), .q (.mv (.t 10))⟩, ⟨some 63, some (61, false), .q (.bin .eql (.t 62) (.c (.i .i64 63)))⟩, ⟨some 64, none, .pk (.t 61) (.c (.b true)) (.t 63)⟩, ⟨some 65, none, .q (.mv (.t 64))⟩, ⟨some 66, some (65, false), .q (.mv (.t 10))⟩, ⟨some 67, some (65, false), .q (.bin .eql (.t 66) (.c (.i .i64 65)))⟩, ⟨some 68, none, .pk (.t 65) (.c (.b true)) (.t 67)⟩, ⟨some 54, none, .q (.mv (.t 68))⟩])
        (.keep [1, 3, 9, 10, 54]
        (.cond (.t 54) (.seq (.reg none [⟨some 69, none, .q (.fa 1 (.t 9))⟩, ⟨some 70, none, .q (.ld none (.t 69))⟩, ⟨some 71, none, .m (.bsl 1 1 [(.i .i64 0)] [(0, 1, .t 70)])⟩, ⟨some 72, none, .call (.f 50) [(.t 71)]⟩, ⟨some 6, none, .q (.mv (.t 72))⟩, ⟨some 7, none, .q (.mv (.c (.i .i64 0)))⟩])
          .ret)
        (.seq (.reg none [⟨some 74, none, .q (.mv (.t 10))⟩, ⟨some 75, none, .q (.bin .eql (.t 74) (.c (.i .i64 51)))⟩, ⟨some 76, none, .q (.mv (.t 75))⟩, ⟨some 77, some (76, false), .q (.mv (.t 10))⟩, ⟨some 78, some (76, false), .q (.bin .eql (.t 77) (.c (.i .i64 54)))⟩, ⟨some 79, none, .pk (.t 76) (.c (.b true)) (.t 78)⟩, ⟨some 80, none, .q (.mv (.t 79))⟩, ⟨some 81, some (80, false), .q (.mv (.t 10))⟩, ⟨some 82, some (80, false), .q (.bin .eql (.t 81) (.c (.i .i64 58)))⟩, ⟨some 83, none, .pk (.t 80) (.c (.b true)) (.t 82)⟩, ⟨some 73, none, .q (.mv (.t 83))⟩])
          (.keep [1, 3, 9, 10, 73]
          (.cond (.t 73) (.seq (.reg none [⟨some 84, none, .q (.fa 2 (.t 9))⟩, ⟨some 85, none, .q (.ld none (.t 84))⟩, ⟨some 86, none, .m (.bsl 1 1 [(.i .i64 0)] [(0, 1, .t 85)])⟩, ⟨some 87, none, .call (.f 50) [(.t 86)]⟩, ⟨some 6, none, .q (.mv (.t 87))⟩, ⟨some 7, none, .q (.mv (.c (.i .i64 0)))⟩])
            .ret)
          (.seq (.reg none [⟨some 89, none, .q (.mv (.t 10))⟩, ⟨some 90, none, .q (.bin .eql (.t 89) (.c (.i .i64 52)))⟩, ⟨some 88, none, .q (.mv (.t 90))⟩])
            (.keep [1, 3, 9, 10, 88]
            (.cond (.t 88) (.seq (.reg none [⟨some 91, none, .q (.fa 3 (.t 9))⟩, ⟨some 92, none, .q (.ld none (.t 91))⟩, ⟨some 93, none, .m (.bsl 1 1 [(.i .i64 0)] [(0, 1, .t 92)])⟩, ⟨some 94, none, .call (.f 50) [(.t 93)]⟩, ⟨some 6, none, .q (.mv (.t 94))⟩, ⟨some 7, none, .q (.mv (.c (.i .i64 0)))⟩])
              .ret)
            (.seq (.reg none [⟨some 96, none, .q (.mv (.t 10))⟩, ⟨some 97, none, .q (.bin .eql (.t 96) (.c (.i .i64 53)))⟩, ⟨some 95, none, .q (.mv (.t 97))⟩])
              (.keep [1, 3, 9, 10, 95]
              (.cond (.t 95) (.seq (.reg none [⟨some 98, none, .q (.fa 3 (.t 9))⟩, ⟨some 99, none, .q (.ld none (.t 98))⟩, ⟨some 100, none, .q (.fa 4 (.t 9))⟩, ⟨some 101, none, .q (.ld none (.t 100))⟩, ⟨some 102, none, .m (.bsl 2 1 [(.i .i64 0)] [(0, 1, .t 99), (1, 1, .t 101)])⟩, ⟨some 103, none, .call (.f 50) [(.t 102)]⟩, ⟨some 6, none, .q (.mv (.t 103))⟩, ⟨some 7, none, .q (.mv (.c (.i .i64 0)))⟩])
                .ret)
              (.seq (.reg none [⟨some 105, none, .q (.mv (.t 10))⟩, ⟨some 106, none, .q (.bin .eql (.t 105) (.c (.i .i64 61)))⟩, ⟨some 104, none, .q (.mv (.t 106))⟩])
                (.keep [1, 3, 9, 10, 104]
                (.cond (.t 104) (.seq (.reg none [⟨some 11, none, .q (.mv (.c .nil))⟩])
                  (.gst (.nilT 11 1)
                  (.keep [1, 3, 9, 11]
                  (.seq (.seq (.reg (some (13, [])) [⟨some 107, none, .q (.fa 3 (.t 3))⟩, ⟨some 108, none, .q (.ld none (.t 107))⟩, ⟨some 109, none, .q (.mv (.t 1))⟩, ⟨some 110, none, .q (.ias 4 (.t 108) (.t 109))⟩, ⟨some 111, none, .q (.fa 3 (.t 110))⟩, ⟨some 112, none, .q (.ld none (.t 111))⟩, ⟨some 113, none, .q (.fa 1 (.t 9))⟩, ⟨some 114, none, .q (.ld none (.t 113))⟩, ⟨some 115, none, .q (.ias 2 (.t 112) (.t 114))⟩, ⟨some 116, none, .q (.fa 0 (.t 115))⟩, ⟨some 117, none, .q (.ld none (.t 116))⟩, ⟨some 118, none, .q (.len false (.t 117))⟩, ⟨some 119, none, .q (.mv (.c (.i .i64 0)))⟩])
                    (.keep [11, 117, 118, 119]
                    (.blk 1 (.keep [11, 117, 118, 119]
                    (.loop (.fin [11, 117, 118, 119]
                      (.seq (.reg none [⟨some 120, none, .q (.bin .lss (.t 119) (.t 118))⟩])
                      (.keep [11, 117, 118, 119, 120]
                      (.seq (.cond (.t 120) .skip
                        (.exit 1))
                      (.seq (.blk 2 (.seq (.reg none [⟨some 121, none, .q (.ias 4 (.t 117) (.t 119))⟩, ⟨some 122, none, .q (.ld (some 4) (.t 121))⟩, ⟨some 13, none, .m (.alloc (.g [(.b false), (.i .i64 0), (.i .i64 0), (.i .i64 0)]))⟩, ⟨none, none, .m (.st 4 (.t 13) (.t 122))⟩])
                        (.keep [11, 13, 117, 118, 119]
                        (.seq (.reg none [⟨some 123, none, .q (.fa 0 (.t 13))⟩, ⟨some 124, none, .q (.ld none (.t 123))⟩])
                        (.keep [11, 13, 117, 118, 119, 124]
                        (.cond (.t 124) (.reg none [⟨some 125, none, .q (.mv (.t 11))⟩, ⟨some 126, none, .q (.fa 2 (.t 13))⟩, ⟨some 127, none, .q (.ld none (.t 126))⟩, ⟨some 128, none, .m (.bsl 1 1 [(.i .i64 0)] [(0, 1, .t 127)])⟩, ⟨some 129, none, .m (.app 1 8 (.t 125) (.t 128))⟩, ⟨some 11, none, .q (.mv (.t 129))⟩])
                        .skip))))))
                      (.keep [11, 117, 118, 119]
                      (.reg none [⟨some 130, none, .q (.bin .add (.t 119) (.c (.i .i64 1)))⟩, ⟨some 119, none, .q (.mv (.t 130))⟩]))))))))))))
                  (.seq (.reg none [⟨some 131, none, .q (.mv (.t 11))⟩, ⟨some 132, none, .call (.f 50) [(.t 131)]⟩, ⟨some 6, none, .q (.mv (.t 132))⟩, ⟨some 7, none, .q (.mv (.c (.i .i64 0)))⟩])
                  .ret)))))
                (.seq (.reg none [⟨some 134, none, .q (.mv (.t 10))⟩, ⟨some 135, none, .q (.bin .eql (.t 134) (.c (.i .i64 62)))⟩, ⟨some 133, none, .q (.mv (.t 135))⟩])
                  (.keep [3, 9, 133]
                  (.cond (.t 133) (.seq (.reg none [⟨some 14, none, .q (.mv (.c .nil))⟩])
                    (.gst (.nilT 14 1)
                    (.keep [3, 9, 14]
                    (.seq (.seq (.reg none [⟨some 15, none, .q (.mv (.c (.i .i64 0)))⟩])
                      (.keep [3, 9, 14, 15]
                      (.blk 3 (.keep [3, 9, 14, 15]
                      (.loop (.fin [3, 9, 14, 15]
                        (.seq (.seq (.reg none [⟨some 136, none, .q (.mv (.t 15))⟩, ⟨some 137, none, .q (.fa 3 (.t 3))⟩, ⟨some 138, none, .q (.ld none (.t 137))⟩, ⟨some 139, none, .q (.fa 2 (.t 9))⟩, ⟨some 140, none, .q (.ld none (.t 139))⟩, ⟨some 141, none, .q (.ias 4 (.t 138) (.t 140))⟩, ⟨some 142, none, .q (.fa 0 (.t 141))⟩, ⟨some 143, none, .q (.ld none (.t 142))⟩, ⟨some 144, none, .q (.bin .lss (.t 136) (.t 143))⟩])
                          (.keep [3, 9, 14, 15, 144]
                          (.cond (.t 144) .skip
                          (.exit 3))))
                        (.seq (.blk 4 (.reg none [⟨some 147, none, .q (.mv (.t 14))⟩, ⟨some 148, none, .q (.fa 3 (.t 9))⟩, ⟨some 149, none, .q (.ld none (.t 148))⟩, ⟨some 150, none, .q (.mv (.t 15))⟩, ⟨some 151, none, .q (.bin .add (.t 149) (.t 150))⟩, ⟨some 152, none, .m (.bsl 1 1 [(.i .i64 0)] [(0, 1, .t 151)])⟩, ⟨some 153, none, .m (.app 1 8 (.t 147) (.t 152))⟩, ⟨some 14, none, .q (.mv (.t 153))⟩]))
                        (.keep [3, 9, 14, 15]
                        (.reg none [⟨some 145, none, .q (.mv (.t 15))⟩, ⟨some 146, none, .q (.bin .add (.t 145) (.c (.i .i64 1)))⟩, ⟨some 15, none, .q (.mv (.t 146))⟩]))))))))))
                    (.seq (.reg none [⟨some 154, none, .q (.mv (.t 14))⟩, ⟨some 155, none, .call (.f 50) [(.t 154)]⟩, ⟨some 6, none, .q (.mv (.t 155))⟩, ⟨some 7, none, .q (.mv (.c (.i .i64 0)))⟩])
                    .ret)))))
                  .skip)))))))))))))))))))))))))))
  (.seq (.reg none [⟨some 6, none, .q (.mv (.c .nil))⟩, ⟨some 7, none, .q (.mv (.c (.i .i64 0)))⟩])
  .ret)))))))
theorem r27 : (Try.f27.body.bind (resC Try.prog Try.f27.ntmps)) = some (strip c27) := by kernel_rfl
theorem s27 : Try.f27.results.toList.mapM (resRes Try.prog) = some [.t 6, .t 7] := by kernel_rfl
/-- scarab/scarabref03.Sets -/
def c29 : ACode :=
  (.seq (.reg none [⟨some 3, none, .m (.box (.t 0))⟩, ⟨some 6, none, .q (.mv (.c .nil))⟩, ⟨some 7, none, .q (.mv (.c (.i .i64 0)))⟩])
  (.keep [1, 2, 3]
  (.seq (.seq (.reg none [⟨some 14, none, .q (.ld (some 4) (.t 3))⟩, ⟨some 15, none, .q (.mv (.t 1))⟩, ⟨some 16, none, .q (.mv (.t 2))⟩, ⟨some 17, none, .call (.f 49) [(.t 14), (.t 15), (.t 16)]⟩, ⟨some 8, none, .q (.mv (.t 17))⟩])
    (.keep [1, 2, 3, 8]
    (.seq (.reg none [⟨some 18, none, .q (.mv (.t 8))⟩, ⟨some 19, none, .q (.bin .neq (.t 18) (.c (.i .i64 0)))⟩])
    (.keep [1, 2, 3, 8, 19]
    (.cond (.t 19) (.seq (.reg none [⟨some 20, none, .q (.mv (.t 8))⟩, ⟨some 6, none, .q (.mv (.c .nil))⟩, ⟨some 7, none, .q (.mv (.t 20))⟩])
      .ret)
    .skip)))))
  (.seq (.reg none [⟨some 21, none, .q (.fa 3 (.t 3))⟩, ⟨some 22, none, .q (.ld none (.t 21))⟩, ⟨some 23, none, .q (.mv (.t 1))⟩, ⟨some 24, none, .q (.ias 4 (.t 22) (.t 23))⟩, ⟨some 25, none, .q (.fa 2 (.t 24))⟩, ⟨some 26, none, .q (.ld none (.t 25))⟩, ⟨some 27, none, .q (.mv (.t 2))⟩, ⟨some 28, none, .q (.ias 5 (.t 26) (.t 27))⟩, ⟨some 29, none, .q (.ld (some 5) (.t 28))⟩, ⟨some 9, none, .m (.alloc (.g [(.i .i64 0), (.i .i64 0), (.i .i64 0), (.i .i64 0), (.i .i64 0)]))⟩, ⟨none, none, .m (.st 5 (.t 9) (.t 29))⟩])
  (.keep [1, 3, 9]
  (.seq (.seq (.reg none [⟨some 30, none, .q (.fa 0 (.t 9))⟩, ⟨some 31, none, .q (.ld none (.t 30))⟩, ⟨some 10, none, .q (.mv (.t 31))⟩])
    (.keep [1, 3, 9, 10]
    (.blk 0 (.seq (.reg none [⟨some 33, none, .q (.mv (.t 10))⟩, ⟨some 34, none, .q (.bin .leq (.t 33) (.c (.i .i64 41)))⟩, ⟨some 35, none, .q (.mv (.t 34))⟩, ⟨some 36, some (35, false), .q (.mv (.t 10))⟩, ⟨some 37, some (35, false), .q (.bin .eql (.t 36) (.c (.i .i64 50)))⟩, ⟨some 38, none, .pk (.t 35) (.c (.b true)) (.t 37)⟩, ⟨some 39, none, .q (.mv (.t 38))⟩, ⟨some 40, some (39, false), .q (.mv (.t 10))⟩, ⟨some 41, some (39, false), .q (.bin .eql (.t 40) (.c (.i .i64 52)))⟩, ⟨some 42, none, .pk (.t 39) (.c (.b true)) (.t 41)⟩, ⟨some 43, none, .q (.mv (.t 42))⟩, ⟨some 44, some (43, false), .q (.mv (.t 10))⟩, ⟨some 45, some (43, false), .q (.bin .eql (.t 44) (.c (.i .i64 53)))⟩, ⟨some 46, none, .pk (.t 43) (.c (.b true)) (.t 45)⟩, ⟨some 47, none, .q (.mv (.t 46))⟩, ⟨some 48, some (47, false), .q (.mv (.t 10))⟩, ⟨some 49, some (47, false), .q (.bin .eql (.t 48) (.c (.i .i64 57)))⟩, ⟨some 50, none, .pk (.t 47) (.c (.b true)) (.t 49)⟩, ⟨some 51, none, .q (.mv (.t 50))⟩, ⟨some 52, some (51, false), .q (.mv (.t 10))⟩, ⟨some 53, some (51, false), .q (.bin .eql (.t 52) (.c (.i .i64 62)))⟩, ⟨some 54, none, .pk (.t 51) (.c (.b true)) (.t 53)⟩, ⟨some 32, none, .q (.mv (.t 54))⟩])
    (.keep [1, 3, 9, 10, 32]
    (.cond (.t 32) (.seq (.reg none [⟨some 55, none, .q (.fa 1 (.t 9))⟩, ⟨some 56, none, .q (.ld none (.t 55))⟩, ⟨some 57, none, .m (.bsl 1 1 [(.i .i64 0)] [(0, 1, .t 56)])⟩, ⟨some 58, none, .call (.f 50) [(.t 57)]⟩, ⟨some 6, none, .q (.mv (.t 58))⟩, ⟨some 7, none, .q (.mv (.c (.i .i64 0)))⟩])
      .ret)
    (.seq (.reg none [⟨some 60, none, .q (.mv (.t 10))⟩, ⟨some 61, none, .q (.bin .eql (.t 60) (.c (.i .i64 59)))⟩, ⟨some 59, none, .q (.mv (.t 61))⟩])
      (.keep [1, 3, 9, 10, 59]
      (.cond (.t 59) (.seq (.reg none [⟨some 62, none, .q (.fa 1 (.t 9))⟩, ⟨some 63, none, .q (.ld none (.t 62))⟩, ⟨some 64, none, .q (.fa 3 (.t 9))⟩, ⟨some 65, none, .q (.ld none (.t 64))⟩, ⟨some 66, none, .m (.bsl 2 1 [(.i .i64 0)] [(0, 1, .t 63), (1, 1, .t 65)])⟩, ⟨some 67, none, .call (.f 50) [(.t 66)]⟩, ⟨some 6, none, .q (.mv (.t 67))⟩, ⟨some 7, none, .q (.mv (.c (.i .i64 0)))⟩])
        .ret)
      (.seq (.reg none [⟨some 69, none, .q (.mv (.t 10))⟩, ⟨some 70, none, .q (.bin .eql (.t 69) (.c (.i .i64 61)))⟩, ⟨some 68, none, .q (.mv (.t 70))⟩])
        (.keep [1, 3, 9, 68]
        (.cond (.t 68) (.seq (.reg none [⟨some 11, none, .q (.mv (.c .nil))⟩])
          (.gst (.nilT 11 1)
          (.keep [1, 3, 9, 11]
          (.seq (.seq (.reg (some (13, [])) [⟨some 71, none, .q (.fa 3 (.t 3))⟩, ⟨some 72, none, .q (.ld none (.t 71))⟩, ⟨some 73, none, .q (.mv (.t 1))⟩, ⟨some 74, none, .q (.ias 4 (.t 72) (.t 73))⟩, ⟨some 75, none, .q (.fa 3 (.t 74))⟩, ⟨some 76, none, .q (.ld none (.t 75))⟩, ⟨some 77, none, .q (.fa 1 (.t 9))⟩, ⟨some 78, none, .q (.ld none (.t 77))⟩, ⟨some 79, none, .q (.ias 2 (.t 76) (.t 78))⟩, ⟨some 80, none, .q (.fa 0 (.t 79))⟩, ⟨some 81, none, .q (.ld none (.t 80))⟩, ⟨some 82, none, .q (.len false (.t 81))⟩, ⟨some 83, none, .q (.mv (.c (.i .i64 0)))⟩])
            (.keep [11, 81, 82, 83]
            (.blk 1 (.keep [11, 81, 82, 83]
            (.loop (.fin [11, 81, 82, 83]
              (.seq (.reg none [⟨some 84, none, .q (.bin .lss (.t 83) (.t 82))⟩])
              (.keep [11, 81, 82, 83, 84]
              (.seq (.cond (.t 84) .skip
                (.exit 1))
              (.seq (.blk 2 (.seq (.reg none [⟨some 85, none, .q (.ias 4 (.t 81) (.t 83))⟩, ⟨some 86, none, .q (.ld (some 4) (.t 85))⟩, ⟨some 13, none, .m (.alloc (.g [(.b false), (.i .i64 0), (.i .i64 0), (.i .i64 0)]))⟩, ⟨none, none, .m (.st 4 (.t 13) (.t 86))⟩])
                (.keep [11, 13, 81, 82, 83]
                (.seq (.reg none [⟨some 87, none, .q (.fa 0 (.t 13))⟩, ⟨some 88, none, .q (.ld none (.t 87))⟩, ⟨some 89, none, .q (.un .not (.t 88))⟩])
                (.keep [11, 13, 81, 82, 83, 89]
                (.cond (.t 89) (.reg none [⟨some 90, none, .q (.mv (.t 11))⟩, ⟨some 91, none, .q (.fa 2 (.t 13))⟩, ⟨some 92, none, .q (.ld none (.t 91))⟩, ⟨some 93, none, .m (.bsl 1 1 [(.i .i64 0)] [(0, 1, .t 92)])⟩, ⟨some 94, none, .m (.app 1 8 (.t 90) (.t 93))⟩, ⟨some 11, none, .q (.mv (.t 94))⟩])
                .skip))))))
              (.keep [11, 81, 82, 83]
              (.reg none [⟨some 95, none, .q (.bin .add (.t 83) (.c (.i .i64 1)))⟩, ⟨some 83, none, .q (.mv (.t 95))⟩]))))))))))))
          (.seq (.reg none [⟨some 96, none, .q (.mv (.t 11))⟩, ⟨some 97, none, .call (.f 50) [(.t 96)]⟩, ⟨some 6, none, .q (.mv (.t 97))⟩, ⟨some 7, none, .q (.mv (.c (.i .i64 0)))⟩])
          .ret)))))
        .skip))))))))))))
  (.seq (.reg none [⟨some 6, none, .q (.mv (.c .nil))⟩, ⟨some 7, none, .q (.mv (.c (.i .i64 0)))⟩])
  .ret)))))))
theorem r29 : (Try.f29.body.bind (resC Try.prog Try.f29.ntmps)) = some (strip c29) := by kernel_rfl
theorem s29 : Try.f29.results.toList.mapM (resRes Try.prog) = some [.t 6, .t 7] := by kernel_rfl
theorem irow_flat : ∀ x : Int, ∀ c ∈ irow x, Flat c := by
  intro x c hc
  simp [irow] at hc
  subst hc
  exact .i _ _
theorem few8 {l : List Int} (h : l.length ≤ 12) : Few 8 l := by unfold Few; omega
set_option maxHeartbeats 4000000 in
theorem reads_r (p : Prog) (f pc : Int) (hp : p.Ok) : PureS Try.prog 27 [.g p.row, .i .i64 f, .i .i64 pc] (regV (readsV p f pc) (askE p f pc)) := by
  refine pure_wk ?_
  refine fun_go hmx Try.func27 r27 s27 (by rw [Try.ntmps27]; simp) ?_
  unfold c27
  simp [Prog.row]
  first
    | refine callk rfl Try.call49 (asked_p p f pc hp) rfl ?_
    | refine callks rfl Try.call49 (asked_p p f pc hp) rfl ?_
    | refine callq rfl Try.call49 (asked_p p f pc hp) rfl ?_
  simp
  by_cases h : askE p f pc = 0
  rotate_left
  · simp [h, readsV, regV]
    exact ⟨_, .v _, by simp⟩
  obtain ⟨hrp, hf, hpc, hok⟩ := ask_ok h
  have hgf : p.funcs[f.toNat]? = some (p.funcs.getD f.toNat default) := by
    rw [List.getD_eq_getElem?_getD, List.getElem?_eq_getElem (by omega)]; rfl
  have hgx : (p.funcs.getD f.toNat default).code[pc.toNat]? = some (insAt p f pc) := by
    rw [insAt, List.getD_eq_getElem?_getD (l := (p.funcs.getD f.toNat default).code), List.getElem?_eq_getElem (by omega)]; rfl
  rw [readsV, if_pos h]
  simp only [h]
  generalize p.funcs.getD f.toNat default = F at *
  generalize insAt p f pc = x at *
  have hgf2 : ∀ hh, p.funcs[f.toNat]'hh = F := fun hh => by
    have := List.getElem?_eq_getElem hh; rw [hgf] at this; exact (Option.some.inj this).symm
  have hgx2 : ∀ hh, F.code[pc.toNat]'hh = x := fun hh => by
    have := List.getElem?_eq_getElem hh; rw [hgx] at this; exact (Option.some.inj this).symm
  obtain ⟨⟨o1, o65, o36, o45⟩, ⟨r0, r8⟩, hrd, hst, hsel, hspawn⟩ := hok
  have hb := hrd
  have hcases : (x.op ≤ 15) ∨ (16 ≤ x.op ∧ x.op ≤ 36) ∨ x.op = 40 ∨ x.op = 41 ∨ x.op = 42 ∨ x.op = 43 ∨ x.op = 44 ∨ x.op = 45 ∨ x.op = 50 ∨ x.op = 51 ∨ x.op = 52 ∨ x.op = 53 ∨ x.op = 54 ∨ x.op = 55 ∨ x.op = 56 ∨ x.op = 57 ∨ x.op = 58 ∨ x.op = 59 ∨ x.op = 60 ∨ x.op = 63 ∨ x.op = 64 ∨ x.op = 65 ∨ x.op = 61 ∨ x.op = 62 := by omega
  rcases hcases with hop | hop | hop | hop | hop | hop | hop | hop | hop | hop | hop | hop | hop | hop | hop | hop | hop | hop | hop | hop | hop | hop | hop | hop
  · -- x.op ≤ 15
    have n40 : ¬ x.op = 40 := by omega
    have n41 : ¬ x.op = 41 := by omega
    have n42 : ¬ x.op = 42 := by omega
    have n43 : ¬ x.op = 43 := by omega
    have n44 : ¬ x.op = 44 := by omega
    have n45 : ¬ x.op = 45 := by omega
    have n50 : ¬ x.op = 50 := by omega
    have n51 : ¬ x.op = 51 := by omega
    have n52 : ¬ x.op = 52 := by omega
    have n53 : ¬ x.op = 53 := by omega
    have n54 : ¬ x.op = 54 := by omega
    have n55 : ¬ x.op = 55 := by omega
    have n56 : ¬ x.op = 56 := by omega
    have n57 : ¬ x.op = 57 := by omega
    have n58 : ¬ x.op = 58 := by omega
    have n59 : ¬ x.op = 59 := by omega
    have n60 : ¬ x.op = 60 := by omega
    have n61 : ¬ x.op = 61 := by omega
    have n62 : ¬ x.op = 62 := by omega
    have n63 : ¬ x.op = 63 := by omega
    have n64 : ¬ x.op = 64 := by omega
    have n65 : ¬ x.op = 65 := by omega
    have y15 : x.op ≤ 15 := by omega
    have hL : readsL p F x = [x.b] := by unfold readsL; rw [if_pos (by omega)]
    rw [hL]
    simp [Instr.row, hgf, hgf2, hgx, hgx2, hf, hpc, Func.row, y15]
    refine callo rfl Try.call50 (rising_p [x.b] (few8 (by simp))) (flat_rows irow_flat) ⟨frz_rows (by simp [irow, vrows]), trivial⟩ ?_
    simp
    exact ⟨_, frz_tr (cs' := [.sl 1 ((rise8 [x.b]).map irow), .i .i64 0]) ⟨frz_rows rfl, .v _, trivial⟩, by simp [regV]⟩
  · -- 16 ≤ x.op ∧ x.op ≤ 36
    have n40 : ¬ x.op = 40 := by omega
    have n41 : ¬ x.op = 41 := by omega
    have n42 : ¬ x.op = 42 := by omega
    have n43 : ¬ x.op = 43 := by omega
    have n44 : ¬ x.op = 44 := by omega
    have n45 : ¬ x.op = 45 := by omega
    have n50 : ¬ x.op = 50 := by omega
    have n51 : ¬ x.op = 51 := by omega
    have n52 : ¬ x.op = 52 := by omega
    have n53 : ¬ x.op = 53 := by omega
    have n54 : ¬ x.op = 54 := by omega
    have n55 : ¬ x.op = 55 := by omega
    have n56 : ¬ x.op = 56 := by omega
    have n57 : ¬ x.op = 57 := by omega
    have n58 : ¬ x.op = 58 := by omega
    have n59 : ¬ x.op = 59 := by omega
    have n60 : ¬ x.op = 60 := by omega
    have n61 : ¬ x.op = 61 := by omega
    have n62 : ¬ x.op = 62 := by omega
    have n63 : ¬ x.op = 63 := by omega
    have n64 : ¬ x.op = 64 := by omega
    have n65 : ¬ x.op = 65 := by omega
    have n15 : ¬ x.op ≤ 15 := by omega
    have y36 : x.op ≤ 36 := by omega
    have hL : readsL p F x = [x.b, x.c] := by unfold readsL; rw [if_neg (by omega), if_pos (by omega)]
    rw [hL]
    simp [Instr.row, hgf, hgf2, hgx, hgx2, hf, hpc, Func.row, n41, n15, y36]
    refine callo rfl Try.call50 (rising_p [x.b, x.c] (few8 (by simp))) (flat_rows irow_flat) ⟨frz_rows (by simp [irow, vrows]), trivial⟩ ?_
    simp
    exact ⟨_, frz_tr (cs' := [.sl 1 ((rise8 [x.b, x.c]).map irow), .i .i64 0]) ⟨frz_rows rfl, .v _, trivial⟩, by simp [regV]⟩
  · -- 40
    have hL : readsL p F x = [] := by unfold readsL; simp [hop]
    rw [hL]
    simp [Instr.row, hgf, hgf2, hgx, hgx2, hf, hpc, Func.row, hop]
    exact ⟨_, .v _, by simp [regV, rise8_nil]⟩
  · -- 41
    have hL : readsL p F x = [x.b] := by unfold readsL; simp [hop]
    rw [hL]
    simp [Instr.row, hgf, hgf2, hgx, hgx2, hf, hpc, Func.row, hop]
    refine callo rfl Try.call50 (rising_p [x.b] (few8 (by simp))) (flat_rows irow_flat) ⟨frz_rows (by simp [irow, vrows]), trivial⟩ ?_
    simp
    exact ⟨_, frz_tr (cs' := [.sl 1 ((rise8 [x.b]).map irow), .i .i64 0]) ⟨frz_rows rfl, .v _, trivial⟩, by simp [regV]⟩
  · -- 42
    have hL : readsL p F x = [] := by unfold readsL; simp [hop]
    rw [hL]
    simp [Instr.row, hgf, hgf2, hgx, hgx2, hf, hpc, Func.row, hop]
    exact ⟨_, .v _, by simp [regV, rise8_nil]⟩
  · -- 43
    have hL : readsL p F x = [x.a] := by unfold readsL; simp [hop]
    rw [hL]
    simp [Instr.row, hgf, hgf2, hgx, hgx2, hf, hpc, Func.row, hop]
    refine callo rfl Try.call50 (rising_p [x.a] (few8 (by simp))) (flat_rows irow_flat) ⟨frz_rows (by simp [irow, vrows]), trivial⟩ ?_
    simp
    exact ⟨_, frz_tr (cs' := [.sl 1 ((rise8 [x.a]).map irow), .i .i64 0]) ⟨frz_rows rfl, .v _, trivial⟩, by simp [regV]⟩
  · -- 44
    have hL : readsL p F x = [x.a] := by unfold readsL; simp [hop]
    rw [hL]
    simp [Instr.row, hgf, hgf2, hgx, hgx2, hf, hpc, Func.row, hop]
    refine callo rfl Try.call50 (rising_p [x.a] (few8 (by simp))) (flat_rows irow_flat) ⟨frz_rows (by simp [irow, vrows]), trivial⟩ ?_
    simp
    exact ⟨_, frz_tr (cs' := [.sl 1 ((rise8 [x.a]).map irow), .i .i64 0]) ⟨frz_rows rfl, .v _, trivial⟩, by simp [regV]⟩
  · -- 45
    have hL : readsL p F x = [] := by unfold readsL; simp [hop]
    rw [hL]
    simp [Instr.row, hgf, hgf2, hgx, hgx2, hf, hpc, Func.row, hop]
    exact ⟨_, .v _, by simp [regV, rise8_nil]⟩
  · -- 50
    have hL : readsL p F x = [] := by unfold readsL; simp [hop]
    rw [hL]
    simp [Instr.row, hgf, hgf2, hgx, hgx2, hf, hpc, Func.row, hop]
    exact ⟨_, .v _, by simp [regV, rise8_nil]⟩
  · -- 51
    have hL : readsL p F x = [x.b] := by unfold readsL; simp [hop]
    rw [hL]
    simp [Instr.row, hgf, hgf2, hgx, hgx2, hf, hpc, Func.row, hop]
    refine callo rfl Try.call50 (rising_p [x.b] (few8 (by simp))) (flat_rows irow_flat) ⟨frz_rows (by simp [irow, vrows]), trivial⟩ ?_
    simp
    exact ⟨_, frz_tr (cs' := [.sl 1 ((rise8 [x.b]).map irow), .i .i64 0]) ⟨frz_rows rfl, .v _, trivial⟩, by simp [regV]⟩
  · -- 52
    have hL : readsL p F x = [x.c] := by unfold readsL; simp [hop]
    rw [hL]
    simp [Instr.row, hgf, hgf2, hgx, hgx2, hf, hpc, Func.row, hop]
    refine callo rfl Try.call50 (rising_p [x.c] (few8 (by simp))) (flat_rows irow_flat) ⟨frz_rows (by simp [irow, vrows]), trivial⟩ ?_
    simp
    exact ⟨_, frz_tr (cs' := [.sl 1 ((rise8 [x.c]).map irow), .i .i64 0]) ⟨frz_rows rfl, .v _, trivial⟩, by simp [regV]⟩
  · -- 53
    have hL : readsL p F x = [x.c, x.n] := by unfold readsL; simp [hop]
    rw [hL]
    simp [Instr.row, hgf, hgf2, hgx, hgx2, hf, hpc, Func.row, hop]
    refine callo rfl Try.call50 (rising_p [x.c, x.n] (few8 (by simp))) (flat_rows irow_flat) ⟨frz_rows (by simp [irow, vrows]), trivial⟩ ?_
    simp
    exact ⟨_, frz_tr (cs' := [.sl 1 ((rise8 [x.c, x.n]).map irow), .i .i64 0]) ⟨frz_rows rfl, .v _, trivial⟩, by simp [regV]⟩
  · -- 54
    have hL : readsL p F x = [x.b] := by unfold readsL; simp [hop]
    rw [hL]
    simp [Instr.row, hgf, hgf2, hgx, hgx2, hf, hpc, Func.row, hop]
    refine callo rfl Try.call50 (rising_p [x.b] (few8 (by simp))) (flat_rows irow_flat) ⟨frz_rows (by simp [irow, vrows]), trivial⟩ ?_
    simp
    exact ⟨_, frz_tr (cs' := [.sl 1 ((rise8 [x.b]).map irow), .i .i64 0]) ⟨frz_rows rfl, .v _, trivial⟩, by simp [regV]⟩
  · -- 55
    have hL : readsL p F x = [] := by unfold readsL; simp [hop]
    rw [hL]
    simp [Instr.row, hgf, hgf2, hgx, hgx2, hf, hpc, Func.row, hop]
    exact ⟨_, .v _, by simp [regV, rise8_nil]⟩
  · -- 56
    have hL : readsL p F x = [] := by unfold readsL; simp [hop]
    rw [hL]
    simp [Instr.row, hgf, hgf2, hgx, hgx2, hf, hpc, Func.row, hop]
    exact ⟨_, .v _, by simp [regV, rise8_nil]⟩
  · -- 57
    have hL : readsL p F x = [] := by unfold readsL; simp [hop]
    rw [hL]
    simp [Instr.row, hgf, hgf2, hgx, hgx2, hf, hpc, Func.row, hop]
    exact ⟨_, .v _, by simp [regV, rise8_nil]⟩
  · -- 58
    have hL : readsL p F x = [x.b] := by unfold readsL; simp [hop]
    rw [hL]
    simp [Instr.row, hgf, hgf2, hgx, hgx2, hf, hpc, Func.row, hop]
    refine callo rfl Try.call50 (rising_p [x.b] (few8 (by simp))) (flat_rows irow_flat) ⟨frz_rows (by simp [irow, vrows]), trivial⟩ ?_
    simp
    exact ⟨_, frz_tr (cs' := [.sl 1 ((rise8 [x.b]).map irow), .i .i64 0]) ⟨frz_rows rfl, .v _, trivial⟩, by simp [regV]⟩
  · -- 59
    have hL : readsL p F x = [] := by unfold readsL; simp [hop]
    rw [hL]
    simp [Instr.row, hgf, hgf2, hgx, hgx2, hf, hpc, Func.row, hop]
    exact ⟨_, .v _, by simp [regV, rise8_nil]⟩
  · -- 60
    have hL : readsL p F x = [] := by unfold readsL; simp [hop]
    rw [hL]
    simp [Instr.row, hgf, hgf2, hgx, hgx2, hf, hpc, Func.row, hop]
    exact ⟨_, .v _, by simp [regV, rise8_nil]⟩
  · -- 63
    have hL : readsL p F x = [x.a] := by unfold readsL; simp [hop]
    rw [hL]
    simp [Instr.row, hgf, hgf2, hgx, hgx2, hf, hpc, Func.row, hop]
    refine callo rfl Try.call50 (rising_p [x.a] (few8 (by simp))) (flat_rows irow_flat) ⟨frz_rows (by simp [irow, vrows]), trivial⟩ ?_
    simp
    exact ⟨_, frz_tr (cs' := [.sl 1 ((rise8 [x.a]).map irow), .i .i64 0]) ⟨frz_rows rfl, .v _, trivial⟩, by simp [regV]⟩
  · -- 64
    have hL : readsL p F x = [] := by unfold readsL; simp [hop]
    rw [hL]
    simp [Instr.row, hgf, hgf2, hgx, hgx2, hf, hpc, Func.row, hop]
    exact ⟨_, .v _, by simp [regV, rise8_nil]⟩
  · -- 65
    have hL : readsL p F x = [x.a] := by unfold readsL; simp [hop]
    rw [hL]
    simp [Instr.row, hgf, hgf2, hgx, hgx2, hf, hpc, Func.row, hop]
    refine callo rfl Try.call50 (rising_p [x.a] (few8 (by simp))) (flat_rows irow_flat) ⟨frz_rows (by simp [irow, vrows]), trivial⟩ ?_
    simp
    exact ⟨_, frz_tr (cs' := [.sl 1 ((rise8 [x.a]).map irow), .i .i64 0]) ⟨frz_rows rfl, .v _, trivial⟩, by simp [regV]⟩
  · -- 61
    obtain ⟨a0, a1, a4⟩ := hsel hop
    have hgs : F.selects[x.a.toNat]? = some (F.selects.getD x.a.toNat default) := by
      rw [List.getD_eq_getElem?_getD, List.getElem?_eq_getElem (by omega)]; rfl
    have hL : readsL p F x = ((F.selects.getD x.a.toNat default).cases.filter (fun c => c.send)).map (·.reg) := by unfold readsL; simp [hop]
    rw [hL]
    generalize F.selects.getD x.a.toNat default = S at *
    have hgs2 : ∀ hh, F.selects[x.a.toNat]'hh = S := fun hh => by
      have := List.getElem?_eq_getElem hh; rw [hgs] at this; exact (Option.some.inj this).symm
    simp [Instr.row, hgf, hgf2, hgx, hgx2, hf, hpc, Func.row, hop, hgs, hgs2, Select.row, a0, a1]
    refine go_each hmx 3 119 S.cases (fun (b : Nat × List Int) => [(11, .os 2 b.1)]) (fun b => [.var (p.row.map .v), .var (x.row.map .v), .arr b.1 1 (vrows (b.2.map irow))]) (fun _ b rest => b.2 ++ (rest.filter (fun c => c.send)).map (·.reg) = (S.cases.filter (fun c => c.send)).map (·.reg)) (0, []) (by omega) rfl rfl (by simp [Prog.row, Instr.row, hop, vrows]) (by simp) (by simp [RV.dom]) (by simp [Prog.row, Instr.row]) rfl ?_ ?_
    · rintro i c rest ⟨v, acc⟩ hi hx hr hj hw
      simp only at hj
      have hac : acc.length ≤ 4 := by
        have h1 := congrArg List.length hj
        have h2 := List.length_filter_le (fun c => c.send) S.cases
        simp only [List.length_append, List.length_map] at h1; omega
      simp [hi, hx, Case.row, hw]
      refine ⟨fun hc => ⟨by omega, acc ++ [c.reg], push_item _ _, ?_⟩, fun hc => ⟨acc, rfl, ?_⟩⟩ <;> rw [← hj] <;> simp [hc]
    · rintro ⟨v, acc⟩ hj
      simp only [List.filter_nil, List.map_nil, List.append_nil] at hj
      have hac : acc.length ≤ 4 := by
        have h1 := congrArg List.length hj
        have h2 := List.length_filter_le (fun c => c.send) S.cases
        simp only [List.length_map] at h1; omega
      simp [Prog.row, Instr.row]
      refine callo rfl Try.call50 (rising_p acc (few8 (by omega))) (flat_rows irow_flat) ⟨frz_rows rfl, trivial⟩ ?_
      simp
      exact ⟨_, frz_tr (cs' := [.sl 1 ((rise8 acc).map irow), .i .i64 0]) ⟨frz_rows rfl, .v _, trivial⟩, by simp [regV, hj]⟩
  · -- 62
    obtain ⟨b0, b1, k0, k8, c0, c8⟩ := hspawn hop
    have hgb : p.funcs[x.b.toNat]? = some (p.funcs.getD x.b.toNat default) := by
      rw [List.getD_eq_getElem?_getD, List.getElem?_eq_getElem (by omega)]; rfl
    have hL : readsL p F x = (List.range (p.funcs.getD x.b.toNat default).params.toNat).map (fun k : Nat => x.c + k) := by unfold readsL; simp [hop]
    rw [hL]
    generalize p.funcs.getD x.b.toNat default = G at *
    have hgb2 : ∀ hh, p.funcs[x.b.toNat]'hh = G := fun hh => by
      have := List.getElem?_eq_getElem hh; rw [hgb] at this; exact (Option.some.inj this).symm
    simp [Instr.row, hgf, hgf2, hgx, hgx2, hf, hpc, Func.row, hop, hgb, hgb2, b0, b1]
    have hkl : (List.range G.params.toNat).length = G.params.toNat := by simp
    refine go_each hmx 3 15 (List.range G.params.toNat) (fun (b : Nat × List Int) => [(14, .os 2 b.1)]) (fun b => [.var (p.row.map .v), .var (x.row.map .v), .arr b.1 1 (vrows (b.2.map irow))]) (fun _ b rest => b.2 ++ rest.map (fun k : Nat => x.c + k) = (List.range G.params.toNat).map (fun k : Nat => x.c + k)) (0, []) (by omega) rfl rfl (by simp [Prog.row, Instr.row, hop, vrows]) (by simp) (by simp [RV.dom]) (by simp [Prog.row, Instr.row]) rfl ?_ ?_
    · rintro i c rest ⟨v, acc⟩ hi hx hr hj hw
      simp only at hj
      rw [hkl] at hi
      have hci : c = i := by rw [← hx]; simp
      subst hci
      have hac : acc.length ≤ 8 := by
        have h1 := congrArg List.length hj
        simp only [List.length_append, List.length_map, List.length_range] at h1; omega
      have hiI : (c : Int) < G.params := by omega
      have hw2 : IntKind.i64.wrap (x.c + (c : Int)) = x.c + (c : Int) := wrap_in (by omega) (by omega)
      simp [hi, hiI, hw, hw2, Prog.row, Instr.row, hgb, hgb2, b0, b1, Func.row]
      refine ⟨by omega, acc ++ [x.c + (c : Int)], push_item _ _, ?_⟩
      rw [← hj]; simp
    · rintro ⟨v, acc⟩ hj
      simp only [List.map_nil, List.append_nil] at hj
      have hac : acc.length ≤ 8 := by
        have h1 := congrArg List.length hj
        simp only [List.length_map, List.length_range] at h1; omega
      have hkI : ((G.params.toNat : Nat) : Int) = G.params := by omega
      simp [Prog.row, Instr.row, hkI, hgb, hgb2, b0, b1, Func.row]
      refine callo rfl Try.call50 (rising_p acc (few8 (by omega))) (flat_rows irow_flat) ⟨frz_rows rfl, trivial⟩ ?_
      simp
      exact ⟨_, frz_tr (cs' := [.sl 1 ((rise8 acc).map irow), .i .i64 0]) ⟨frz_rows rfl, .v _, trivial⟩, by simp [regV, hj]⟩
set_option maxHeartbeats 4000000 in
theorem sets_r (p : Prog) (f pc : Int) (hp : p.Ok) : PureS Try.prog 29 [.g p.row, .i .i64 f, .i .i64 pc] (regV (setsV p f pc) (askE p f pc)) := by
  refine pure_wk ?_
  refine fun_go hmx Try.func29 r29 s29 (by rw [Try.ntmps29]; simp) ?_
  unfold c29
  simp [Prog.row]
  first
    | refine callk rfl Try.call49 (asked_p p f pc hp) rfl ?_
    | refine callks rfl Try.call49 (asked_p p f pc hp) rfl ?_
    | refine callq rfl Try.call49 (asked_p p f pc hp) rfl ?_
  simp
  by_cases h : askE p f pc = 0
  rotate_left
  · simp [h, setsV, regV]
    exact ⟨_, .v _, by simp⟩
  obtain ⟨hrp, hf, hpc, hok⟩ := ask_ok h
  have hgf : p.funcs[f.toNat]? = some (p.funcs.getD f.toNat default) := by
    rw [List.getD_eq_getElem?_getD, List.getElem?_eq_getElem (by omega)]; rfl
  have hgx : (p.funcs.getD f.toNat default).code[pc.toNat]? = some (insAt p f pc) := by
    rw [insAt, List.getD_eq_getElem?_getD (l := (p.funcs.getD f.toNat default).code), List.getElem?_eq_getElem (by omega)]; rfl
  rw [setsV, if_pos h]
  simp only [h]
  generalize p.funcs.getD f.toNat default = F at *
  generalize insAt p f pc = x at *
  have hgf2 : ∀ hh, p.funcs[f.toNat]'hh = F := fun hh => by
    have := List.getElem?_eq_getElem hh; rw [hgf] at this; exact (Option.some.inj this).symm
  have hgx2 : ∀ hh, F.code[pc.toNat]'hh = x := fun hh => by
    have := List.getElem?_eq_getElem hh; rw [hgx] at this; exact (Option.some.inj this).symm
  obtain ⟨⟨o1, o65, o36, o45⟩, ⟨r0, r8⟩, hrd, hst, hsel, hspawn⟩ := hok
  have hb := hst
  have hcases : (x.op ≤ 36) ∨ x.op = 40 ∨ x.op = 41 ∨ x.op = 42 ∨ x.op = 43 ∨ x.op = 44 ∨ x.op = 45 ∨ x.op = 50 ∨ x.op = 51 ∨ x.op = 52 ∨ x.op = 53 ∨ x.op = 54 ∨ x.op = 55 ∨ x.op = 56 ∨ x.op = 57 ∨ x.op = 58 ∨ x.op = 59 ∨ x.op = 60 ∨ x.op = 62 ∨ x.op = 63 ∨ x.op = 64 ∨ x.op = 65 ∨ x.op = 61 := by omega
  rcases hcases with hop | hop | hop | hop | hop | hop | hop | hop | hop | hop | hop | hop | hop | hop | hop | hop | hop | hop | hop | hop | hop | hop | hop
  · -- x.op ≤ 36
    have n40 : ¬ x.op = 40 := by omega
    have n41 : ¬ x.op = 41 := by omega
    have n42 : ¬ x.op = 42 := by omega
    have n43 : ¬ x.op = 43 := by omega
    have n44 : ¬ x.op = 44 := by omega
    have n45 : ¬ x.op = 45 := by omega
    have n50 : ¬ x.op = 50 := by omega
    have n51 : ¬ x.op = 51 := by omega
    have n52 : ¬ x.op = 52 := by omega
    have n53 : ¬ x.op = 53 := by omega
    have n54 : ¬ x.op = 54 := by omega
    have n55 : ¬ x.op = 55 := by omega
    have n56 : ¬ x.op = 56 := by omega
    have n57 : ¬ x.op = 57 := by omega
    have n58 : ¬ x.op = 58 := by omega
    have n59 : ¬ x.op = 59 := by omega
    have n60 : ¬ x.op = 60 := by omega
    have n61 : ¬ x.op = 61 := by omega
    have n62 : ¬ x.op = 62 := by omega
    have n63 : ¬ x.op = 63 := by omega
    have n64 : ¬ x.op = 64 := by omega
    have n65 : ¬ x.op = 65 := by omega
    have y41 : x.op ≤ 41 := by omega
    have hL : setsL F x = [x.a] := by unfold setsL; rw [if_pos (by omega)]
    rw [hL]
    simp [Instr.row, hgf, hgf2, hgx, hgx2, hf, hpc, Func.row, y41]
    refine callo rfl Try.call50 (rising_p [x.a] (few8 (by simp))) (flat_rows irow_flat) ⟨frz_rows (by simp [irow, vrows]), trivial⟩ ?_
    simp
    exact ⟨_, frz_tr (cs' := [.sl 1 ((rise8 [x.a]).map irow), .i .i64 0]) ⟨frz_rows rfl, .v _, trivial⟩, by simp [regV]⟩
  · -- 40
    have hL : setsL F x = [x.a] := by unfold setsL; simp [hop]
    rw [hL]
    simp [Instr.row, hgf, hgf2, hgx, hgx2, hf, hpc, Func.row, hop]
    refine callo rfl Try.call50 (rising_p [x.a] (few8 (by simp))) (flat_rows irow_flat) ⟨frz_rows (by simp [irow, vrows]), trivial⟩ ?_
    simp
    exact ⟨_, frz_tr (cs' := [.sl 1 ((rise8 [x.a]).map irow), .i .i64 0]) ⟨frz_rows rfl, .v _, trivial⟩, by simp [regV]⟩
  · -- 41
    have hL : setsL F x = [x.a] := by unfold setsL; simp [hop]
    rw [hL]
    simp [Instr.row, hgf, hgf2, hgx, hgx2, hf, hpc, Func.row, hop]
    refine callo rfl Try.call50 (rising_p [x.a] (few8 (by simp))) (flat_rows irow_flat) ⟨frz_rows (by simp [irow, vrows]), trivial⟩ ?_
    simp
    exact ⟨_, frz_tr (cs' := [.sl 1 ((rise8 [x.a]).map irow), .i .i64 0]) ⟨frz_rows rfl, .v _, trivial⟩, by simp [regV]⟩
  · -- 42
    have hL : setsL F x = [] := by unfold setsL; simp [hop]
    rw [hL]
    simp [Instr.row, hgf, hgf2, hgx, hgx2, hf, hpc, Func.row, hop]
    exact ⟨_, .v _, by simp [regV, rise8_nil]⟩
  · -- 43
    have hL : setsL F x = [] := by unfold setsL; simp [hop]
    rw [hL]
    simp [Instr.row, hgf, hgf2, hgx, hgx2, hf, hpc, Func.row, hop]
    exact ⟨_, .v _, by simp [regV, rise8_nil]⟩
  · -- 44
    have hL : setsL F x = [] := by unfold setsL; simp [hop]
    rw [hL]
    simp [Instr.row, hgf, hgf2, hgx, hgx2, hf, hpc, Func.row, hop]
    exact ⟨_, .v _, by simp [regV, rise8_nil]⟩
  · -- 45
    have hL : setsL F x = [] := by unfold setsL; simp [hop]
    rw [hL]
    simp [Instr.row, hgf, hgf2, hgx, hgx2, hf, hpc, Func.row, hop]
    exact ⟨_, .v _, by simp [regV, rise8_nil]⟩
  · -- 50
    have hL : setsL F x = [x.a] := by unfold setsL; simp [hop]
    rw [hL]
    simp [Instr.row, hgf, hgf2, hgx, hgx2, hf, hpc, Func.row, hop]
    refine callo rfl Try.call50 (rising_p [x.a] (few8 (by simp))) (flat_rows irow_flat) ⟨frz_rows (by simp [irow, vrows]), trivial⟩ ?_
    simp
    exact ⟨_, frz_tr (cs' := [.sl 1 ((rise8 [x.a]).map irow), .i .i64 0]) ⟨frz_rows rfl, .v _, trivial⟩, by simp [regV]⟩
  · -- 51
    have hL : setsL F x = [] := by unfold setsL; simp [hop]
    rw [hL]
    simp [Instr.row, hgf, hgf2, hgx, hgx2, hf, hpc, Func.row, hop]
    exact ⟨_, .v _, by simp [regV, rise8_nil]⟩
  · -- 52
    have hL : setsL F x = [x.a] := by unfold setsL; simp [hop]
    rw [hL]
    simp [Instr.row, hgf, hgf2, hgx, hgx2, hf, hpc, Func.row, hop]
    refine callo rfl Try.call50 (rising_p [x.a] (few8 (by simp))) (flat_rows irow_flat) ⟨frz_rows (by simp [irow, vrows]), trivial⟩ ?_
    simp
    exact ⟨_, frz_tr (cs' := [.sl 1 ((rise8 [x.a]).map irow), .i .i64 0]) ⟨frz_rows rfl, .v _, trivial⟩, by simp [regV]⟩
  · -- 53
    have hL : setsL F x = [x.a] := by unfold setsL; simp [hop]
    rw [hL]
    simp [Instr.row, hgf, hgf2, hgx, hgx2, hf, hpc, Func.row, hop]
    refine callo rfl Try.call50 (rising_p [x.a] (few8 (by simp))) (flat_rows irow_flat) ⟨frz_rows (by simp [irow, vrows]), trivial⟩ ?_
    simp
    exact ⟨_, frz_tr (cs' := [.sl 1 ((rise8 [x.a]).map irow), .i .i64 0]) ⟨frz_rows rfl, .v _, trivial⟩, by simp [regV]⟩
  · -- 54
    have hL : setsL F x = [] := by unfold setsL; simp [hop]
    rw [hL]
    simp [Instr.row, hgf, hgf2, hgx, hgx2, hf, hpc, Func.row, hop]
    exact ⟨_, .v _, by simp [regV, rise8_nil]⟩
  · -- 55
    have hL : setsL F x = [] := by unfold setsL; simp [hop]
    rw [hL]
    simp [Instr.row, hgf, hgf2, hgx, hgx2, hf, hpc, Func.row, hop]
    exact ⟨_, .v _, by simp [regV, rise8_nil]⟩
  · -- 56
    have hL : setsL F x = [] := by unfold setsL; simp [hop]
    rw [hL]
    simp [Instr.row, hgf, hgf2, hgx, hgx2, hf, hpc, Func.row, hop]
    exact ⟨_, .v _, by simp [regV, rise8_nil]⟩
  · -- 57
    have hL : setsL F x = [x.a] := by unfold setsL; simp [hop]
    rw [hL]
    simp [Instr.row, hgf, hgf2, hgx, hgx2, hf, hpc, Func.row, hop]
    refine callo rfl Try.call50 (rising_p [x.a] (few8 (by simp))) (flat_rows irow_flat) ⟨frz_rows (by simp [irow, vrows]), trivial⟩ ?_
    simp
    exact ⟨_, frz_tr (cs' := [.sl 1 ((rise8 [x.a]).map irow), .i .i64 0]) ⟨frz_rows rfl, .v _, trivial⟩, by simp [regV]⟩
  · -- 58
    have hL : setsL F x = [] := by unfold setsL; simp [hop]
    rw [hL]
    simp [Instr.row, hgf, hgf2, hgx, hgx2, hf, hpc, Func.row, hop]
    exact ⟨_, .v _, by simp [regV, rise8_nil]⟩
  · -- 59
    have hL : setsL F x = [x.a, x.c] := by unfold setsL; simp [hop]
    rw [hL]
    simp [Instr.row, hgf, hgf2, hgx, hgx2, hf, hpc, Func.row, hop]
    refine callo rfl Try.call50 (rising_p [x.a, x.c] (few8 (by simp))) (flat_rows irow_flat) ⟨frz_rows (by simp [irow, vrows]), trivial⟩ ?_
    simp
    exact ⟨_, frz_tr (cs' := [.sl 1 ((rise8 [x.a, x.c]).map irow), .i .i64 0]) ⟨frz_rows rfl, .v _, trivial⟩, by simp [regV]⟩
  · -- 60
    have hL : setsL F x = [] := by unfold setsL; simp [hop]
    rw [hL]
    simp [Instr.row, hgf, hgf2, hgx, hgx2, hf, hpc, Func.row, hop]
    exact ⟨_, .v _, by simp [regV, rise8_nil]⟩
  · -- 62
    have hL : setsL F x = [x.a] := by unfold setsL; simp [hop]
    rw [hL]
    simp [Instr.row, hgf, hgf2, hgx, hgx2, hf, hpc, Func.row, hop]
    refine callo rfl Try.call50 (rising_p [x.a] (few8 (by simp))) (flat_rows irow_flat) ⟨frz_rows (by simp [irow, vrows]), trivial⟩ ?_
    simp
    exact ⟨_, frz_tr (cs' := [.sl 1 ((rise8 [x.a]).map irow), .i .i64 0]) ⟨frz_rows rfl, .v _, trivial⟩, by simp [regV]⟩
  · -- 63
    have hL : setsL F x = [] := by unfold setsL; simp [hop]
    rw [hL]
    simp [Instr.row, hgf, hgf2, hgx, hgx2, hf, hpc, Func.row, hop]
    exact ⟨_, .v _, by simp [regV, rise8_nil]⟩
  · -- 64
    have hL : setsL F x = [] := by unfold setsL; simp [hop]
    rw [hL]
    simp [Instr.row, hgf, hgf2, hgx, hgx2, hf, hpc, Func.row, hop]
    exact ⟨_, .v _, by simp [regV, rise8_nil]⟩
  · -- 65
    have hL : setsL F x = [] := by unfold setsL; simp [hop]
    rw [hL]
    simp [Instr.row, hgf, hgf2, hgx, hgx2, hf, hpc, Func.row, hop]
    exact ⟨_, .v _, by simp [regV, rise8_nil]⟩
  · -- 61
    obtain ⟨a0, a1, a4⟩ := hsel hop
    have hgs : F.selects[x.a.toNat]? = some (F.selects.getD x.a.toNat default) := by
      rw [List.getD_eq_getElem?_getD, List.getElem?_eq_getElem (by omega)]; rfl
    have hL : setsL F x = ((F.selects.getD x.a.toNat default).cases.filter (fun c => !c.send)).map (·.reg) := by unfold setsL; simp [hop]
    rw [hL]
    generalize F.selects.getD x.a.toNat default = S at *
    have hgs2 : ∀ hh, F.selects[x.a.toNat]'hh = S := fun hh => by
      have := List.getElem?_eq_getElem hh; rw [hgs] at this; exact (Option.some.inj this).symm
    simp [Instr.row, hgf, hgf2, hgx, hgx2, hf, hpc, Func.row, hop, hgs, hgs2, Select.row, a0, a1]
    refine go_each hmx 3 83 S.cases (fun (b : Nat × List Int) => [(11, .os 2 b.1)]) (fun b => [.var (p.row.map .v), .var (x.row.map .v), .arr b.1 1 (vrows (b.2.map irow))]) (fun _ b rest => b.2 ++ (rest.filter (fun c => !c.send)).map (·.reg) = (S.cases.filter (fun c => !c.send)).map (·.reg)) (0, []) (by omega) rfl rfl (by simp [Prog.row, Instr.row, hop, vrows]) (by simp) (by simp [RV.dom]) (by simp [Prog.row, Instr.row]) rfl ?_ ?_
    · rintro i c rest ⟨v, acc⟩ hi hx hr hj hw
      simp only at hj
      have hac : acc.length ≤ 4 := by
        have h1 := congrArg List.length hj
        have h2 := List.length_filter_le (fun c => !c.send) S.cases
        simp only [List.length_append, List.length_map] at h1; omega
      simp [hi, hx, Case.row, hw]
      refine ⟨fun hc => ⟨by omega, acc ++ [c.reg], push_item _ _, ?_⟩, fun hc => ⟨acc, rfl, ?_⟩⟩ <;> rw [← hj] <;> simp [hc]
    · rintro ⟨v, acc⟩ hj
      simp only [List.filter_nil, List.map_nil, List.append_nil] at hj
      have hac : acc.length ≤ 4 := by
        have h1 := congrArg List.length hj
        have h2 := List.length_filter_le (fun c => !c.send) S.cases
        simp only [List.length_map] at h1; omega
      simp [Prog.row, Instr.row]
      refine callo rfl Try.call50 (rising_p acc (few8 (by omega))) (flat_rows irow_flat) ⟨frz_rows rfl, trivial⟩ ?_
      simp
      exact ⟨_, frz_tr (cs' := [.sl 1 ((rise8 acc).map irow), .i .i64 0]) ⟨frz_rows rfl, .v _, trivial⟩, by simp [regV, hj]⟩
end Go.Sc.So
