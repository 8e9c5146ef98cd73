/- Chapter 03: what operations are: both texts say the same. No condition. -/
import Derived.Test.YtinpjecafkdikaaXT3h
set_option linter.constructorNameAsVariable false
namespace Go.Sc.Q03
open Go Go.RowKit Go.Av Go.Proofs
set_option linter.unusedSimpArgs false
set_option linter.unusedVariables false
/-- scarab/prog.Form -/
def c75 : ACode :=
  (.seq (.reg none [⟨some 2, none, .q (.mv (.c (.s [])))⟩])
  (.keep [0]
  (.seq (.blk 0 (.seq (.reg none [⟨some 4, none, .q (.mv (.t 0))⟩, ⟨some 5, none, .q (.bin .geq (.t 4) (.c (.i .i64 1)))⟩, ⟨some 6, none, .q (.mv (.t 5))⟩, ⟨some 7, some (6, true), .q (.mv (.t 0))⟩, ⟨some 8, some (6, true), .q (.bin .leq (.t 7) (.c (.i .i64 15)))⟩, ⟨some 9, none, .pk (.t 6) (.t 8) (.c (.b false))⟩, ⟨some 3, none, .q (.mv (.t 9))⟩])
    (.keep [0, 3]
    (.cond (.t 3) (.seq (.reg none [⟨some 2, none, .q (.mv (.c (.s [114, 114, 45, 45])))⟩])
      .ret)
    (.seq (.reg none [⟨some 11, none, .q (.mv (.t 0))⟩, ⟨some 12, none, .q (.bin .gtr (.t 11) (.c (.i .i64 15)))⟩, ⟨some 13, none, .q (.mv (.t 12))⟩, ⟨some 14, some (13, true), .q (.mv (.t 0))⟩, ⟨some 15, some (13, true), .q (.bin .leq (.t 14) (.c (.i .i64 36)))⟩, ⟨some 16, none, .pk (.t 13) (.t 15) (.c (.b false))⟩, ⟨some 10, none, .q (.mv (.t 16))⟩])
      (.keep [0, 10]
      (.cond (.t 10) (.seq (.reg none [⟨some 2, none, .q (.mv (.c (.s [114, 114, 114, 45])))⟩])
        .ret)
      .skip)))))))
  (.keep [0]
  (.seq (.seq (.reg none [⟨some 17, none, .q (.mv (.t 0))⟩])
    (.keep [17]
    (.blk 1 (.seq (.seq (.reg none [⟨some 19, none, .q (.bin .eql (.t 17) (.c (.i .i64 40)))⟩, ⟨some 18, none, .q (.mv (.t 19))⟩])
      (.keep [17, 18]
      (.cond (.t 18) .skip
      (.seq (.reg none [⟨some 20, none, .q (.bin .eql (.t 17) (.c (.i .i64 44)))⟩, ⟨some 18, none, .q (.mv (.t 20))⟩])
        (.keep [17, 18]
        (.cond (.t 18) .skip
        (.reg none [⟨some 21, none, .q (.bin .eql (.t 17) (.c (.i .i64 65)))⟩, ⟨some 18, none, .q (.mv (.t 21))⟩])))))))
    (.cond (.t 18) (.seq (.reg none [⟨some 2, none, .q (.mv (.c (.s [114, 45, 45, 110])))⟩])
      .ret)
    (.seq (.reg none [⟨some 23, none, .q (.bin .eql (.t 17) (.c (.i .i64 41)))⟩, ⟨some 22, none, .q (.mv (.t 23))⟩])
      (.keep [17, 22]
      (.cond (.t 22) (.seq (.reg none [⟨some 2, none, .q (.mv (.c (.s [114, 114, 45, 45])))⟩])
        .ret)
      (.seq (.reg none [⟨some 25, none, .q (.bin .eql (.t 17) (.c (.i .i64 42)))⟩, ⟨some 24, none, .q (.mv (.t 25))⟩])
        (.keep [17, 24]
        (.cond (.t 24) (.seq (.reg none [⟨some 2, none, .q (.mv (.c (.s [116, 45, 45, 45])))⟩])
          .ret)
        (.seq (.reg none [⟨some 27, none, .q (.bin .eql (.t 17) (.c (.i .i64 43)))⟩, ⟨some 26, none, .q (.mv (.t 27))⟩])
          (.keep [17, 26]
          (.cond (.t 26) (.seq (.reg none [⟨some 2, none, .q (.mv (.c (.s [114, 116, 45, 45])))⟩])
            .ret)
          (.seq (.seq (.reg none [⟨some 29, none, .q (.bin .eql (.t 17) (.c (.i .i64 45)))⟩, ⟨some 28, none, .q (.mv (.t 29))⟩])
              (.keep [17, 28]
              (.cond (.t 28) .skip
              (.reg none [⟨some 30, none, .q (.bin .eql (.t 17) (.c (.i .i64 64)))⟩, ⟨some 28, none, .q (.mv (.t 30))⟩]))))
            (.cond (.t 28) (.seq (.reg none [⟨some 2, none, .q (.mv (.c (.s [45, 45, 45, 45])))⟩])
              .ret)
            (.seq (.reg none [⟨some 32, none, .q (.bin .eql (.t 17) (.c (.i .i64 50)))⟩, ⟨some 31, none, .q (.mv (.t 32))⟩])
              (.keep [17, 31]
              (.cond (.t 31) (.seq (.reg none [⟨some 2, none, .q (.mv (.c (.s [114, 118, 45, 45])))⟩])
                .ret)
              (.seq (.reg none [⟨some 34, none, .q (.bin .eql (.t 17) (.c (.i .i64 51)))⟩, ⟨some 33, none, .q (.mv (.t 34))⟩])
                (.keep [17, 33]
                (.cond (.t 33) (.seq (.reg none [⟨some 2, none, .q (.mv (.c (.s [118, 114, 45, 45])))⟩])
                  .ret)
                (.seq (.reg none [⟨some 36, none, .q (.bin .eql (.t 17) (.c (.i .i64 52)))⟩, ⟨some 35, none, .q (.mv (.t 36))⟩])
                  (.keep [17, 35]
                  (.cond (.t 35) (.seq (.reg none [⟨some 2, none, .q (.mv (.c (.s [111, 97, 114, 45])))⟩])
                    .ret)
                  (.seq (.reg none [⟨some 38, none, .q (.bin .eql (.t 17) (.c (.i .i64 53)))⟩, ⟨some 37, none, .q (.mv (.t 38))⟩])
                    (.keep [17, 37]
                    (.cond (.t 37) (.seq (.reg none [⟨some 2, none, .q (.mv (.c (.s [114, 97, 114, 119])))⟩])
                      .ret)
                    (.seq (.reg none [⟨some 40, none, .q (.bin .eql (.t 17) (.c (.i .i64 54)))⟩, ⟨some 39, none, .q (.mv (.t 40))⟩])
                      (.keep [17, 39]
                      (.cond (.t 39) (.seq (.reg none [⟨some 2, none, .q (.mv (.c (.s [97, 114, 45, 45])))⟩])
                        .ret)
                      (.seq (.seq (.reg none [⟨some 42, none, .q (.bin .eql (.t 17) (.c (.i .i64 55)))⟩, ⟨some 41, none, .q (.mv (.t 42))⟩])
                          (.keep [17, 41]
                          (.cond (.t 41) .skip
                          (.reg none [⟨some 43, none, .q (.bin .eql (.t 17) (.c (.i .i64 56)))⟩, ⟨some 41, none, .q (.mv (.t 43))⟩]))))
                        (.cond (.t 41) (.seq (.reg none [⟨some 2, none, .q (.mv (.c (.s [108, 45, 45, 45])))⟩])
                          .ret)
                        (.seq (.reg none [⟨some 45, none, .q (.bin .eql (.t 17) (.c (.i .i64 57)))⟩, ⟨some 44, none, .q (.mv (.t 45))⟩])
                          (.keep [17, 44]
                          (.cond (.t 44) (.seq (.reg none [⟨some 2, none, .q (.mv (.c (.s [114, 108, 45, 45])))⟩])
                            .ret)
                          (.seq (.reg none [⟨some 47, none, .q (.bin .eql (.t 17) (.c (.i .i64 58)))⟩, ⟨some 46, none, .q (.mv (.t 47))⟩])
                            (.keep [17, 46]
                            (.cond (.t 46) (.seq (.reg none [⟨some 2, none, .q (.mv (.c (.s [99, 114, 45, 45])))⟩])
                              .ret)
                            (.seq (.reg none [⟨some 49, none, .q (.bin .eql (.t 17) (.c (.i .i64 59)))⟩, ⟨some 48, none, .q (.mv (.t 49))⟩])
                              (.keep [17, 48]
                              (.cond (.t 48) (.seq (.reg none [⟨some 2, none, .q (.mv (.c (.s [111, 99, 111, 45])))⟩])
                                .ret)
                              (.seq (.reg none [⟨some 51, none, .q (.bin .eql (.t 17) (.c (.i .i64 60)))⟩, ⟨some 50, none, .q (.mv (.t 51))⟩])
                                (.keep [17, 50]
                                (.cond (.t 50) (.seq (.reg none [⟨some 2, none, .q (.mv (.c (.s [99, 45, 45, 45])))⟩])
                                  .ret)
                                (.seq (.reg none [⟨some 53, none, .q (.bin .eql (.t 17) (.c (.i .i64 61)))⟩, ⟨some 52, none, .q (.mv (.t 53))⟩])
                                  (.keep [17, 52]
                                  (.cond (.t 52) (.seq (.reg none [⟨some 2, none, .q (.mv (.c (.s [115, 45, 45, 45])))⟩])
                                    .ret)
                                  (.seq (.reg none [⟨some 55, none, .q (.bin .eql (.t 17) (.c (.i .i64 62)))⟩, ⟨some 54, none, .q (.mv (.t 55))⟩])
                                    (.keep [17, 54]
                                    (.cond (.t 54) (.seq (.reg none [⟨some 2, none, .q (.mv (.c (.s [111, 102, 112, 45])))⟩])
                                      .ret)
                                    (.seq (.reg none [⟨some 57, none, .q (.bin .eql (.t 17) (.c (.i .i64 63)))⟩, ⟨some 56, none, .q (.mv (.t 57))⟩])
                                      (.keep [56]
                                      (.cond (.t 56) (.seq (.reg none [⟨some 2, none, .q (.mv (.c (.s [114, 45, 45, 45])))⟩])
                                        .ret)
                                      .skip))))))))))))))))))))))))))))))))))))))))))))))))))))))
  (.seq (.reg none [⟨some 2, none, .q (.mv (.c (.s [])))⟩])
  .ret))))))
theorem r75 : (Try.f75.body.bind (resC Try.prog Try.f75.ntmps)) = some (strip c75) := by kernel_rfl
theorem s75 : Try.f75.results.toList.mapM (resRes Try.prog) = some [.t 2] := by kernel_rfl
/-- scarab/scarabref03.Form -/
def c70 : ACode :=
  (.seq (.reg none [⟨some 2, none, .q (.mv (.c (.s [])))⟩])
  (.keep [0]
  (.seq (.seq (.reg none [⟨some 3, none, .q (.mv (.t 0))⟩, ⟨some 4, none, .q (.bin .geq (.t 3) (.c (.i .i64 1)))⟩, ⟨some 5, none, .q (.mv (.t 4))⟩, ⟨some 6, some (5, true), .q (.mv (.t 0))⟩, ⟨some 7, some (5, true), .q (.bin .leq (.t 6) (.c (.i .i64 15)))⟩, ⟨some 8, none, .pk (.t 5) (.t 7) (.c (.b false))⟩])
    (.keep [0, 8]
    (.cond (.t 8) (.seq (.reg none [⟨some 2, none, .q (.mv (.c (.s [114, 114, 45, 45])))⟩])
      .ret)
    .skip)))
  (.seq (.seq (.reg none [⟨some 9, none, .q (.mv (.t 0))⟩, ⟨some 10, none, .q (.bin .geq (.t 9) (.c (.i .i64 16)))⟩, ⟨some 11, none, .q (.mv (.t 10))⟩, ⟨some 12, some (11, true), .q (.mv (.t 0))⟩, ⟨some 13, some (11, true), .q (.bin .leq (.t 12) (.c (.i .i64 36)))⟩, ⟨some 14, none, .pk (.t 11) (.t 13) (.c (.b false))⟩])
    (.keep [0, 14]
    (.cond (.t 14) (.seq (.reg none [⟨some 2, none, .q (.mv (.c (.s [114, 114, 114, 45])))⟩])
      .ret)
    .skip)))
  (.seq (.seq (.reg none [⟨some 15, none, .q (.mv (.t 0))⟩])
    (.keep [15]
    (.blk 0 (.seq (.reg none [⟨some 17, none, .q (.bin .eql (.t 15) (.c (.i .i64 40)))⟩, ⟨some 16, none, .q (.mv (.t 17))⟩])
    (.keep [15, 16]
    (.cond (.t 16) (.seq (.reg none [⟨some 2, none, .q (.mv (.c (.s [114, 45, 45, 110])))⟩])
      .ret)
    (.seq (.reg none [⟨some 19, none, .q (.bin .eql (.t 15) (.c (.i .i64 41)))⟩, ⟨some 18, none, .q (.mv (.t 19))⟩])
      (.keep [15, 18]
      (.cond (.t 18) (.seq (.reg none [⟨some 2, none, .q (.mv (.c (.s [114, 114, 45, 45])))⟩])
        .ret)
      (.seq (.reg none [⟨some 21, none, .q (.bin .eql (.t 15) (.c (.i .i64 42)))⟩, ⟨some 20, none, .q (.mv (.t 21))⟩])
        (.keep [15, 20]
        (.cond (.t 20) (.seq (.reg none [⟨some 2, none, .q (.mv (.c (.s [116, 45, 45, 45])))⟩])
          .ret)
        (.seq (.reg none [⟨some 23, none, .q (.bin .eql (.t 15) (.c (.i .i64 43)))⟩, ⟨some 22, none, .q (.mv (.t 23))⟩])
          (.keep [15, 22]
          (.cond (.t 22) (.seq (.reg none [⟨some 2, none, .q (.mv (.c (.s [114, 116, 45, 45])))⟩])
            .ret)
          (.seq (.reg none [⟨some 25, none, .q (.bin .eql (.t 15) (.c (.i .i64 44)))⟩, ⟨some 24, none, .q (.mv (.t 25))⟩])
            (.keep [15, 24]
            (.cond (.t 24) (.seq (.reg none [⟨some 2, none, .q (.mv (.c (.s [114, 45, 45, 110])))⟩])
              .ret)
            (.seq (.reg none [⟨some 27, none, .q (.bin .eql (.t 15) (.c (.i .i64 45)))⟩, ⟨some 26, none, .q (.mv (.t 27))⟩])
              (.keep [15, 26]
              (.cond (.t 26) (.seq (.reg none [⟨some 2, none, .q (.mv (.c (.s [45, 45, 45, 45])))⟩])
                .ret)
              (.seq (.reg none [⟨some 29, none, .q (.bin .eql (.t 15) (.c (.i .i64 50)))⟩, ⟨some 28, none, .q (.mv (.t 29))⟩])
                (.keep [15, 28]
                (.cond (.t 28) (.seq (.reg none [⟨some 2, none, .q (.mv (.c (.s [114, 118, 45, 45])))⟩])
                  .ret)
                (.seq (.reg none [⟨some 31, none, .q (.bin .eql (.t 15) (.c (.i .i64 51)))⟩, ⟨some 30, none, .q (.mv (.t 31))⟩])
                  (.keep [15, 30]
                  (.cond (.t 30) (.seq (.reg none [⟨some 2, none, .q (.mv (.c (.s [118, 114, 45, 45])))⟩])
                    .ret)
                  (.seq (.reg none [⟨some 33, none, .q (.bin .eql (.t 15) (.c (.i .i64 52)))⟩, ⟨some 32, none, .q (.mv (.t 33))⟩])
                    (.keep [15, 32]
                    (.cond (.t 32) (.seq (.reg none [⟨some 2, none, .q (.mv (.c (.s [111, 97, 114, 45])))⟩])
                      .ret)
                    (.seq (.reg none [⟨some 35, none, .q (.bin .eql (.t 15) (.c (.i .i64 53)))⟩, ⟨some 34, none, .q (.mv (.t 35))⟩])
                      (.keep [15, 34]
                      (.cond (.t 34) (.seq (.reg none [⟨some 2, none, .q (.mv (.c (.s [114, 97, 114, 119])))⟩])
                        .ret)
                      (.seq (.reg none [⟨some 37, none, .q (.bin .eql (.t 15) (.c (.i .i64 54)))⟩, ⟨some 36, none, .q (.mv (.t 37))⟩])
                        (.keep [15, 36]
                        (.cond (.t 36) (.seq (.reg none [⟨some 2, none, .q (.mv (.c (.s [97, 114, 45, 45])))⟩])
                          .ret)
                        (.seq (.seq (.reg none [⟨some 39, none, .q (.bin .eql (.t 15) (.c (.i .i64 55)))⟩, ⟨some 38, none, .q (.mv (.t 39))⟩])
                            (.keep [15, 38]
                            (.cond (.t 38) .skip
                            (.reg none [⟨some 40, none, .q (.bin .eql (.t 15) (.c (.i .i64 56)))⟩, ⟨some 38, none, .q (.mv (.t 40))⟩]))))
                          (.cond (.t 38) (.seq (.reg none [⟨some 2, none, .q (.mv (.c (.s [108, 45, 45, 45])))⟩])
                            .ret)
                          (.seq (.reg none [⟨some 42, none, .q (.bin .eql (.t 15) (.c (.i .i64 57)))⟩, ⟨some 41, none, .q (.mv (.t 42))⟩])
                            (.keep [15, 41]
                            (.cond (.t 41) (.seq (.reg none [⟨some 2, none, .q (.mv (.c (.s [114, 108, 45, 45])))⟩])
                              .ret)
                            (.seq (.reg none [⟨some 44, none, .q (.bin .eql (.t 15) (.c (.i .i64 58)))⟩, ⟨some 43, none, .q (.mv (.t 44))⟩])
                              (.keep [15, 43]
                              (.cond (.t 43) (.seq (.reg none [⟨some 2, none, .q (.mv (.c (.s [99, 114, 45, 45])))⟩])
                                .ret)
                              (.seq (.reg none [⟨some 46, none, .q (.bin .eql (.t 15) (.c (.i .i64 59)))⟩, ⟨some 45, none, .q (.mv (.t 46))⟩])
                                (.keep [15, 45]
                                (.cond (.t 45) (.seq (.reg none [⟨some 2, none, .q (.mv (.c (.s [111, 99, 111, 45])))⟩])
                                  .ret)
                                (.seq (.reg none [⟨some 48, none, .q (.bin .eql (.t 15) (.c (.i .i64 60)))⟩, ⟨some 47, none, .q (.mv (.t 48))⟩])
                                  (.keep [15, 47]
                                  (.cond (.t 47) (.seq (.reg none [⟨some 2, none, .q (.mv (.c (.s [99, 45, 45, 45])))⟩])
                                    .ret)
                                  (.seq (.reg none [⟨some 50, none, .q (.bin .eql (.t 15) (.c (.i .i64 61)))⟩, ⟨some 49, none, .q (.mv (.t 50))⟩])
                                    (.keep [15, 49]
                                    (.cond (.t 49) (.seq (.reg none [⟨some 2, none, .q (.mv (.c (.s [115, 45, 45, 45])))⟩])
                                      .ret)
                                    (.seq (.reg none [⟨some 52, none, .q (.bin .eql (.t 15) (.c (.i .i64 62)))⟩, ⟨some 51, none, .q (.mv (.t 52))⟩])
                                      (.keep [15, 51]
                                      (.cond (.t 51) (.seq (.reg none [⟨some 2, none, .q (.mv (.c (.s [111, 102, 112, 45])))⟩])
                                        .ret)
                                      (.seq (.reg none [⟨some 54, none, .q (.bin .eql (.t 15) (.c (.i .i64 63)))⟩, ⟨some 53, none, .q (.mv (.t 54))⟩])
                                        (.keep [15, 53]
                                        (.cond (.t 53) (.seq (.reg none [⟨some 2, none, .q (.mv (.c (.s [114, 45, 45, 45])))⟩])
                                          .ret)
                                        (.seq (.reg none [⟨some 56, none, .q (.bin .eql (.t 15) (.c (.i .i64 64)))⟩, ⟨some 55, none, .q (.mv (.t 56))⟩])
                                          (.keep [15, 55]
                                          (.cond (.t 55) (.seq (.reg none [⟨some 2, none, .q (.mv (.c (.s [45, 45, 45, 45])))⟩])
                                            .ret)
                                          (.seq (.reg none [⟨some 58, none, .q (.bin .eql (.t 15) (.c (.i .i64 65)))⟩, ⟨some 57, none, .q (.mv (.t 58))⟩])
                                            (.keep [57]
                                            (.cond (.t 57) (.seq (.reg none [⟨some 2, none, .q (.mv (.c (.s [114, 45, 45, 110])))⟩])
                                              .ret)
                                            .skip)))))))))))))))))))))))))))))))))))))))))))))))))))))))))))))))))
  (.seq (.reg none [⟨some 2, none, .q (.mv (.c (.s [])))⟩])
  .ret))))))
theorem r70 : (Try.f70.body.bind (resC Try.prog Try.f70.ntmps)) = some (strip c70) := by kernel_rfl
theorem s70 : Try.f70.results.toList.mapM (resRes Try.prog) = some [.t 2] := by kernel_rfl
/-- scarab/prog.Local -/
def c41 : ACode :=
  (.seq (.reg none [⟨some 2, none, .q (.mv (.c (.b false)))⟩])
  (.keep [0]
  (.seq (.reg none [⟨some 3, none, .q (.mv (.t 0))⟩, ⟨some 4, none, .q (.bin .geq (.t 3) (.c (.i .i64 1)))⟩, ⟨some 5, none, .q (.mv (.t 4))⟩, ⟨some 6, some (5, true), .q (.mv (.t 0))⟩, ⟨some 7, some (5, true), .q (.bin .leq (.t 6) (.c (.i .i64 36)))⟩, ⟨some 8, none, .pk (.t 5) (.t 7) (.c (.b false))⟩, ⟨some 9, none, .q (.mv (.t 8))⟩, ⟨some 10, some (9, false), .q (.mv (.t 0))⟩, ⟨some 11, some (9, false), .q (.bin .geq (.t 10) (.c (.i .i64 40)))⟩, ⟨some 12, some (9, false), .q (.mv (.t 11))⟩, ⟨some 13, some (12, true), .q (.mv (.t 0))⟩, ⟨some 14, some (12, true), .q (.bin .leq (.t 13) (.c (.i .i64 45)))⟩, ⟨some 15, some (9, false), .pk (.t 12) (.t 14) (.c (.b false))⟩, ⟨some 16, none, .pk (.t 9) (.c (.b true)) (.t 15)⟩, ⟨some 2, none, .q (.mv (.t 16))⟩])
  .ret)))
theorem r41 : (Try.f41.body.bind (resC Try.prog Try.f41.ntmps)) = some (strip c41) := by kernel_rfl
theorem s41 : Try.f41.results.toList.mapM (resRes Try.prog) = some [.t 2] := by kernel_rfl
/-- scarab/scarabref03.Local -/
def c48 : ACode :=
  (.seq (.reg none [⟨some 2, none, .q (.mv (.c (.b false)))⟩])
  (.keep [0]
  (.seq (.reg none [⟨some 3, none, .q (.mv (.t 0))⟩, ⟨some 4, none, .q (.bin .geq (.t 3) (.c (.i .i64 1)))⟩, ⟨some 5, none, .q (.mv (.t 4))⟩, ⟨some 6, some (5, true), .q (.mv (.t 0))⟩, ⟨some 7, some (5, true), .q (.bin .leq (.t 6) (.c (.i .i64 36)))⟩, ⟨some 8, none, .pk (.t 5) (.t 7) (.c (.b false))⟩, ⟨some 9, none, .q (.mv (.t 8))⟩, ⟨some 10, some (9, false), .q (.mv (.t 0))⟩, ⟨some 11, some (9, false), .q (.bin .geq (.t 10) (.c (.i .i64 40)))⟩, ⟨some 12, some (9, false), .q (.mv (.t 11))⟩, ⟨some 13, some (12, true), .q (.mv (.t 0))⟩, ⟨some 14, some (12, true), .q (.bin .leq (.t 13) (.c (.i .i64 45)))⟩, ⟨some 15, some (9, false), .pk (.t 12) (.t 14) (.c (.b false))⟩, ⟨some 16, none, .pk (.t 9) (.c (.b true)) (.t 15)⟩, ⟨some 2, none, .q (.mv (.t 16))⟩])
  .ret)))
theorem r48 : (Try.f48.body.bind (resC Try.prog Try.f48.ntmps)) = some (strip c48) := by kernel_rfl
theorem s48 : Try.f48.results.toList.mapM (resRes Try.prog) = some [.t 2] := by kernel_rfl
/-- scarab/scarabref03.Visible -/
def c69 : ACode :=
  (.seq (.reg none [⟨some 2, none, .q (.mv (.c (.b false)))⟩])
  (.keep [0]
  (.seq (.reg none [⟨some 3, none, .q (.mv (.t 0))⟩, ⟨some 4, none, .q (.bin .geq (.t 3) (.c (.i .i64 50)))⟩, ⟨some 5, none, .q (.mv (.t 4))⟩, ⟨some 6, some (5, true), .q (.mv (.t 0))⟩, ⟨some 7, some (5, true), .q (.bin .leq (.t 6) (.c (.i .i64 65)))⟩, ⟨some 8, none, .pk (.t 5) (.t 7) (.c (.b false))⟩, ⟨some 2, none, .q (.mv (.t 8))⟩])
  .ret)))
theorem r69 : (Try.f69.body.bind (resC Try.prog Try.f69.ntmps)) = some (strip c69) := by kernel_rfl
theorem s69 : Try.f69.results.toList.mapM (resRes Try.prog) = some [.t 2] := by kernel_rfl
/-- scarab/prog.operands -/
def c76 : ACode :=
  (.seq (.reg none [⟨some 1, none, .m (.box (.t 0))⟩, ⟨some 2, none, .m (.alloc (.g [(.i .i64 0), (.i .i64 0), (.i .i64 0), (.i .i64 0)]))⟩])
  (.keep [1, 2]
  (.seq (.reg none [⟨some 3, none, .q (.fa 1 (.t 1))⟩, ⟨some 4, none, .q (.ld none (.t 3))⟩, ⟨some 5, none, .q (.fa 2 (.t 1))⟩, ⟨some 6, none, .q (.ld none (.t 5))⟩, ⟨some 7, none, .q (.fa 3 (.t 1))⟩, ⟨some 8, none, .q (.ld none (.t 7))⟩, ⟨some 9, none, .q (.fa 4 (.t 1))⟩, ⟨some 10, none, .q (.ld none (.t 9))⟩, ⟨some 11, none, .q (.bld [(.i .i64 0), (.i .i64 0), (.i .i64 0), (.i .i64 0)] [(0, 1, .t 4), (1, 1, .t 6), (2, 1, .t 8), (3, 1, .t 10)])⟩, ⟨none, none, .m (.st 4 (.t 2) (.t 11))⟩])
  .ret)))
theorem r76 : (Try.f76.body.bind (resC Try.prog Try.f76.ntmps)) = some (strip c76) := by kernel_rfl
theorem s76 : Try.f76.results.toList.mapM (resRes Try.prog) = some [.c 2 (some 4)] := by kernel_rfl

theorem local17 (op : Int) : PureS Try.prog 41 [.i .i64 op] (.b (isLocal op)) := by
  refine fun_go hmx Try.func41 r41 s41 (by rw [Try.ntmps41]; simp) ?_
  unfold c41
  by_cases h1 : 1 ≤ op <;> by_cases h2 : op ≤ 36 <;> by_cases h3 : 40 ≤ op <;> by_cases h4 : op ≤ 45 <;> simp [isLocal, h1, h2, h3, h4]
  all_goals first | omega | skip

theorem local18 (op : Int) : PureS Try.prog 48 [.i .i64 op] (.b (isLocal op)) := by
  refine fun_go hmx Try.func48 r48 s48 (by rw [Try.ntmps48]; simp) ?_
  unfold c48
  by_cases h1 : 1 ≤ op <;> by_cases h2 : op ≤ 36 <;> by_cases h3 : 40 ≤ op <;> by_cases h4 : op ≤ 45 <;> simp [isLocal, h1, h2, h3, h4]
  all_goals first | omega | skip

theorem visible20 (op : Int) : PureS Try.prog 69 [.i .i64 op] (.b (isVisible op)) := by
  refine fun_go hmx Try.func69 r69 s69 (by rw [Try.ntmps69]; simp) ?_
  unfold c69
  by_cases h1 : 50 ≤ op <;> by_cases h2 : op ≤ 65 <;> simp [isVisible, h1, h2]
  all_goals first | omega | skip

set_option maxRecDepth 30000 in
theorem form15 (op : Int) : PureS Try.prog 75 [.i .i64 op] (.s (form op)) := by
  refine fun_go hmx Try.func75 r75 s75 (by rw [Try.ntmps75]; simp) ?_
  unfold c75
  by_cases hA : 1 ≤ op ∧ op ≤ 15
  · simp [form, hA]
  by_cases hB : 16 ≤ op ∧ op ≤ 36
  · have h1 : 15 < op := by omega
    have h2 : ¬ (op ≤ 15) := by omega
    simp [form, hA, hB, h1, h2]
  by_cases e40 : op = 40
  · subst e40; simp [form]
  by_cases e41 : op = 41
  · subst e41; simp [form]
  by_cases e42 : op = 42
  · subst e42; simp [form]
  by_cases e43 : op = 43
  · subst e43; simp [form]
  by_cases e44 : op = 44
  · subst e44; simp [form]
  by_cases e45 : op = 45
  · subst e45; simp [form]
  by_cases e50 : op = 50
  · subst e50; simp [form]
  by_cases e51 : op = 51
  · subst e51; simp [form]
  by_cases e52 : op = 52
  · subst e52; simp [form]
  by_cases e53 : op = 53
  · subst e53; simp [form]
  by_cases e54 : op = 54
  · subst e54; simp [form]
  by_cases e55 : op = 55
  · subst e55; simp [form]
  by_cases e56 : op = 56
  · subst e56; simp [form]
  by_cases e57 : op = 57
  · subst e57; simp [form]
  by_cases e58 : op = 58
  · subst e58; simp [form]
  by_cases e59 : op = 59
  · subst e59; simp [form]
  by_cases e60 : op = 60
  · subst e60; simp [form]
  by_cases e61 : op = 61
  · subst e61; simp [form]
  by_cases e62 : op = 62
  · subst e62; simp [form]
  by_cases e63 : op = 63
  · subst e63; simp [form]
  by_cases e64 : op = 64
  · subst e64; simp [form]
  by_cases e65 : op = 65
  · subst e65; simp [form]
  have hA' : 1 ≤ op → 15 < op := by omega
  have hB' : 15 < op → 36 < op := by omega
  have hB'' : 16 ≤ op → 36 < op := by omega
  have hC : ¬ (1 ≤ op) ∨ ¬ (op ≤ 15) := by omega
  simp [form, hA, hB, hA', hB', hB'', e40, e41, e42, e43, e44, e45, e50, e51, e52, e53, e54, e55, e56, e57, e58, e59, e60, e61, e62, e63, e64, e65]
  all_goals first | omega | skip

set_option maxRecDepth 30000 in
theorem form16 (op : Int) : PureS Try.prog 70 [.i .i64 op] (.s (form op)) := by
  refine fun_go hmx Try.func70 r70 s70 (by rw [Try.ntmps70]; simp) ?_
  unfold c70
  by_cases hA : 1 ≤ op ∧ op ≤ 15
  · simp [form, hA]
  by_cases hB : 16 ≤ op ∧ op ≤ 36
  · have h1 : 15 < op := by omega
    have h2 : ¬ (op ≤ 15) := by omega
    simp [form, hA, hB, h1, h2]
  by_cases e40 : op = 40
  · subst e40; simp [form]
  by_cases e41 : op = 41
  · subst e41; simp [form]
  by_cases e42 : op = 42
  · subst e42; simp [form]
  by_cases e43 : op = 43
  · subst e43; simp [form]
  by_cases e44 : op = 44
  · subst e44; simp [form]
  by_cases e45 : op = 45
  · subst e45; simp [form]
  by_cases e50 : op = 50
  · subst e50; simp [form]
  by_cases e51 : op = 51
  · subst e51; simp [form]
  by_cases e52 : op = 52
  · subst e52; simp [form]
  by_cases e53 : op = 53
  · subst e53; simp [form]
  by_cases e54 : op = 54
  · subst e54; simp [form]
  by_cases e55 : op = 55
  · subst e55; simp [form]
  by_cases e56 : op = 56
  · subst e56; simp [form]
  by_cases e57 : op = 57
  · subst e57; simp [form]
  by_cases e58 : op = 58
  · subst e58; simp [form]
  by_cases e59 : op = 59
  · subst e59; simp [form]
  by_cases e60 : op = 60
  · subst e60; simp [form]
  by_cases e61 : op = 61
  · subst e61; simp [form]
  by_cases e62 : op = 62
  · subst e62; simp [form]
  by_cases e63 : op = 63
  · subst e63; simp [form]
  by_cases e64 : op = 64
  · subst e64; simp [form]
  by_cases e65 : op = 65
  · subst e65; simp [form]
  have hA' : 1 ≤ op → 15 < op := by omega
  have hB' : 15 < op → 36 < op := by omega
  have hB'' : 16 ≤ op → 36 < op := by omega
  have hC : ¬ (1 ≤ op) ∨ ¬ (op ≤ 15) := by omega
  simp [form, hA, hB, hA', hB', hB'', e40, e41, e42, e43, e44, e45, e50, e51, e52, e53, e54, e55, e56, e57, e58, e59, e60, e61, e62, e63, e64, e65]
  all_goals first | omega | skip

theorem operands57 (i : Instr) : PureS Try.prog 76 [.g i.row] (.g [.i .i64 i.a, .i .i64 i.b, .i .i64 i.c, .i .i64 i.n]) := by
  refine fun_go hmx Try.func76 r76 s76 (by rw [Try.ntmps76]; simp) ?_
  unfold c76
  simp [Instr.row]
end Go.Sc.Q03
