/- Chapter 13: every Same and Key; keys are the same just of traces that are. No condition. -/
import Derived.Test.YtgipkikbefnokaaDoorXKeC
import Derived.Test.YtgipkikbefnokaaDoorXCb
import Derived.Test.YtgipkikbefnokaaDoorXAvF
set_option linter.constructorNameAsVariable false
namespace Go.Sc.Or
open Go Go.RowKit Go.Av Go.Proofs Go.Sc Go.Lib
set_option linter.unusedSimpArgs false
set_option linter.unusedVariables false
def c12 : ACode :=
  (.seq (.reg none [⟨some 4, none, .q (.mv (.c (.b false)))⟩, ⟨some 5, none, .q (.mv (.c (.i .i64 0)))⟩])
  (.keep [0, 1]
  (.seq (.reg none [⟨some 10, none, .q (.mv (.t 0))⟩, ⟨some 11, none, .call (.f 6) [(.t 10)]⟩, ⟨some 6, none, .q (.mv (.t 11))⟩])
  (.keep [0, 1, 6]
  (.seq (.seq (.reg none [⟨some 12, none, .q (.mv (.t 6))⟩, ⟨some 13, none, .q (.bin .eql (.t 12) (.c (.i .i64 0)))⟩])
    (.keep [0, 1, 6, 13]
    (.cond (.t 13) (.reg none [⟨some 14, none, .q (.mv (.t 1))⟩, ⟨some 15, none, .call (.f 6) [(.t 14)]⟩, ⟨some 6, none, .q (.mv (.t 15))⟩])
    .skip)))
  (.seq (.seq (.reg none [⟨some 16, none, .q (.mv (.t 6))⟩, ⟨some 17, none, .q (.bin .neq (.t 16) (.c (.i .i64 0)))⟩])
    (.keep [0, 1, 6, 17]
    (.cond (.t 17) (.seq (.reg none [⟨some 18, none, .q (.mv (.t 6))⟩, ⟨some 4, none, .q (.mv (.c (.b false)))⟩, ⟨some 5, none, .q (.mv (.t 18))⟩])
      .ret)
    .skip)))
  (.seq (.seq (.reg none [⟨some 19, none, .q (.mv (.t 0))⟩, ⟨some 20, none, .q (.len false (.t 19))⟩, ⟨some 21, none, .q (.mv (.t 1))⟩, ⟨some 22, none, .q (.len false (.t 21))⟩, ⟨some 23, none, .q (.bin .neq (.t 20) (.t 22))⟩])
    (.keep [0, 1, 23]
    (.cond (.t 23) (.seq (.reg none [⟨some 4, none, .q (.mv (.c (.b false)))⟩, ⟨some 5, none, .q (.mv (.c (.i .i64 0)))⟩])
      .ret)
    .skip)))
  (.seq (.reg none [⟨some 24, none, .q (.mv (.t 0))⟩, ⟨some 25, none, .q (.mv (.t 0))⟩, ⟨some 26, none, .call (.f 31) [(.t 25)]⟩, ⟨some 27, none, .call (.f 30) [(.t 24), (.t 26)]⟩, ⟨some 7, none, .q (.mv (.t 27))⟩])
  (.keep [1, 7]
  (.seq (.reg none [⟨some 28, none, .q (.mv (.t 1))⟩, ⟨some 29, none, .q (.mv (.t 1))⟩, ⟨some 30, none, .call (.f 31) [(.t 29)]⟩, ⟨some 31, none, .call (.f 30) [(.t 28), (.t 30)]⟩, ⟨some 8, none, .q (.mv (.t 31))⟩])
  (.keep [7, 8]
  (.seq (.seq (.reg none [⟨some 32, none, .q (.mv (.t 7))⟩, ⟨some 33, none, .q (.len false (.t 32))⟩, ⟨some 34, none, .q (.mv (.c (.i .i64 0)))⟩])
    (.keep [7, 8, 33, 34]
    (.blk 0 (.keep [7, 8, 33, 34]
    (.loop (.fin [7, 8, 33, 34]
      (.seq (.reg none [⟨some 35, none, .q (.bin .lss (.t 34) (.t 33))⟩])
      (.keep [7, 8, 33, 34, 35]
      (.seq (.cond (.t 35) .skip
        (.exit 0))
      (.seq (.blk 1 (.seq (.reg none [⟨some 36, none, .q (.mv (.t 34))⟩, ⟨some 9, none, .q (.mv (.t 36))⟩])
        (.keep [7, 8, 9, 33, 34]
        (.seq (.reg (some (9, [])) [⟨some 37, none, .q (.mv (.t 7))⟩, ⟨some 38, none, .q (.mv (.t 9))⟩, ⟨some 39, none, .q (.ias 26 (.t 37) (.t 38))⟩, ⟨some 40, none, .q (.ld (some 26) (.t 39))⟩, ⟨some 41, none, .q (.mv (.t 8))⟩, ⟨some 42, none, .q (.mv (.t 9))⟩, ⟨some 43, none, .q (.ias 26 (.t 41) (.t 42))⟩, ⟨some 44, none, .q (.ld (some 26) (.t 43))⟩, ⟨some 45, none, .q (.eqg true [.i, .i, .i, .i, .i, .i, .i, .i, .i, .b, .i, .i, .b, .i, .i, .b, .i, .i, .b, .i, .i, .b, .i, .i, .b, .i] (.t 40) (.t 44))⟩])
        (.keep [7, 8, 33, 34, 45]
        (.cond (.t 45) (.seq (.reg none [⟨some 4, none, .q (.mv (.c (.b false)))⟩, ⟨some 5, none, .q (.mv (.c (.i .i64 0)))⟩])
          .ret)
        .skip))))))
      (.keep [7, 8, 33, 34]
      (.reg none [⟨some 46, none, .q (.bin .add (.t 34) (.c (.i .i64 1)))⟩, ⟨some 34, none, .q (.mv (.t 46))⟩]))))))))))))
  (.seq (.reg none [⟨some 4, none, .q (.mv (.c (.b true)))⟩, ⟨some 5, none, .q (.mv (.c (.i .i64 0)))⟩])
  .ret)))))))))))))
theorem r12 : (Tryd.f12.body.bind (resC Tryd.prog Tryd.f12.ntmps)) = some (strip c12) := by kernel_rfl
theorem s12 : Tryd.f12.results.toList.mapM (resRes Tryd.prog) = some [.t 4, .t 5] := by kernel_rfl
def c5 : ACode :=
  (.seq (.reg none [⟨some 4, none, .q (.mv (.c (.b false)))⟩])
  (.keep [0, 1]
  (.seq (.reg none [⟨some 14, none, .q (.mv (.t 0))⟩, ⟨some 15, none, .q (.mv (.t 1))⟩, ⟨some 16, none, .call (.f 10) [(.t 14), (.t 15)]⟩, ⟨some 13, none, .q (.mv (.t 16))⟩, ⟨some 17, none, .q (.ext 0 (.t 13))⟩, ⟨some 18, none, .q (.ext 1 (.t 13))⟩, ⟨some 5, none, .q (.mv (.t 17))⟩, ⟨some 6, none, .q (.mv (.t 18))⟩])
  (.keep [0, 1, 5, 6]
  (.seq (.reg none [⟨some 20, none, .q (.mv (.t 0))⟩, ⟨some 21, none, .q (.mv (.t 1))⟩, ⟨some 22, none, .call (.f 12) [(.t 20), (.t 21)]⟩, ⟨some 19, none, .q (.mv (.t 22))⟩, ⟨some 23, none, .q (.ext 0 (.t 19))⟩, ⟨some 24, none, .q (.ext 1 (.t 19))⟩, ⟨some 7, none, .q (.mv (.t 23))⟩, ⟨some 8, none, .q (.mv (.t 24))⟩])
  (.keep [0, 5, 6, 7, 8]
  (.seq (.reg none [⟨some 26, none, .q (.mv (.t 0))⟩, ⟨some 27, none, .call (.f 7) [(.t 26)]⟩, ⟨some 25, none, .q (.mv (.t 27))⟩, ⟨some 28, none, .q (.ext 0 (.t 25))⟩, ⟨some 29, none, .q (.ext 1 (.t 25))⟩, ⟨some 9, none, .q (.mv (.t 28))⟩, ⟨some 10, none, .q (.mv (.t 29))⟩])
  (.keep [0, 5, 6, 7, 8, 9, 10]
  (.seq (.reg none [⟨some 31, none, .q (.mv (.t 0))⟩, ⟨some 32, none, .call (.f 13) [(.t 31)]⟩, ⟨some 30, none, .q (.mv (.t 32))⟩, ⟨some 33, none, .q (.ext 0 (.t 30))⟩, ⟨some 34, none, .q (.ext 1 (.t 30))⟩, ⟨some 11, none, .q (.mv (.t 33))⟩, ⟨some 12, none, .q (.mv (.t 34))⟩])
  (.keep [5, 6, 7, 8, 9, 10, 11, 12]
  (.seq (.reg none [⟨some 35, none, .q (.mv (.t 5))⟩, ⟨some 36, none, .q (.mv (.t 7))⟩, ⟨some 37, none, .q (.eqb false (.t 35) (.t 36))⟩, ⟨some 38, none, .q (.mv (.t 37))⟩, ⟨some 39, some (38, true), .q (.mv (.t 6))⟩, ⟨some 40, some (38, true), .q (.mv (.t 8))⟩, ⟨some 41, some (38, true), .q (.bin .eql (.t 39) (.t 40))⟩, ⟨some 42, none, .pk (.t 38) (.t 41) (.c (.b false))⟩, ⟨some 43, none, .q (.mv (.t 42))⟩, ⟨some 44, some (43, true), .q (.mv (.t 9))⟩, ⟨some 45, some (43, true), .q (.mv (.t 11))⟩, ⟨some 46, some (43, true), .q (.bin .eql (.t 44) (.t 45))⟩, ⟨some 47, none, .pk (.t 43) (.t 46) (.c (.b false))⟩, ⟨some 48, none, .q (.mv (.t 47))⟩, ⟨some 49, some (48, true), .q (.mv (.t 10))⟩, ⟨some 50, some (48, true), .q (.mv (.t 12))⟩, ⟨some 51, some (48, true), .q (.bin .eql (.t 49) (.t 50))⟩, ⟨some 52, none, .pk (.t 48) (.t 51) (.c (.b false))⟩, ⟨some 53, none, .q (.mv (.t 52))⟩, ⟨some 54, some (53, true), .call (.f 8) []⟩, ⟨some 55, none, .pk (.t 53) (.t 54) (.c (.b false))⟩, ⟨some 4, none, .q (.mv (.t 55))⟩])
  .ret)))))))))))
theorem r5 : (Tryd.f5.body.bind (resC Tryd.prog Tryd.f5.ntmps)) = some (strip c5) := by kernel_rfl
theorem s5 : Tryd.f5.results.toList.mapM (resRes Tryd.prog) = some [.t 4] := by kernel_rfl
def c4 : ACode :=
  (.seq (.reg none [⟨some 6, none, .q (.mv (.c (.b false)))⟩])
  (.keep [0, 1, 2]
  (.seq (.seq (.reg none [⟨some 21, none, .q (.mv (.t 0))⟩, ⟨some 22, none, .call (.f 6) [(.t 21)]⟩, ⟨some 23, none, .q (.bin .neq (.t 22) (.c (.i .i64 0)))⟩, ⟨some 24, none, .q (.mv (.t 23))⟩, ⟨some 25, some (24, false), .q (.mv (.t 1))⟩, ⟨some 26, some (24, false), .call (.f 6) [(.t 25)]⟩, ⟨some 27, some (24, false), .q (.bin .neq (.t 26) (.c (.i .i64 0)))⟩, ⟨some 28, none, .pk (.t 24) (.c (.b true)) (.t 27)⟩, ⟨some 29, none, .q (.mv (.t 28))⟩, ⟨some 30, some (29, false), .q (.mv (.t 2))⟩, ⟨some 31, some (29, false), .call (.f 6) [(.t 30)]⟩, ⟨some 32, some (29, false), .q (.bin .neq (.t 31) (.c (.i .i64 0)))⟩, ⟨some 33, none, .pk (.t 29) (.c (.b true)) (.t 32)⟩])
    (.keep [0, 1, 2, 33]
    (.cond (.t 33) (.seq (.reg none [⟨some 34, none, .call (.f 8) []⟩, ⟨some 6, none, .q (.mv (.t 34))⟩])
      .ret)
    .skip)))
  (.seq (.reg none [⟨some 36, none, .q (.mv (.t 0))⟩, ⟨some 37, none, .call (.f 7) [(.t 36)]⟩, ⟨some 35, none, .q (.mv (.t 37))⟩, ⟨some 38, none, .q (.ext 0 (.t 35))⟩, ⟨some 39, none, .q (.ext 1 (.t 35))⟩, ⟨some 7, none, .q (.mv (.t 38))⟩, ⟨some 8, none, .q (.mv (.t 39))⟩])
  (.keep [0, 1, 2, 7, 8]
  (.seq (.reg none [⟨some 41, none, .q (.mv (.t 1))⟩, ⟨some 42, none, .call (.f 7) [(.t 41)]⟩, ⟨some 40, none, .q (.mv (.t 42))⟩, ⟨some 43, none, .q (.ext 0 (.t 40))⟩, ⟨some 44, none, .q (.ext 1 (.t 40))⟩, ⟨some 9, none, .q (.mv (.t 43))⟩, ⟨some 10, none, .q (.mv (.t 44))⟩])
  (.keep [0, 1, 2, 7, 8, 9, 10]
  (.seq (.reg none [⟨some 46, none, .q (.mv (.t 0))⟩, ⟨some 47, none, .q (.mv (.t 1))⟩, ⟨some 48, none, .call (.f 10) [(.t 46), (.t 47)]⟩, ⟨some 45, none, .q (.mv (.t 48))⟩, ⟨some 49, none, .q (.ext 0 (.t 45))⟩, ⟨some 50, none, .q (.ext 1 (.t 45))⟩, ⟨some 11, none, .q (.mv (.t 49))⟩, ⟨some 12, none, .q (.mv (.t 50))⟩])
  (.keep [0, 1, 2, 7, 8, 9, 10, 11, 12]
  (.seq (.reg none [⟨some 52, none, .q (.mv (.t 1))⟩, ⟨some 53, none, .q (.mv (.t 0))⟩, ⟨some 54, none, .call (.f 10) [(.t 52), (.t 53)]⟩, ⟨some 51, none, .q (.mv (.t 54))⟩, ⟨some 55, none, .q (.ext 0 (.t 51))⟩, ⟨some 56, none, .q (.ext 1 (.t 51))⟩, ⟨some 13, none, .q (.mv (.t 55))⟩, ⟨some 14, none, .q (.mv (.t 56))⟩])
  (.keep [0, 1, 2, 7, 8, 9, 10, 11, 12, 13]
  (.seq (.reg none [⟨some 58, none, .q (.mv (.t 1))⟩, ⟨some 59, none, .q (.mv (.t 2))⟩, ⟨some 60, none, .call (.f 10) [(.t 58), (.t 59)]⟩, ⟨some 57, none, .q (.mv (.t 60))⟩, ⟨some 61, none, .q (.ext 0 (.t 57))⟩, ⟨some 62, none, .q (.ext 1 (.t 57))⟩, ⟨some 15, none, .q (.mv (.t 61))⟩, ⟨some 16, none, .q (.mv (.t 62))⟩])
  (.keep [0, 2, 7, 8, 9, 10, 11, 12, 13, 15]
  (.seq (.reg none [⟨some 64, none, .q (.mv (.t 0))⟩, ⟨some 65, none, .q (.mv (.t 2))⟩, ⟨some 66, none, .call (.f 10) [(.t 64), (.t 65)]⟩, ⟨some 63, none, .q (.mv (.t 66))⟩, ⟨some 67, none, .q (.ext 0 (.t 63))⟩, ⟨some 68, none, .q (.ext 1 (.t 63))⟩, ⟨some 17, none, .q (.mv (.t 67))⟩, ⟨some 18, none, .q (.mv (.t 68))⟩])
  (.keep [0, 7, 8, 9, 10, 11, 12, 13, 15, 17, 18]
  (.seq (.reg none [⟨some 70, none, .q (.mv (.t 0))⟩, ⟨some 71, none, .q (.mv (.t 0))⟩, ⟨some 72, none, .call (.f 10) [(.t 70), (.t 71)]⟩, ⟨some 69, none, .q (.mv (.t 72))⟩, ⟨some 73, none, .q (.ext 0 (.t 69))⟩, ⟨some 74, none, .q (.ext 1 (.t 69))⟩, ⟨some 19, none, .q (.mv (.t 73))⟩, ⟨some 20, none, .q (.mv (.t 74))⟩])
  (.keep [7, 8, 9, 10, 11, 12, 13, 15, 17, 18, 19]
  (.seq (.reg none [⟨some 75, none, .q (.mv (.t 8))⟩, ⟨some 76, none, .q (.bin .eql (.t 75) (.c (.i .i64 0)))⟩, ⟨some 77, none, .q (.mv (.t 76))⟩, ⟨some 78, some (77, true), .q (.mv (.t 10))⟩, ⟨some 79, some (77, true), .q (.bin .eql (.t 78) (.c (.i .i64 0)))⟩, ⟨some 80, none, .pk (.t 77) (.t 79) (.c (.b false))⟩, ⟨some 81, none, .q (.mv (.t 80))⟩, ⟨some 82, some (81, true), .q (.mv (.t 12))⟩, ⟨some 83, some (81, true), .q (.bin .eql (.t 82) (.c (.i .i64 0)))⟩, ⟨some 84, none, .pk (.t 81) (.t 83) (.c (.b false))⟩, ⟨some 85, none, .q (.mv (.t 84))⟩, ⟨some 86, some (85, true), .q (.mv (.t 18))⟩, ⟨some 87, some (85, true), .q (.bin .eql (.t 86) (.c (.i .i64 0)))⟩, ⟨some 88, none, .pk (.t 85) (.t 87) (.c (.b false))⟩, ⟨some 89, none, .q (.mv (.t 88))⟩, ⟨some 90, some (89, true), .q (.mv (.t 19))⟩, ⟨some 91, none, .pk (.t 89) (.t 90) (.c (.b false))⟩, ⟨some 92, none, .q (.mv (.t 91))⟩, ⟨some 93, some (92, true), .q (.mv (.t 11))⟩, ⟨some 94, some (92, true), .q (.mv (.t 13))⟩, ⟨some 95, some (92, true), .q (.eqb false (.t 93) (.t 94))⟩, ⟨some 96, none, .pk (.t 92) (.t 95) (.c (.b false))⟩, ⟨some 97, none, .q (.mv (.t 96))⟩, ⟨some 98, some (97, true), .q (.mv (.t 7))⟩, ⟨some 99, some (97, true), .q (.mv (.t 9))⟩, ⟨some 100, some (97, true), .q (.bin .eql (.t 98) (.t 99))⟩, ⟨some 101, some (97, true), .q (.mv (.t 11))⟩, ⟨some 102, some (97, true), .q (.eqb false (.t 100) (.t 101))⟩, ⟨some 103, none, .pk (.t 97) (.t 102) (.c (.b false))⟩, ⟨some 104, none, .q (.mv (.t 103))⟩, ⟨some 105, some (104, true), .q (.mv (.t 11))⟩, ⟨some 106, some (104, true), .q (.un .not (.t 105))⟩, ⟨some 107, some (104, true), .q (.mv (.t 106))⟩, ⟨some 108, some (107, false), .q (.mv (.t 15))⟩, ⟨some 109, some (107, false), .q (.un .not (.t 108))⟩, ⟨some 110, some (104, true), .pk (.t 107) (.c (.b true)) (.t 109)⟩, ⟨some 111, some (104, true), .q (.mv (.t 110))⟩, ⟨some 112, some (111, false), .q (.mv (.t 17))⟩, ⟨some 113, some (104, true), .pk (.t 111) (.c (.b true)) (.t 112)⟩, ⟨some 114, none, .pk (.t 104) (.t 113) (.c (.b false))⟩, ⟨some 6, none, .q (.mv (.t 114))⟩])
  .ret))))))))))))))))))
theorem r4 : (Tryd.f4.body.bind (resC Tryd.prog Tryd.f4.ntmps)) = some (strip c4) := by kernel_rfl
theorem s4 : Tryd.f4.results.toList.mapM (resRes Tryd.prog) = some [.t 6] := by kernel_rfl
theorem sameR13_p (a b : List Ev) (ha : a.length < 1000000000000) (hb : b.length < 1000000000000) : PureS Tryd.prog 12 [.sl 26 (a.map Ev.row), .sl 26 (b.map Ev.row)] (sameR a b) := by
  unfold sameR
  refine fun_go hmx Tryd.func12 r12 s12 (by rw [Tryd.ntmps12]; simp) ?_
  unfold c12
  simp
  first
    | refine callk rfl Tryd.call6 (checkR_p a (by omega)) rfl ?_
    | refine callks rfl Tryd.call6 (checkR_p a (by omega)) rfl ?_
    | refine callq rfl Tryd.call6 (checkR_p a (by omega)) rfl ?_
    | refine callqe rfl Tryd.call6 (checkR_p a (by omega)) rfl ?_
  by_cases h0 : checkT a = 0
  rotate_left
  · simp [h0, sameE]
  simp [h0]
  first
    | refine callk rfl Tryd.call6 (checkR_p b (by omega)) rfl ?_
    | refine callks rfl Tryd.call6 (checkR_p b (by omega)) rfl ?_
    | refine callq rfl Tryd.call6 (checkR_p b (by omega)) rfl ?_
    | refine callqe rfl Tryd.call6 (checkR_p b (by omega)) rfl ?_
  by_cases h1 : checkT b = 0
  rotate_left
  · simp [h0, h1, sameE]
  have hla := (good_of h0).len
  have hlb := (good_of h1).len
  simp [h1]
  by_cases hl : a.length = b.length
  rotate_left
  · have hlI : ¬ (a.length : Int) = (b.length : Int) := by omega
    have hne : ¬ canonL a = canonL b := fun hc => hl (by have := congrArg List.length hc; simpa using this)
    simp [hl, hlI, hne, sameE, h0, h1]
  have hlI : (a.length : Int) = (b.length : Int) := by omega
  simp [hl, hlI]
  first
    | refine callk rfl Tryd.call31 (order_p a h0) rfl ?_
    | refine callks rfl Tryd.call31 (order_p a h0) rfl ?_
    | refine callq rfl Tryd.call31 (order_p a h0) rfl ?_
    | refine callqe rfl Tryd.call31 (order_p a h0) rfl ?_
  simp
  first
    | refine callk rfl Tryd.call30 (laidR_p a (formT a) (by simp; omega) formT_lt) rfl ?_
    | refine callks rfl Tryd.call30 (laidR_p a (formT a) (by simp; omega) formT_lt) rfl ?_
    | refine callq rfl Tryd.call30 (laidR_p a (formT a) (by simp; omega) formT_lt) rfl ?_
    | refine callqe rfl Tryd.call30 (laidR_p a (formT a) (by simp; omega) formT_lt) rfl ?_
  simp
  first
    | refine callk rfl Tryd.call31 (order_p b h1) rfl ?_
    | refine callks rfl Tryd.call31 (order_p b h1) rfl ?_
    | refine callq rfl Tryd.call31 (order_p b h1) rfl ?_
    | refine callqe rfl Tryd.call31 (order_p b h1) rfl ?_
  simp
  first
    | refine callk rfl Tryd.call30 (laidR_p b (formT b) (by simp; omega) formT_lt) rfl ?_
    | refine callks rfl Tryd.call30 (laidR_p b (formT b) (by simp; omega) formT_lt) rfl ?_
    | refine callq rfl Tryd.call30 (laidR_p b (formT b) (by simp; omega) formT_lt) rfl ?_
    | refine callqe rfl Tryd.call30 (laidR_p b (formT b) (by simp; omega) formT_lt) rfl ?_
  rw [laid_canon, laid_canon]
  have ca : (canonL a).length = b.length := by simp [hl]
  have cb : (canonL b).length = b.length := by simp
  generalize canonL a = x at *
  generalize canonL b = y at *
  simp [ca, cb]
  refine go_while hmx 0 (fun (k : Nat) => [(34, .v (.i .i64 (k : Int)))]) (fun _ => []) (fun k => k ≤ b.length ∧ x.take k = y.take k) (fun k => b.length - k) 0 rfl (by simp) rfl (by simp) (by simp) (by simp) ⟨Nat.zero_le _, by simp⟩ ?_
  rintro k ⟨hk, hs⟩
  by_cases hkl : k < b.length
  · have hI : (k : Int) < (b.length : Int) := by omega
    have hw : IntKind.i64.wrap ((k : Int) + 1) = (k : Int) + 1 := wrap_in (by omega) (by omega)
    have hka : k < x.length := by omega
    have hkb : k < y.length := by omega
    simp [hI, hkl, hka, hkb, ca, cb, ev_fit, ev_eqA]
    refine ⟨fun hne => ?_, fun he => ⟨k + 1, hw, ⟨by omega, ?_⟩, by omega⟩⟩
    · have : ¬ x = y := fun hxy => by subst hxy; exact hne rfl
      simp [this, sameE, h0, h1]
    · rw [List.take_succ_eq_append_getElem hka, List.take_succ_eq_append_getElem hkb, hs, he]
  · obtain rfl : k = b.length := by omega
    have e1 := List.take_length (l := x)
    have e2 := List.take_length (l := y)
    rw [ca] at e1
    rw [cb] at e2
    rw [e1, e2] at hs
    simp [hs, sameE, h0, h1]
theorem canonSames (a b : List Ev) (ha : a.length < 1000000000000) (hb : b.length < 1000000000000) (hI : ∀ e ∈ a, e.B64) : PureS Tryd.prog 5 [.sl 26 (a.map Ev.row), .sl 26 (b.map Ev.row)] (.b true) := by
  refine fun_go hmx Tryd.func5 r5 s5 (by rw [Tryd.ntmps5]; simp) ?_
  unfold c5
  simp
  first
    | refine callk rfl Tryd.call10 (same13_p a b ha hb) rfl ?_
    | refine callks rfl Tryd.call10 (same13_p a b ha hb) rfl ?_
    | refine callq rfl Tryd.call10 (same13_p a b ha hb) rfl ?_
    | refine callqe rfl Tryd.call10 (same13_p a b ha hb) rfl ?_
  simp [sameR]
  first
    | refine callk rfl Tryd.call12 (sameR13_p a b ha hb) rfl ?_
    | refine callks rfl Tryd.call12 (sameR13_p a b ha hb) rfl ?_
    | refine callq rfl Tryd.call12 (sameR13_p a b ha hb) rfl ?_
    | refine callqe rfl Tryd.call12 (sameR13_p a b ha hb) rfl ?_
  simp [sameR]
  first
    | refine callk rfl Tryd.call7 (key_p a ha hI) rfl ?_
    | refine callks rfl Tryd.call7 (key_p a ha hI) rfl ?_
    | refine callq rfl Tryd.call7 (key_p a ha hI) rfl ?_
    | refine callqe rfl Tryd.call7 (key_p a ha hI) rfl ?_
  simp [keyR]
  first
    | refine callk rfl Tryd.call13 (keyR_p a ha hI) rfl ?_
    | refine callks rfl Tryd.call13 (keyR_p a ha hI) rfl ?_
    | refine callq rfl Tryd.call13 (keyR_p a ha hI) rfl ?_
    | refine callqe rfl Tryd.call13 (keyR_p a ha hI) rfl ?_
  simp [keyR]
  first
    | refine callkg rfl Tryd.call8 rfl (fun _ => small_p) (fun hG => by first | (simp; done) | (simp at hG; done) | simpa using hG) rfl ?_
    | refine callksg rfl Tryd.call8 rfl (fun _ => small_p) (fun hG => by first | (simp; done) | (simp at hG; done) | simpa using hG) rfl ?_
    | refine callqg rfl Tryd.call8 rfl (fun _ => small_p) (fun hG => by first | (simp; done) | (simp at hG; done) | simpa using hG) rfl ?_
  simp
theorem key_dec {a b : List Ev} (ha : Good a) (hb : Good b) : decide (keyB (canonL a) = keyB (canonL b)) = decide (canonL a = canonL b) := by
  rw [decide_eq_decide]
  exact ⟨key_inj (canonL_right ha) (canonL_right hb), fun h => by rw [h]⟩
theorem canonKeys (a b c : List Ev) (ha : a.length < 1000000000000) (hb : b.length < 1000000000000) (hc : c.length < 1000000000000) (hI : ∀ e ∈ a, e.B64) (hJ : ∀ e ∈ b, e.B64) : PureS Tryd.prog 4 [.sl 26 (a.map Ev.row), .sl 26 (b.map Ev.row), .sl 26 (c.map Ev.row)] (.b true) := by
  refine fun_go hmx Tryd.func4 r4 s4 (by rw [Tryd.ntmps4]; simp) ?_
  unfold c4
  simp
  first
    | refine callk rfl Tryd.call6 (checkR_p a (by omega)) rfl ?_
    | refine callks rfl Tryd.call6 (checkR_p a (by omega)) rfl ?_
    | refine callq rfl Tryd.call6 (checkR_p a (by omega)) rfl ?_
    | refine callqe rfl Tryd.call6 (checkR_p a (by omega)) rfl ?_
  by_cases h0 : checkT a = 0
  rotate_left
  · simp [h0]
    first
      | refine calldn (.i .i64 0) rfl Tryd.call6 (by first | rfl | simp [h0]) ?_
      | refine calldq (.i .i64 0) rfl Tryd.call6 (by first | rfl | simp [h0]) ?_
    simp [h0]
    first
      | refine calldn (.i .i64 0) rfl Tryd.call6 (by first | rfl | simp [h0]) ?_
      | refine calldq (.i .i64 0) rfl Tryd.call6 (by first | rfl | simp [h0]) ?_
    simp [h0]
    first
      | refine callk rfl Tryd.call8 small_p rfl ?_
      | refine callks rfl Tryd.call8 small_p rfl ?_
      | refine callq rfl Tryd.call8 small_p rfl ?_
      | refine callqe rfl Tryd.call8 small_p rfl ?_
    simp
  simp [h0]
  first
    | refine callkg rfl Tryd.call6 rfl (fun _ => (checkR_p b (by omega))) (fun hG => by first | (simp; done) | (simp at hG; done) | simpa using hG) rfl ?_
    | refine callksg rfl Tryd.call6 rfl (fun _ => (checkR_p b (by omega))) (fun hG => by first | (simp; done) | (simp at hG; done) | simpa using hG) rfl ?_
    | refine callqg rfl Tryd.call6 rfl (fun _ => (checkR_p b (by omega))) (fun hG => by first | (simp; done) | (simp at hG; done) | simpa using hG) rfl ?_
  by_cases h1 : checkT b = 0
  rotate_left
  · simp [h1]
    first
      | refine calldn (.i .i64 0) rfl Tryd.call6 (by first | rfl | simp [h1]) ?_
      | refine calldq (.i .i64 0) rfl Tryd.call6 (by first | rfl | simp [h1]) ?_
    simp [h1]
    first
      | refine callk rfl Tryd.call8 small_p rfl ?_
      | refine callks rfl Tryd.call8 small_p rfl ?_
      | refine callq rfl Tryd.call8 small_p rfl ?_
      | refine callqe rfl Tryd.call8 small_p rfl ?_
    simp
  simp [h1]
  first
    | refine callkg rfl Tryd.call6 rfl (fun _ => (checkR_p c (by omega))) (fun hG => by first | (simp; done) | (simp at hG; done) | simpa using hG) rfl ?_
    | refine callksg rfl Tryd.call6 rfl (fun _ => (checkR_p c (by omega))) (fun hG => by first | (simp; done) | (simp at hG; done) | simpa using hG) rfl ?_
    | refine callqg rfl Tryd.call6 rfl (fun _ => (checkR_p c (by omega))) (fun hG => by first | (simp; done) | (simp at hG; done) | simpa using hG) rfl ?_
  by_cases h2 : checkT c = 0
  rotate_left
  · simp [h2]
    first
      | refine callk rfl Tryd.call8 small_p rfl ?_
      | refine callks rfl Tryd.call8 small_p rfl ?_
      | refine callq rfl Tryd.call8 small_p rfl ?_
      | refine callqe rfl Tryd.call8 small_p rfl ?_
    simp
  have hk := key_dec (good_of h0) (good_of h1)
  simp [h2]
  first
    | refine callk rfl Tryd.call7 (key_p a ha hI) rfl ?_
    | refine callks rfl Tryd.call7 (key_p a ha hI) rfl ?_
    | refine callq rfl Tryd.call7 (key_p a ha hI) rfl ?_
    | refine callqe rfl Tryd.call7 (key_p a ha hI) rfl ?_
  simp [keyR]
  first
    | refine callk rfl Tryd.call7 (key_p b hb hJ) rfl ?_
    | refine callks rfl Tryd.call7 (key_p b hb hJ) rfl ?_
    | refine callq rfl Tryd.call7 (key_p b hb hJ) rfl ?_
    | refine callqe rfl Tryd.call7 (key_p b hb hJ) rfl ?_
  simp [keyR]
  first
    | refine callk rfl Tryd.call10 (same13_p a b ha hb) rfl ?_
    | refine callks rfl Tryd.call10 (same13_p a b ha hb) rfl ?_
    | refine callq rfl Tryd.call10 (same13_p a b ha hb) rfl ?_
    | refine callqe rfl Tryd.call10 (same13_p a b ha hb) rfl ?_
  simp [sameR]
  first
    | refine callk rfl Tryd.call10 (same13_p b a hb ha) rfl ?_
    | refine callks rfl Tryd.call10 (same13_p b a hb ha) rfl ?_
    | refine callq rfl Tryd.call10 (same13_p b a hb ha) rfl ?_
    | refine callqe rfl Tryd.call10 (same13_p b a hb ha) rfl ?_
  simp [sameR]
  first
    | refine callk rfl Tryd.call10 (same13_p b c hb hc) rfl ?_
    | refine callks rfl Tryd.call10 (same13_p b c hb hc) rfl ?_
    | refine callq rfl Tryd.call10 (same13_p b c hb hc) rfl ?_
    | refine callqe rfl Tryd.call10 (same13_p b c hb hc) rfl ?_
  simp [sameR]
  first
    | refine callk rfl Tryd.call10 (same13_p a c ha hc) rfl ?_
    | refine callks rfl Tryd.call10 (same13_p a c ha hc) rfl ?_
    | refine callq rfl Tryd.call10 (same13_p a c ha hc) rfl ?_
    | refine callqe rfl Tryd.call10 (same13_p a c ha hc) rfl ?_
  simp [sameR]
  first
    | refine callk rfl Tryd.call10 (same13_p a a ha ha) rfl ?_
    | refine callks rfl Tryd.call10 (same13_p a a ha ha) rfl ?_
    | refine callq rfl Tryd.call10 (same13_p a a ha ha) rfl ?_
    | refine callqe rfl Tryd.call10 (same13_p a a ha ha) rfl ?_
  have hk2 : (keyB (canonL a) == keyB (canonL b)) = decide (canonL a = canonL b) := by rw [← hk, Bool.eq_iff_iff, beq_iff_eq, decide_eq_true_eq]
  simp [sameR, sameE, h0, h1, h2]
  refine ⟨fun p q => ⟨⟨p, q⟩, fun r => ⟨⟨p, q⟩, r⟩⟩, fun p q => ⟨⟨p, q⟩, fun r s => ⟨⟨p, q⟩, r, s⟩⟩, ⟨eq_comm, hk2⟩, ?_⟩
  by_cases x : canonL a = canonL b
  · by_cases y : canonL b = canonL c
    · exact .inr (x.trans y)
    · exact .inl (.inr y)
  · exact .inl (.inl x)
end Go.Sc.Or
