/- Chapter 12: the law of what follows. No condition. -/
import Derived.Test.YtgipkikbefnokaaXOrR
import Derived.Test.YtgipkikbefnokaaXEvt7
set_option linter.constructorNameAsVariable false
namespace Go.Sc.Or
open Go Go.RowKit Go.Av Go.Proofs Go.Sc
set_option linter.unusedSimpArgs false
set_option linter.unusedVariables false
/-- scarab/scarablaw12.OrderFollows -/
def c4 : ACode :=
  (.seq (.reg none [⟨some 2, none, .q (.mv (.c (.b false)))⟩])
  (.keep [0]
  (.seq (.seq (.reg none [⟨some 17, none, .q (.mv (.t 0))⟩, ⟨some 18, none, .q (.len false (.t 17))⟩, ⟨some 19, none, .q (.bin .gtr (.t 18) (.c (.i .i64 60)))⟩])
    (.keep [0, 19]
    (.cond (.t 19) (.seq (.reg none [⟨some 20, none, .call (.f 20) []⟩, ⟨some 2, none, .q (.mv (.t 20))⟩])
      .ret)
    .skip)))
  (.seq (.reg none [⟨some 22, none, .q (.mv (.t 0))⟩, ⟨some 23, none, .call (.f 21) [(.t 22)]⟩, ⟨some 21, none, .q (.mv (.t 23))⟩, ⟨some 24, none, .q (.ext 0 (.t 21))⟩, ⟨some 25, none, .q (.ext 1 (.t 21))⟩, ⟨some 3, none, .q (.mv (.t 24))⟩, ⟨some 4, none, .q (.mv (.t 25))⟩])
  (.keep [0, 3, 4]
  (.seq (.seq (.reg none [⟨some 26, none, .q (.mv (.t 0))⟩, ⟨some 27, none, .call (.f 22) [(.t 26)]⟩, ⟨some 28, none, .q (.bin .neq (.t 27) (.c (.i .i64 0)))⟩])
    (.keep [0, 3, 4, 28]
    (.cond (.t 28) (.seq (.reg none [⟨some 29, none, .q (.mv (.t 4))⟩, ⟨some 30, none, .q (.bin .neq (.t 29) (.c (.i .i64 0)))⟩, ⟨some 31, none, .q (.mv (.t 30))⟩, ⟨some 32, some (31, true), .q (.mv (.t 3))⟩, ⟨some 33, some (31, true), .q (.len false (.t 32))⟩, ⟨some 34, some (31, true), .q (.bin .eql (.t 33) (.c (.i .i64 0)))⟩, ⟨some 35, none, .pk (.t 31) (.t 34) (.c (.b false))⟩, ⟨some 36, none, .q (.mv (.t 35))⟩, ⟨some 37, some (36, true), .call (.f 20) []⟩, ⟨some 38, none, .pk (.t 36) (.t 37) (.c (.b false))⟩, ⟨some 2, none, .q (.mv (.t 38))⟩])
      .ret)
    .skip)))
  (.seq (.reg none [⟨some 39, none, .q (.mv (.t 0))⟩, ⟨some 40, none, .q (.len false (.t 39))⟩, ⟨some 5, none, .q (.mv (.t 40))⟩])
  (.keep [0, 3, 4, 5]
  (.seq (.reg none [⟨some 41, none, .q (.mv (.t 5))⟩, ⟨some 42, none, .m (.mks 1 24 [.nil] (.t 41) (.t 41))⟩, ⟨some 6, none, .q (.mv (.t 42))⟩])
  (.keep [0, 3, 4, 5, 6]
  (.seq (.seq (.reg none [⟨some 7, none, .q (.mv (.c (.i .i64 0)))⟩])
    (.keep [0, 3, 4, 5, 6, 7]
    (.blk 0 (.keep [0, 3, 4, 5, 6, 7]
    (.loop (.fin [0, 3, 4, 5, 6, 7]
      (.seq (.seq (.reg none [⟨some 43, none, .q (.mv (.t 7))⟩, ⟨some 44, none, .q (.mv (.t 5))⟩, ⟨some 45, none, .q (.bin .lss (.t 43) (.t 44))⟩])
        (.keep [0, 3, 4, 5, 6, 7, 45]
        (.cond (.t 45) .skip
        (.exit 0))))
      (.seq (.blk 1 (.reg none [⟨some 48, none, .q (.mv (.t 6))⟩, ⟨some 49, none, .q (.mv (.t 7))⟩, ⟨some 50, none, .q (.mv (.t 5))⟩, ⟨some 51, none, .m (.mks 1 1 [(.b false)] (.t 50) (.t 50))⟩, ⟨some 52, none, .q (.ias 1 (.t 48) (.t 49))⟩, ⟨none, none, .m (.st 1 (.t 52) (.t 51))⟩]))
      (.keep [0, 3, 4, 5, 6, 7]
      (.reg none [⟨some 46, none, .q (.mv (.t 7))⟩, ⟨some 47, none, .q (.bin .add (.t 46) (.c (.i .i64 1)))⟩, ⟨some 7, none, .q (.mv (.t 47))⟩]))))))))))
  (.seq (.seq (.reg none [⟨some 8, none, .q (.mv (.c (.i .i64 0)))⟩])
    (.keep [0, 3, 4, 5, 6, 8]
    (.blk 2 (.keep [0, 3, 4, 5, 6, 8]
    (.loop (.fin [0, 3, 4, 5, 6, 8]
      (.seq (.seq (.reg none [⟨some 53, none, .q (.mv (.t 8))⟩, ⟨some 54, none, .q (.mv (.t 3))⟩, ⟨some 55, none, .q (.len false (.t 54))⟩, ⟨some 56, none, .q (.bin .lss (.t 53) (.t 55))⟩])
        (.keep [0, 3, 4, 5, 6, 8, 56]
        (.cond (.t 56) .skip
        (.exit 2))))
      (.seq (.blk 3 (.seq (.reg (some (28, [])) [⟨some 59, none, .q (.mv (.t 3))⟩, ⟨some 60, none, .q (.mv (.t 8))⟩, ⟨some 61, none, .q (.ias 2 (.t 59) (.t 60))⟩, ⟨some 62, none, .q (.iaa 2 1 (.t 61) (.c (.i .i64 0)))⟩, ⟨some 63, none, .q (.ld none (.t 62))⟩, ⟨some 64, none, .q (.bin .lss (.t 63) (.c (.i .i64 0)))⟩, ⟨some 65, none, .q (.mv (.t 64))⟩, ⟨some 66, some (65, false), .q (.mv (.t 3))⟩, ⟨some 67, some (65, false), .q (.mv (.t 8))⟩, ⟨some 68, some (65, false), .q (.ias 2 (.t 66) (.t 67))⟩, ⟨some 69, some (65, false), .q (.iaa 2 1 (.t 68) (.c (.i .i64 0)))⟩, ⟨some 70, some (65, false), .q (.ld none (.t 69))⟩, ⟨some 71, some (65, false), .q (.mv (.t 3))⟩, ⟨some 72, some (65, false), .q (.mv (.t 8))⟩, ⟨some 73, some (65, false), .q (.ias 2 (.t 71) (.t 72))⟩, ⟨some 74, some (65, false), .q (.iaa 2 1 (.t 73) (.c (.i .i64 1)))⟩, ⟨some 75, some (65, false), .q (.ld none (.t 74))⟩, ⟨some 76, some (65, false), .q (.bin .geq (.t 70) (.t 75))⟩, ⟨some 77, none, .pk (.t 65) (.c (.b true)) (.t 76)⟩, ⟨some 78, none, .q (.mv (.t 77))⟩, ⟨some 79, some (78, false), .q (.mv (.t 3))⟩, ⟨some 80, some (78, false), .q (.mv (.t 8))⟩, ⟨some 81, some (78, false), .q (.ias 2 (.t 79) (.t 80))⟩, ⟨some 82, some (78, false), .q (.iaa 2 1 (.t 81) (.c (.i .i64 1)))⟩, ⟨some 83, some (78, false), .q (.ld none (.t 82))⟩, ⟨some 84, some (78, false), .q (.mv (.t 5))⟩, ⟨some 85, some (78, false), .q (.bin .geq (.t 83) (.t 84))⟩, ⟨some 86, none, .pk (.t 78) (.c (.b true)) (.t 85)⟩])
        (.keep [0, 3, 4, 5, 6, 8, 86]
        (.cond (.t 86) (.seq (.reg none [⟨some 2, none, .q (.mv (.c (.b false)))⟩])
          .ret)
        .skip))))
      (.keep [0, 3, 4, 5, 6, 8]
      (.reg none [⟨some 57, none, .q (.mv (.t 8))⟩, ⟨some 58, none, .q (.bin .add (.t 57) (.c (.i .i64 1)))⟩, ⟨some 8, none, .q (.mv (.t 58))⟩]))))))))))
  (.seq (.seq (.reg none [⟨some 87, none, .q (.mv (.t 3))⟩, ⟨some 88, none, .q (.len false (.t 87))⟩, ⟨some 89, none, .q (.bin .sub (.t 88) (.c (.i .i64 1)))⟩, ⟨some 9, none, .q (.mv (.t 89))⟩])
    (.keep [0, 3, 4, 5, 6, 9]
    (.blk 4 (.keep [0, 3, 4, 5, 6, 9]
    (.loop (.fin [0, 3, 4, 5, 6, 9]
      (.seq (.seq (.reg none [⟨some 90, none, .q (.mv (.t 9))⟩, ⟨some 91, none, .q (.bin .geq (.t 90) (.c (.i .i64 0)))⟩])
        (.keep [0, 3, 4, 5, 6, 9, 91]
        (.cond (.t 91) .skip
        (.exit 4))))
      (.seq (.blk 5 (.seq (.reg (some (12, [])) [⟨some 94, none, .q (.mv (.t 3))⟩, ⟨some 95, none, .q (.mv (.t 9))⟩, ⟨some 96, none, .q (.ias 2 (.t 94) (.t 95))⟩, ⟨some 97, none, .q (.iaa 2 1 (.t 96) (.c (.i .i64 0)))⟩, ⟨some 98, none, .q (.ld none (.t 97))⟩, ⟨some 99, none, .q (.mv (.t 3))⟩, ⟨some 100, none, .q (.mv (.t 9))⟩, ⟨some 101, none, .q (.ias 2 (.t 99) (.t 100))⟩, ⟨some 102, none, .q (.iaa 2 1 (.t 101) (.c (.i .i64 1)))⟩, ⟨some 103, none, .q (.ld none (.t 102))⟩, ⟨some 10, none, .q (.mv (.t 98))⟩, ⟨some 11, none, .q (.mv (.t 103))⟩])
        (.keep [0, 3, 4, 5, 6, 9, 10, 11]
        (.seq (.reg none [⟨some 104, none, .q (.mv (.t 6))⟩, ⟨some 105, none, .q (.mv (.t 10))⟩, ⟨some 106, none, .q (.ias 1 (.t 104) (.t 105))⟩, ⟨some 107, none, .q (.ld none (.t 106))⟩, ⟨some 108, none, .q (.mv (.t 11))⟩, ⟨some 109, none, .q (.ias 1 (.t 107) (.t 108))⟩, ⟨none, none, .m (.st 1 (.t 109) (.c (.b true)))⟩])
        (.keep [0, 3, 4, 5, 6, 9, 10, 11]
        (.seq (.reg none [⟨some 12, none, .q (.mv (.c (.i .i64 0)))⟩])
        (.keep [0, 3, 4, 5, 6, 9, 10, 11, 12]
        (.blk 6 (.keep [0, 3, 4, 5, 6, 9, 10, 11, 12]
        (.loop (.fin [0, 3, 4, 5, 6, 9, 10, 11, 12]
          (.seq (.seq (.reg none [⟨some 110, none, .q (.mv (.t 12))⟩, ⟨some 111, none, .q (.mv (.t 5))⟩, ⟨some 112, none, .q (.bin .lss (.t 110) (.t 111))⟩])
            (.keep [0, 3, 4, 5, 6, 9, 10, 11, 12, 112]
            (.cond (.t 112) .skip
            (.exit 6))))
          (.seq (.blk 7 (.reg (some (22, [])) [⟨some 115, none, .q (.mv (.t 6))⟩, ⟨some 116, none, .q (.mv (.t 10))⟩, ⟨some 117, none, .q (.ias 1 (.t 115) (.t 116))⟩, ⟨some 118, none, .q (.ld none (.t 117))⟩, ⟨some 119, none, .q (.mv (.t 12))⟩, ⟨some 120, none, .q (.mv (.t 6))⟩, ⟨some 121, none, .q (.mv (.t 10))⟩, ⟨some 122, none, .q (.ias 1 (.t 120) (.t 121))⟩, ⟨some 123, none, .q (.ld none (.t 122))⟩, ⟨some 124, none, .q (.mv (.t 12))⟩, ⟨some 125, none, .q (.ias 1 (.t 123) (.t 124))⟩, ⟨some 126, none, .q (.ld none (.t 125))⟩, ⟨some 127, none, .q (.mv (.t 126))⟩, ⟨some 128, some (127, false), .q (.mv (.t 6))⟩, ⟨some 129, some (127, false), .q (.mv (.t 11))⟩, ⟨some 130, some (127, false), .q (.ias 1 (.t 128) (.t 129))⟩, ⟨some 131, some (127, false), .q (.ld none (.t 130))⟩, ⟨some 132, some (127, false), .q (.mv (.t 12))⟩, ⟨some 133, some (127, false), .q (.ias 1 (.t 131) (.t 132))⟩, ⟨some 134, some (127, false), .q (.ld none (.t 133))⟩, ⟨some 135, none, .pk (.t 127) (.c (.b true)) (.t 134)⟩, ⟨some 136, none, .q (.ias 1 (.t 118) (.t 119))⟩, ⟨none, none, .m (.st 1 (.t 136) (.t 135))⟩]))
          (.keep [0, 3, 4, 5, 6, 9, 10, 11, 12]
          (.reg none [⟨some 113, none, .q (.mv (.t 12))⟩, ⟨some 114, none, .q (.bin .add (.t 113) (.c (.i .i64 1)))⟩, ⟨some 12, none, .q (.mv (.t 114))⟩])))))))))))))))
      (.keep [0, 3, 4, 5, 6, 9]
      (.reg none [⟨some 92, none, .q (.mv (.t 9))⟩, ⟨some 93, none, .q (.bin .sub (.t 92) (.c (.i .i64 1)))⟩, ⟨some 9, none, .q (.mv (.t 93))⟩]))))))))))
  (.seq (.seq (.reg none [⟨some 13, none, .q (.mv (.c (.i .i64 0)))⟩])
    (.keep [0, 4, 5, 6, 13]
    (.blk 8 (.keep [0, 4, 5, 6, 13]
    (.loop (.fin [0, 4, 5, 6, 13]
      (.seq (.seq (.reg none [⟨some 137, none, .q (.mv (.t 13))⟩, ⟨some 138, none, .q (.mv (.t 5))⟩, ⟨some 139, none, .q (.bin .lss (.t 137) (.t 138))⟩])
        (.keep [0, 4, 5, 6, 13, 139]
        (.cond (.t 139) .skip
        (.exit 8))))
      (.seq (.blk 9 (.seq (.reg none [⟨some 14, none, .q (.mv (.c (.i .i64 0)))⟩])
        (.keep [0, 4, 5, 6, 13, 14]
        (.blk 10 (.keep [0, 4, 5, 6, 13, 14]
        (.loop (.fin [0, 4, 5, 6, 13, 14]
          (.seq (.seq (.reg none [⟨some 142, none, .q (.mv (.t 14))⟩, ⟨some 143, none, .q (.mv (.t 5))⟩, ⟨some 144, none, .q (.bin .lss (.t 142) (.t 143))⟩])
            (.keep [0, 4, 5, 6, 13, 14, 144]
            (.cond (.t 144) .skip
            (.exit 10))))
          (.seq (.blk 11 (.seq (.reg none [⟨some 148, none, .q (.mv (.t 0))⟩, ⟨some 149, none, .q (.mv (.t 13))⟩, ⟨some 150, none, .q (.mv (.t 14))⟩, ⟨some 151, none, .call (.f 23) [(.t 148), (.t 149), (.t 150)]⟩, ⟨some 147, none, .q (.mv (.t 151))⟩, ⟨some 152, none, .q (.ext 0 (.t 147))⟩, ⟨some 153, none, .q (.ext 1 (.t 147))⟩, ⟨some 15, none, .q (.mv (.t 152))⟩, ⟨some 16, none, .q (.mv (.t 153))⟩])
            (.keep [0, 4, 5, 6, 13, 14, 15, 16]
            (.seq (.seq (.reg none [⟨some 154, none, .q (.mv (.t 16))⟩, ⟨some 155, none, .q (.bin .neq (.t 154) (.c (.i .i64 0)))⟩, ⟨some 156, none, .q (.mv (.t 155))⟩, ⟨some 157, some (156, false), .q (.mv (.t 15))⟩, ⟨some 158, some (156, false), .q (.mv (.t 6))⟩, ⟨some 159, some (156, false), .q (.mv (.t 13))⟩, ⟨some 160, some (156, false), .q (.ias 1 (.t 158) (.t 159))⟩, ⟨some 161, some (156, false), .q (.ld none (.t 160))⟩, ⟨some 162, some (156, false), .q (.mv (.t 14))⟩, ⟨some 163, some (156, false), .q (.ias 1 (.t 161) (.t 162))⟩, ⟨some 164, some (156, false), .q (.ld none (.t 163))⟩, ⟨some 165, some (156, false), .q (.eqb true (.t 157) (.t 164))⟩, ⟨some 166, none, .pk (.t 156) (.c (.b true)) (.t 165)⟩])
              (.keep [0, 4, 5, 6, 13, 14, 15, 166]
              (.cond (.t 166) (.seq (.reg none [⟨some 2, none, .q (.mv (.c (.b false)))⟩])
                .ret)
              .skip)))
            (.seq (.reg (some (20, [])) [⟨some 167, none, .q (.mv (.t 13))⟩, ⟨some 168, none, .q (.mv (.t 14))⟩, ⟨some 169, none, .q (.bin .lss (.t 167) (.t 168))⟩, ⟨some 170, none, .q (.mv (.t 169))⟩, ⟨some 171, some (170, true), .q (.mv (.t 0))⟩, ⟨some 172, some (170, true), .q (.mv (.t 13))⟩, ⟨some 173, some (170, true), .q (.ias 26 (.t 171) (.t 172))⟩, ⟨some 174, some (170, true), .q (.fa 0 (.t 173))⟩, ⟨some 175, some (170, true), .q (.ld none (.t 174))⟩, ⟨some 176, some (170, true), .q (.mv (.t 0))⟩, ⟨some 177, some (170, true), .q (.mv (.t 14))⟩, ⟨some 178, some (170, true), .q (.ias 26 (.t 176) (.t 177))⟩, ⟨some 179, some (170, true), .q (.fa 0 (.t 178))⟩, ⟨some 180, some (170, true), .q (.ld none (.t 179))⟩, ⟨some 181, some (170, true), .q (.bin .eql (.t 175) (.t 180))⟩, ⟨some 182, none, .pk (.t 170) (.t 181) (.c (.b false))⟩, ⟨some 183, none, .q (.mv (.t 182))⟩, ⟨some 184, some (183, true), .q (.mv (.t 15))⟩, ⟨some 185, some (183, true), .q (.un .not (.t 184))⟩, ⟨some 186, none, .pk (.t 183) (.t 185) (.c (.b false))⟩])
            (.keep [0, 4, 5, 6, 13, 14, 186]
            (.cond (.t 186) (.seq (.reg none [⟨some 2, none, .q (.mv (.c (.b false)))⟩])
              .ret)
            .skip)))))))
          (.keep [0, 4, 5, 6, 13, 14]
          (.reg none [⟨some 145, none, .q (.mv (.t 14))⟩, ⟨some 146, none, .q (.bin .add (.t 145) (.c (.i .i64 1)))⟩, ⟨some 14, none, .q (.mv (.t 146))⟩])))))))))))
      (.keep [0, 4, 5, 6, 13]
      (.reg none [⟨some 140, none, .q (.mv (.t 13))⟩, ⟨some 141, none, .q (.bin .add (.t 140) (.c (.i .i64 1)))⟩, ⟨some 13, none, .q (.mv (.t 141))⟩]))))))))))
  (.seq (.reg none [⟨some 187, none, .q (.mv (.t 4))⟩, ⟨some 188, none, .q (.bin .eql (.t 187) (.c (.i .i64 0)))⟩, ⟨some 189, none, .q (.mv (.t 188))⟩, ⟨some 190, some (189, true), .call (.f 20) []⟩, ⟨some 191, none, .pk (.t 189) (.t 190) (.c (.b false))⟩, ⟨some 2, none, .q (.mv (.t 191))⟩])
  .ret)))))))))))))))
theorem r4 : (Try.f4.body.bind (resC Try.prog Try.f4.ntmps)) = some (strip c4) := by kernel_rfl
theorem s4 : Try.f4.results.toList.mapM (resRes Try.prog) = some [.t 2] := by kernel_rfl
theorem follows_long (t : List Ev) (ht : t.length < 1000000000000) (h0 : 60 < t.length) : PureS Try.prog 4 [.sl 26 (t.map Ev.row)] (.b true) := by
  have h1 : (60 : Int) < (t.length : Int) := by omega
  refine fun_go hmx Try.func4 r4 s4 (by rw [Try.ntmps4]; simp) ?_
  unfold c4
  simp [h1]
  first
    | refine callk rfl Try.call20 speaks_p rfl ?_
    | refine callks rfl Try.call20 speaks_p rfl ?_
    | refine callq rfl Try.call20 speaks_p rfl ?_
    | refine callqe rfl Try.call20 speaks_p rfl ?_
  simp
theorem follows_wrong (t : List Ev) (ht : ¬ 60 < t.length) (h0 : ¬ checkT t = 0) : PureS Try.prog 4 [.sl 26 (t.map Ev.row)] (.b true) := by
  have h1 : ¬ (60 : Int) < (t.length : Int) := by omega
  refine fun_go hmx Try.func4 r4 s4 (by rw [Try.ntmps4]; simp) ?_
  unfold c4
  simp [h1]
  first
    | refine callk rfl Try.call21 (edges_q t (by omega)) rfl ?_
    | refine callks rfl Try.call21 (edges_q t (by omega)) rfl ?_
    | refine callq rfl Try.call21 (edges_q t (by omega)) rfl ?_
    | refine callqe rfl Try.call21 (edges_q t (by omega)) rfl ?_
  simp [h0]
  first
    | refine callk rfl Try.call22 (checkR_p t (by omega)) rfl ?_
    | refine callks rfl Try.call22 (checkR_p t (by omega)) rfl ?_
    | refine callq rfl Try.call22 (checkR_p t (by omega)) rfl ?_
    | refine callqe rfl Try.call22 (checkR_p t (by omega)) rfl ?_
  simp [h0]
  first
    | refine callkg rfl Try.call20 rfl (fun _ => speaks_p) (fun hG => by first | (simp; done) | (simp at hG; done) | simpa using hG) rfl ?_
    | refine callksg rfl Try.call20 rfl (fun _ => speaks_p) (fun hG => by first | (simp; done) | (simp at hG; done) | simpa using hG) rfl ?_
    | refine callqg rfl Try.call20 rfl (fun _ => speaks_p) (fun hG => by first | (simp; done) | (simp at hG; done) | simpa using hG) rfl ?_
  simp
theorem follows_ok (t : List Ev) (ht : ¬ 60 < t.length) (h0 : checkT t = 0) : PureS Try.prog 4 [.sl 26 (t.map Ev.row)] (.b true) := by
  have h1 : ¬ (60 : Int) < (t.length : Int) := by omega
  have h := good_of h0
  have hl := h.len
  have hE0 := edR_len (befT t) t.length t.length
  have hnn : t.length * t.length ≤ 256 * 256 := Nat.mul_le_mul hl hl
  refine fun_go hmx Try.func4 r4 s4 (by rw [Try.ntmps4]; simp) ?_
  unfold c4
  simp [h1]
  first
    | refine callk rfl Try.call21 (edges_q t (by omega)) rfl ?_
    | refine callks rfl Try.call21 (edges_q t (by omega)) rfl ?_
    | refine callq rfl Try.call21 (edges_q t (by omega)) rfl ?_
    | refine callqe rfl Try.call21 (edges_q t (by omega)) rfl ?_
  simp [h0]
  first
    | refine callk rfl Try.call22 (checkR_p t (by omega)) rfl ?_
    | refine callks rfl Try.call22 (checkR_p t (by omega)) rfl ?_
    | refine callq rfl Try.call22 (checkR_p t (by omega)) rfl ?_
    | refine callqe rfl Try.call22 (checkR_p t (by omega)) rfl ?_
  simp [h0]
  refine ⟨by omega, ?_⟩
  have hEm : ∀ e ∈ edR (befT t) t.length t.length, e.1 < e.2 ∧ e.2 < t.length := fun e he => by
    obtain ⟨i, j⟩ := e
    have := edR_mem.1 he
    exact ⟨this.2.1, this.2.2.1⟩
  have hF : mat t.length (fol (edR (befT t) t.length t.length)) = mat t.length (befT t) := mat_congr fun i k hi hk => fol_all h hi hk
  generalize edR (befT t) t.length t.length = E at *
  refine go_count hmx 7 0 t.length (fun i h => h = .arr 0 1 (refsTo t.length i) :: mats (List.replicate i (List.replicate t.length false))) (Nat.zero_le _) (by omega) rfl (by simp [refsTo_zero, vrows, mats]) ?_ ?_
  · rintro i h - hil rfl hw
    have hI : (i : Int) < (t.length : Int) := by omega
    simp [hI, hil, refsTo_get]
    refine ⟨⟨by omega, by omega⟩, hw, refsTo_set hil, ?_⟩
    rw [List.replicate_succ', ← mats_app]
    simp [vrows, brow]
  rintro h' rfl
  simp
  have hM0 : List.replicate t.length (List.replicate t.length false) = mat t.length (fol []) := by
    apply List.ext_getElem (by simp)
    intro k h1 h2
    simp only [List.getElem_replicate, mat, List.getElem_map]
    apply List.ext_getElem (by simp)
    intro q h3 h4
    simp [fol]
  rw [hM0]
  refine go_count hmx 8 0 E.length (fun i h => h = .arr 0 1 (refsTo t.length t.length) :: mats (mat t.length (fol []))) (Nat.zero_le _) (by omega) rfl rfl ?_ ?_
  · rintro i h - hil rfl hw
    have hI : (i : Int) < (E.length : Int) := by omega
    have hem := hEm _ (List.getElem_mem hil)
    obtain ⟨⟨a, b⟩, he⟩ : ∃ e, E[i] = e := ⟨_, rfl⟩
    rw [he] at hem
    simp only at hem
    have hA : ¬ (a : Int) < 0 := by omega
    have hB : ¬ (b : Int) ≤ (a : Int) := by omega
    have hC : ¬ (t.length : Int) ≤ (b : Int) := by omega
    simp [hI, hil, he, pnatR, hA, hB, hC]
    exact hw
  rintro h' rfl
  have hw0 : IntKind.i64.wrap ((E.length : Int) - 1) = (E.length : Int) - 1 := wrap_in (by omega) (by omega)
  simp [hw0]
  refine go_rounds hmx (fun (m : Nat) σ' => m ≤ E.length ∧ σ' = ⟨[(0, .v (.sl 26 (t.map Ev.row))), (3, .v (.sl 2 (E.map pnatR))), (4, .v (.i .i64 0)), (5, .v (.i .i64 (t.length : Int))), (6, .os 0 0), (9, .v (.i .i64 ((m : Int) - 1)))], .arr 0 1 (refsTo t.length t.length) :: mats (mat t.length (fol (E.drop m)))⟩) (fun m => m) E.length ⟨Nat.le_refl _, by rw [List.drop_length]⟩ ?_
  rintro m _ ⟨hm, rfl⟩
  cases m with
  | zero =>
    rw [List.drop_zero, hF]
    simp
    refine go_count hmx 13 0 t.length (fun i h => h = .arr 0 1 (refsTo t.length t.length) :: mats (mat t.length (befT t))) (Nat.zero_le _) (by omega) rfl rfl ?_ ?_
    · rintro i h' - hil rfl hwi
      have hI : (i : Int) < (t.length : Int) := by omega
      simp [hI]
      refine go_count hmx 14 0 t.length (fun j h => h = .arr 0 1 (refsTo t.length t.length) :: mats (mat t.length (befT t))) (Nat.zero_le _) (by omega) rfl rfl ?_ ?_
      · rintro j h' - hjl rfl hwj
        have hJ : (j : Int) < (t.length : Int) := by omega
        have hA2 : askT t [(i : Int), (j : Int)] = 0 := ask_right h0 (by simp; omega)
        simp [hJ]
        first
          | refine callk rfl Try.call23 (before_all t (by omega) i j) rfl ?_
          | refine callks rfl Try.call23 (before_all t (by omega) i j) rfl ?_
          | refine callq rfl Try.call23 (before_all t (by omega) i j) rfl ?_
          | refine callqe rfl Try.call23 (before_all t (by omega) i j) rfl ?_
        simp [hA2, hI, hJ, hil, hjl, refsTo_get, mats_at, mat_at, vrows_at, brow]
        refine ⟨fun hij hg => chain_bef h hij hjl ?_, fun _ => hwj⟩
        rw [List.getD_eq_getElem?_getD, List.getD_eq_getElem?_getD, List.getElem?_eq_getElem hil, List.getElem?_eq_getElem hjl]
        exact hg
      · rintro h' rfl
        simp
        exact hwi
    · rintro h' rfl
      simp
      first
        | refine callkg rfl Try.call20 rfl (fun _ => speaks_p) (fun hG => by first | (simp; done) | (simp at hG; done) | simpa using hG) rfl ?_
        | refine callksg rfl Try.call20 rfl (fun _ => speaks_p) (fun hG => by first | (simp; done) | (simp at hG; done) | simpa using hG) rfl ?_
        | refine callqg rfl Try.call20 rfl (fun _ => speaks_p) (fun hG => by first | (simp; done) | (simp at hG; done) | simpa using hG) rfl ?_
      simp
  | succ m =>
    have hwm : IntKind.i64.wrap ((m : Int) - 1) = (m : Int) - 1 := wrap_in (by omega) (by omega)
    have hm1 : ((m : Nat) : Int) + 1 - 1 = (m : Int) := by omega
    have hml : m < E.length := by omega
    have hMI : (m : Int) < (E.length : Int) := by omega
    have hem := hEm _ (List.getElem_mem hml)
    have hdr : E.drop m = E[m] :: E.drop (m + 1) := List.drop_eq_getElem_cons hml
    obtain ⟨⟨a, b⟩, he⟩ : ∃ e, E[m] = e := ⟨_, rfl⟩
    rw [he] at hem hdr
    simp only at hem
    have hal : a < t.length := by omega
    have hbl : b < t.length := hem.2
    have hA : (a : Int) < (t.length : Int) := by omega
    have hB : (b : Int) < (t.length : Int) := by omega
    simp [hm1, hml, hMI, he, pnatR, hal, hbl, hA, hB, refsTo_get, mats_at, mat_at, vrows_at, brow]
    refine go_count hmx 12 0 t.length (fun k h => h = .arr 0 1 (refsTo t.length t.length) :: mats (mat t.length (orM (updM (fol (E.drop (m + 1))) a b true) a b k))) (Nat.zero_le _) (by omega) rfl ?_ ?_ ?_
    · have := heap_set (n := t.length) (f := fol (E.drop (m + 1))) (a := a) (b := b) (x := true)
      rw [orM_zero, ← this]
      simp [brow]
    · rintro k h' - hkl rfl hwk
      have hK : (k : Int) < (t.length : Int) := by omega
      have hhs := heap_set (n := t.length) (f := orM (updM (fol (E.drop (m + 1))) a b true) a b k) (a := a) (b := k) (x := orM (updM (fol (E.drop (m + 1))) a b true) a b k a k || orM (updM (fol (E.drop (m + 1))) a b true) a b k b k)
      rw [orM_step (by omega)] at hhs
      generalize updM (fol (E.drop (m + 1))) a b true = G at *
      simp [hK, hkl, hal, hbl, hA, hB, refsTo_get, mats_at, mat_at, vrows_at, brow]
      exact ⟨hwk, by rw [← hhs]; simp⟩
    · rintro h' rfl
      simp [hwm]
      refine ⟨m, ⟨by omega, rfl, ?_⟩, by omega⟩
      rw [orM_all (by omega), hdr]
theorem orderFollows (t : List Ev) (ht : t.length < 1000000000000) : PureS Try.prog 4 [.sl 26 (t.map Ev.row)] (.b true) := by
  by_cases h1 : 60 < t.length
  · exact follows_long t ht h1
  by_cases h0 : checkT t = 0
  · exact follows_ok t h1 h0
  · exact follows_wrong t h1 h0
end Go.Sc.Or
