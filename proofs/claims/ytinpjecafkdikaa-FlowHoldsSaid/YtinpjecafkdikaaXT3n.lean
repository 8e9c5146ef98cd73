/- Chapter 03: what is wrong with a program, by the document: both texts say the same. No condition. -/
import Derived.Test.YtinpjecafkdikaaXT3m
set_option linter.constructorNameAsVariable false
namespace Go.Sc.Q03
open Go Go.RowKit Go.Av Go.Proofs
set_option linter.unusedSimpArgs false
set_option linter.unusedVariables false
/-- scarab/scarabref03.Check -/
def c50 : ACode :=
  (.seq (.reg none [⟨some 1, none, .m (.box (.t 0))⟩, ⟨some 2, none, .q (.mv (.c (.i .i64 0)))⟩, ⟨some 3, none, .m (.alloc (.g [(.i .i64 0), (.i .i64 0)]))⟩])
  (.keep [1, 3]
  (.seq (.seq (.reg none [⟨some 12, none, .q (.fa 0 (.t 1))⟩, ⟨some 13, none, .q (.ld none (.t 12))⟩, ⟨some 14, none, .q (.len false (.t 13))⟩, ⟨some 15, none, .q (.bin .gtr (.t 14) (.c (.i .i64 8)))⟩, ⟨some 16, none, .q (.mv (.t 15))⟩, ⟨some 17, some (16, false), .q (.fa 1 (.t 1))⟩, ⟨some 18, some (16, false), .q (.ld none (.t 17))⟩, ⟨some 19, some (16, false), .q (.bin .lss (.t 18) (.c (.i .i64 0)))⟩, ⟨some 20, none, .pk (.t 16) (.c (.b true)) (.t 19)⟩, ⟨some 21, none, .q (.mv (.t 20))⟩, ⟨some 22, some (21, false), .q (.fa 1 (.t 1))⟩, ⟨some 23, some (21, false), .q (.ld none (.t 22))⟩, ⟨some 24, some (21, false), .q (.bin .gtr (.t 23) (.c (.i .i64 4)))⟩, ⟨some 25, none, .pk (.t 21) (.c (.b true)) (.t 24)⟩, ⟨some 26, none, .q (.mv (.t 25))⟩, ⟨some 27, some (26, false), .q (.fa 2 (.t 1))⟩, ⟨some 28, some (26, false), .q (.ld none (.t 27))⟩, ⟨some 29, some (26, false), .q (.len false (.t 28))⟩, ⟨some 30, some (26, false), .q (.bin .gtr (.t 29) (.c (.i .i64 4)))⟩, ⟨some 31, none, .pk (.t 26) (.c (.b true)) (.t 30)⟩, ⟨some 32, none, .q (.mv (.t 31))⟩, ⟨some 33, some (32, false), .q (.fa 3 (.t 1))⟩, ⟨some 34, some (32, false), .q (.ld none (.t 33))⟩, ⟨some 35, some (32, false), .q (.len false (.t 34))⟩, ⟨some 36, some (32, false), .q (.bin .lss (.t 35) (.c (.i .i64 1)))⟩, ⟨some 37, none, .pk (.t 32) (.c (.b true)) (.t 36)⟩, ⟨some 38, none, .q (.mv (.t 37))⟩, ⟨some 39, some (38, false), .q (.fa 3 (.t 1))⟩, ⟨some 40, some (38, false), .q (.ld none (.t 39))⟩, ⟨some 41, some (38, false), .q (.len false (.t 40))⟩, ⟨some 42, some (38, false), .q (.bin .gtr (.t 41) (.c (.i .i64 8)))⟩, ⟨some 43, none, .pk (.t 38) (.c (.b true)) (.t 42)⟩])
    (.keep [1, 3, 43]
    (.cond (.t 43) (.seq (.reg none [⟨some 44, none, .q (.bld [(.i .i64 0), (.i .i64 0)] [])⟩, ⟨some 2, none, .q (.mv (.c (.i .i64 30)))⟩, ⟨none, none, .m (.st 2 (.t 3) (.t 44))⟩])
      .ret)
    .skip)))
  (.seq (.seq (.reg none [⟨some 45, none, .q (.fa 2 (.t 1))⟩, ⟨some 46, none, .q (.ld none (.t 45))⟩, ⟨some 47, none, .q (.len false (.t 46))⟩, ⟨some 48, none, .q (.mv (.c (.i .i64 0)))⟩])
    (.keep [1, 3, 46, 47, 48]
    (.blk 0 (.keep [1, 3, 46, 47, 48]
    (.loop (.fin [1, 3, 46, 47, 48]
      (.seq (.reg none [⟨some 49, none, .q (.bin .lss (.t 48) (.t 47))⟩])
      (.keep [1, 3, 46, 47, 48, 49]
      (.seq (.cond (.t 49) .skip
        (.exit 0))
      (.seq (.blk 1 (.seq (.reg none [⟨some 50, none, .q (.ias 1 (.t 46) (.t 48))⟩, ⟨some 51, none, .q (.ld none (.t 50))⟩, ⟨some 5, none, .q (.mv (.t 51))⟩])
        (.keep [1, 3, 5, 46, 47, 48]
        (.seq (.reg none [⟨some 52, none, .q (.mv (.t 5))⟩, ⟨some 53, none, .q (.bin .lss (.t 52) (.c (.i .i64 0)))⟩, ⟨some 54, none, .q (.mv (.t 53))⟩, ⟨some 55, some (54, false), .q (.mv (.t 5))⟩, ⟨some 56, some (54, false), .q (.bin .gtr (.t 55) (.c (.i .i64 4)))⟩, ⟨some 57, none, .pk (.t 54) (.c (.b true)) (.t 56)⟩])
        (.keep [1, 3, 46, 47, 48, 57]
        (.cond (.t 57) (.seq (.reg none [⟨some 58, none, .q (.bld [(.i .i64 0), (.i .i64 0)] [])⟩, ⟨some 2, none, .q (.mv (.c (.i .i64 31)))⟩, ⟨none, none, .m (.st 2 (.t 3) (.t 58))⟩])
          .ret)
        .skip))))))
      (.keep [1, 3, 46, 47, 48]
      (.reg none [⟨some 59, none, .q (.bin .add (.t 48) (.c (.i .i64 1)))⟩, ⟨some 48, none, .q (.mv (.t 59))⟩]))))))))))))
  (.seq (.seq (.reg none [⟨some 60, none, .q (.fa 3 (.t 1))⟩, ⟨some 61, none, .q (.ld none (.t 60))⟩, ⟨some 62, none, .q (.len false (.t 61))⟩, ⟨some 63, none, .q (.mv (.c (.i .i64 0)))⟩])
    (.keep [1, 3, 61, 62, 63]
    (.blk 2 (.keep [1, 3, 61, 62, 63]
    (.loop (.fin [1, 3, 61, 62, 63]
      (.seq (.reg none [⟨some 64, none, .q (.bin .lss (.t 63) (.t 62))⟩])
      (.keep [1, 3, 61, 62, 63, 64]
      (.seq (.cond (.t 64) .skip
        (.exit 2))
      (.seq (.blk 3 (.seq (.reg none [⟨some 65, none, .q (.mv (.t 63))⟩, ⟨some 66, none, .q (.ias 4 (.t 61) (.t 63))⟩, ⟨some 67, none, .q (.ld (some 4) (.t 66))⟩, ⟨some 7, none, .m (.alloc (.g [(.i .i64 0), (.i .i64 0), .nil, .nil]))⟩, ⟨some 6, none, .q (.mv (.t 65))⟩, ⟨none, none, .m (.st 4 (.t 7) (.t 67))⟩])
        (.keep [1, 3, 6, 7, 61, 62, 63]
        (.seq (.seq (.reg none [⟨some 68, none, .q (.mv (.t 6))⟩, ⟨some 69, none, .q (.ld (some 4) (.t 7))⟩, ⟨some 70, none, .call (.f 60) [(.t 68), (.t 69)]⟩, ⟨some 71, none, .q (.un .not (.t 70))⟩])
          (.keep [1, 3, 6, 7, 61, 62, 63, 71]
          (.cond (.t 71) (.seq (.reg none [⟨some 72, none, .q (.mv (.t 6))⟩, ⟨some 73, none, .q (.bld [(.i .i64 0), (.i .i64 0)] [(0, 1, .t 72)])⟩, ⟨some 2, none, .q (.mv (.c (.i .i64 32)))⟩, ⟨none, none, .m (.st 2 (.t 3) (.t 73))⟩])
            .ret)
          .skip)))
        (.seq (.reg none [⟨some 74, none, .q (.ld (some 4) (.t 1))⟩, ⟨some 75, none, .q (.ld (some 4) (.t 7))⟩, ⟨some 76, none, .call (.f 61) [(.t 74), (.t 75)]⟩, ⟨some 8, none, .q (.mv (.t 76))⟩])
        (.keep [1, 3, 6, 7, 8, 61, 62, 63]
        (.seq (.seq (.reg none [⟨some 77, none, .q (.mv (.t 8))⟩, ⟨some 78, none, .q (.bin .neq (.t 77) (.c (.i .i64 0)))⟩])
          (.keep [1, 3, 6, 7, 8, 61, 62, 63, 78]
          (.cond (.t 78) (.seq (.reg none [⟨some 79, none, .q (.mv (.t 8))⟩, ⟨some 80, none, .q (.mv (.t 6))⟩, ⟨some 81, none, .q (.bld [(.i .i64 0), (.i .i64 0)] [(0, 1, .t 80)])⟩, ⟨some 2, none, .q (.mv (.t 79))⟩, ⟨none, none, .m (.st 2 (.t 3) (.t 81))⟩])
            .ret)
          .skip)))
        (.seq (.seq (.reg none [⟨some 82, none, .q (.fa 2 (.t 7))⟩, ⟨some 83, none, .q (.ld none (.t 82))⟩, ⟨some 84, none, .q (.len false (.t 83))⟩, ⟨some 85, none, .q (.mv (.c (.i .i64 0)))⟩])
          (.keep [1, 3, 6, 7, 61, 62, 63, 83, 84, 85]
          (.blk 4 (.keep [1, 3, 6, 7, 61, 62, 63, 83, 84, 85]
          (.loop (.fin [1, 3, 6, 7, 61, 62, 63, 83, 84, 85]
            (.seq (.reg none [⟨some 86, none, .q (.bin .lss (.t 85) (.t 84))⟩])
            (.keep [1, 3, 6, 7, 61, 62, 63, 83, 84, 85, 86]
            (.seq (.cond (.t 86) .skip
              (.exit 4))
            (.seq (.blk 5 (.seq (.reg none [⟨some 87, none, .q (.mv (.t 85))⟩, ⟨some 88, none, .q (.ias 5 (.t 83) (.t 85))⟩, ⟨some 89, none, .q (.ld (some 5) (.t 88))⟩, ⟨some 10, none, .m (.alloc (.g [(.i .i64 0), (.i .i64 0), (.i .i64 0), (.i .i64 0), (.i .i64 0)]))⟩, ⟨some 9, none, .q (.mv (.t 87))⟩, ⟨none, none, .m (.st 5 (.t 10) (.t 89))⟩])
              (.keep [1, 3, 6, 7, 9, 10, 61, 62, 63, 83, 84, 85]
              (.seq (.reg none [⟨some 90, none, .q (.ld (some 4) (.t 1))⟩, ⟨some 91, none, .q (.ld (some 4) (.t 7))⟩, ⟨some 92, none, .q (.ld (some 5) (.t 10))⟩, ⟨some 93, none, .call (.f 62) [(.t 90), (.t 91), (.t 92)]⟩, ⟨some 8, none, .q (.mv (.t 93))⟩])
              (.keep [1, 3, 6, 7, 8, 9, 61, 62, 63, 83, 84, 85]
              (.seq (.reg none [⟨some 94, none, .q (.mv (.t 8))⟩, ⟨some 95, none, .q (.bin .neq (.t 94) (.c (.i .i64 0)))⟩])
              (.keep [1, 3, 6, 7, 8, 9, 61, 62, 63, 83, 84, 85, 95]
              (.cond (.t 95) (.seq (.reg none [⟨some 96, none, .q (.mv (.t 8))⟩, ⟨some 97, none, .q (.mv (.t 6))⟩, ⟨some 98, none, .q (.mv (.t 9))⟩, ⟨some 99, none, .q (.bld [(.i .i64 0), (.i .i64 0)] [(0, 1, .t 97), (1, 1, .t 98)])⟩, ⟨some 2, none, .q (.mv (.t 96))⟩, ⟨none, none, .m (.st 2 (.t 3) (.t 99))⟩])
                .ret)
              .skip))))))))
            (.keep [1, 3, 6, 7, 61, 62, 63, 83, 84, 85]
            (.reg none [⟨some 100, none, .q (.bin .add (.t 85) (.c (.i .i64 1)))⟩, ⟨some 85, none, .q (.mv (.t 100))⟩]))))))))))))
        (.seq (.reg none [⟨some 101, none, .q (.fa 2 (.t 7))⟩, ⟨some 102, none, .q (.ld none (.t 101))⟩, ⟨some 103, none, .q (.fa 2 (.t 7))⟩, ⟨some 104, none, .q (.ld none (.t 103))⟩, ⟨some 105, none, .q (.len false (.t 104))⟩, ⟨some 106, none, .q (.bin .sub (.t 105) (.c (.i .i64 1)))⟩, ⟨some 107, none, .q (.ias 5 (.t 102) (.t 106))⟩, ⟨some 108, none, .q (.fa 0 (.t 107))⟩, ⟨some 109, none, .q (.ld none (.t 108))⟩, ⟨some 11, none, .q (.mv (.t 109))⟩])
        (.keep [1, 3, 6, 7, 11, 61, 62, 63]
        (.seq (.reg none [⟨some 110, none, .q (.mv (.t 11))⟩, ⟨some 111, none, .q (.bin .neq (.t 110) (.c (.i .i64 42)))⟩, ⟨some 112, none, .q (.mv (.t 111))⟩, ⟨some 113, some (112, true), .q (.mv (.t 11))⟩, ⟨some 114, some (112, true), .q (.bin .neq (.t 113) (.c (.i .i64 45)))⟩, ⟨some 115, none, .pk (.t 112) (.t 114) (.c (.b false))⟩, ⟨some 116, none, .q (.mv (.t 115))⟩, ⟨some 117, some (116, true), .q (.mv (.t 11))⟩, ⟨some 118, some (116, true), .q (.bin .neq (.t 117) (.c (.i .i64 61)))⟩, ⟨some 119, none, .pk (.t 116) (.t 118) (.c (.b false))⟩])
        (.keep [1, 3, 6, 7, 61, 62, 63, 119]
        (.cond (.t 119) (.seq (.reg (some (7, [])) [⟨some 120, none, .q (.mv (.t 6))⟩, ⟨some 121, none, .q (.fa 2 (.t 7))⟩, ⟨some 122, none, .q (.ld none (.t 121))⟩, ⟨some 123, none, .q (.len false (.t 122))⟩, ⟨some 124, none, .q (.bin .sub (.t 123) (.c (.i .i64 1)))⟩, ⟨some 125, none, .q (.bld [(.i .i64 0), (.i .i64 0)] [(0, 1, .t 120), (1, 1, .t 124)])⟩, ⟨some 2, none, .q (.mv (.c (.i .i64 39)))⟩, ⟨none, none, .m (.st 2 (.t 3) (.t 125))⟩])
          .ret)
        .skip)))))))))))))
      (.keep [1, 3, 61, 62, 63]
      (.reg none [⟨some 126, none, .q (.bin .add (.t 63) (.c (.i .i64 1)))⟩, ⟨some 63, none, .q (.mv (.t 126))⟩]))))))))))))
  (.seq (.reg none [⟨some 127, none, .q (.bld [(.i .i64 0), (.i .i64 0)] [])⟩, ⟨some 2, none, .q (.mv (.c (.i .i64 0)))⟩, ⟨none, none, .m (.st 2 (.t 3) (.t 127))⟩])
  .ret))))))
theorem r50 : (Try.f50.body.bind (resC Try.prog Try.f50.ntmps)) = some (strip c50) := by kernel_rfl
theorem s50 : Try.f50.results.toList.mapM (resRes Try.prog) = some [.t 2, .c 3 (some 2)] := by kernel_rfl
/-- scarab/scarabref03.Right -/
def c22 : ACode :=
  (.seq (.reg none [⟨some 1, none, .m (.box (.t 0))⟩, ⟨some 2, none, .q (.mv (.c (.b false)))⟩])
  (.keep [1]
  (.seq (.reg none [⟨some 6, none, .q (.ld (some 4) (.t 1))⟩, ⟨some 7, none, .call (.f 50) [(.t 6)]⟩, ⟨some 5, none, .q (.mv (.t 7))⟩, ⟨some 8, none, .q (.ext 0 (.t 5))⟩, ⟨some 9, none, .q (.ext 1 (.t 5))⟩, ⟨some 4, none, .m (.alloc (.g [(.i .i64 0), (.i .i64 0)]))⟩, ⟨some 3, none, .q (.mv (.t 8))⟩, ⟨none, none, .m (.st 2 (.t 4) (.t 9))⟩])
  (.keep [3]
  (.seq (.reg none [⟨some 10, none, .q (.mv (.t 3))⟩, ⟨some 11, none, .q (.bin .eql (.t 10) (.c (.i .i64 0)))⟩, ⟨some 2, none, .q (.mv (.t 11))⟩])
  .ret)))))
theorem r22 : (Try.f22.body.bind (resC Try.prog Try.f22.ntmps)) = some (strip c22) := by kernel_rfl
theorem s22 : Try.f22.results.toList.mapM (resRes Try.prog) = some [.t 2] := by kernel_rfl

theorem check46 (p : Prog) (hp : p.Ok) : PureS Try.prog 50 [.g p.row] (told (check p)) := by
  refine fun_go hmx Try.func50 r50 s50 (by rw [Try.ntmps50]; simp) ?_
  unfold c50
  simp [Prog.row]
  refine ⟨fun h => ?_, fun a b c d e g => ?_⟩
  · have e : wholeE p = 30 := by rw [wholeE, if_pos (by omega)]
    rw [check, if_pos (by rw [e]; decide), e]
    rfl
  have hE : wholeE p = firstE (fun n : Int => if n < 0 ∨ 4 < n then 31 else 0) p.chans := by rw [wholeE, if_neg (by omega)]
  refine go_count hmx 48 0 p.chans.length (fun i h => h = [AObj.var (p.row.map .v), AObj.var [.v (.i .i64 0), .v (.i .i64 0)]] ∧ firstE (fun n : Int => if n < 0 ∨ 4 < n then 31 else 0) p.chans = firstE (fun n : Int => if n < 0 ∨ 4 < n then 31 else 0) (p.chans.drop i)) (Nat.zero_le _) (hp.fewc.lt (by decide)) rfl ⟨rfl, rfl⟩ ?_ ?_
  · rintro i _ - hlt ⟨rfl, hj⟩ hw
    obtain ⟨h1, h2⟩ := firstE_at hj hlt
    generalize hx' : p.chans[i] = x at *
    simp [hlt, hx', hw, irow, Prog.row]
    refine ⟨fun h => ?_, fun k1 k2 => h2 (by rw [if_neg (by omega)])⟩
    have e : wholeE p = 31 := by rw [hE, h1 (by rw [if_pos h]; decide), if_pos h]
    rw [check, if_pos (by rw [e]; decide), e]
    rfl
  rintro _ ⟨rfl, hj⟩
  have h := firstE_end hj
  rw [← hE] at h
  have hC : check p = firstT (funcT p) 0 p.funcs := by rw [check, if_neg (by simpa using h)]
  rw [hC]
  simp [Prog.row]
  refine go_count hmx 63 0 p.funcs.length (fun i h => (∃ K, h = AObj.var (p.row.map .v) :: AObj.var [.v (.i .i64 0), .v (.i .i64 0)] :: K) ∧ firstT (funcT p) 0 p.funcs = firstT (funcT p) i (p.funcs.drop i)) (Nat.zero_le _) (hp.fewf.lt (by decide)) rfl ⟨⟨_, rfl⟩, rfl⟩ ?_ ?_
  · rintro i _ - hlt ⟨⟨K, rfl⟩, hj⟩ hw
    obtain ⟨h1, h2⟩ := firstT_at hj hlt
    have hok := hp.funcs p.funcs[i] (List.getElem_mem hlt)
    have hm : ((i : Int) == 0) = (i == 0) := by rw [Bool.eq_iff_iff]; simp
    generalize hx' : p.funcs[i] = f at *
    simp [hlt, hx', hw, Func.row, Prog.row]
    refine callk rfl Try.call60 (formed59 (i : Int) f hok) rfl ?_
    rw [hm]
    simp
    constructor
    · intro hF
      have e : funcT p i f = (32, (i : Int), 0) := by rw [funcT, if_pos hF]
      rw [h1 (by rw [e]; exact (by decide : (32 : Int) ≠ 0)), e]
      simp [told]
    intro hF
    refine callk rfl Try.call61 (selects60 p f hok) rfl ?_
    simp
    constructor
    · intro hS
      have e : funcT p i f = (selsE p f, (i : Int), 0) := by rw [funcT, if_neg (by rw [hF]; decide), if_pos hS]
      rw [h1 (by rw [e]; exact hS), e]
      simp [told]
    intro hS
    refine go_count hmx 85 0 f.code.length (fun j h => (∃ K', h = AObj.var (p.row.map .v) :: AObj.var [.v (.i .i64 0), .v (.i .i64 0)] :: (K ++ AObj.var (f.row.map .v) :: K')) ∧ codeT p f i = firstT (fun pc x => (insE p f x, (i : Int), (pc : Int))) j (f.code.drop j)) (Nat.zero_le _) (hok.few.lt (by decide)) rfl ⟨⟨_, rfl⟩, rfl⟩ ?_ ?_
    · rintro j _ - hlt2 ⟨⟨K', rfl⟩, hj2⟩ hw2
      obtain ⟨k1, k2⟩ := firstT_at hj2 hlt2
      generalize hx2 : f.code[j] = x at *
      simp [hlt2, hx2, hw2, Func.row, Prog.row, Instr.row]
      refine callk rfl Try.call62 (instr61 p f x) rfl ?_
      simp
      constructor
      · intro hI
        have e2 : codeT p f i = (insE p f x, (i : Int), (j : Int)) := k1 hI
        have e : funcT p i f = (insE p f x, (i : Int), (j : Int)) := by rw [funcT, if_neg (by rw [hF]; decide), if_neg (by simpa using hS), if_pos (by rw [e2]; exact hI), e2]
        rw [h1 (by rw [e]; exact hI), e]
        simp [told]
      · intro hI
        exact ⟨hw2, k2 hI⟩
    rintro _ ⟨⟨K', rfl⟩, hj2⟩
    have hz : codeT p f i = (0, 0, 0) := firstT_end hj2
    have hlen : 1 ≤ f.code.length ∧ f.code.length ≤ 64 := by
      rw [formed, Bool.and_eq_true, decide_eq_true_eq] at hF
      exact ⟨hF.1.2.2.2.2.2.1, hF.1.2.2.2.2.2.2.1⟩
    have hwl : IntKind.i64.wrap ((f.code.length : Int) - 1) = ((f.code.length - 1 : Nat) : Int) := by rw [wrap_in (by omega) (by omega)]; omega
    have hll : f.code.length - 1 < f.code.length := by omega
    have hlo : lastOp f = f.code[f.code.length - 1].op := by rw [lastOp]; simp [hll]
    simp [hwl, hll, Func.row, Prog.row, Instr.row]
    rw [← hlo]
    have eg : lastOp f = 42 ∨ lastOp f = 45 ∨ lastOp f = 61 → funcT p i f = (0, 0, 0) := fun u => by
      rw [funcT, if_neg (by rw [hF]; decide), if_neg (by simpa using hS), if_neg (by rw [hz]; decide), if_pos u]
    have eb : ¬ (lastOp f = 42 ∨ lastOp f = 45 ∨ lastOp f = 61) → funcT p i f = (39, (i : Int), ((f.code.length - 1 : Nat) : Int)) := fun u => by
      rw [funcT, if_neg (by rw [hF]; decide), if_neg (by simpa using hS), if_neg (by rw [hz]; decide), if_neg u]
    have ok : lastOp f = 42 ∨ lastOp f = 45 ∨ lastOp f = 61 → IntKind.i64.wrap ((i : Int) + 1) = (i : Int) + 1 ∧ firstT (funcT p) 0 p.funcs = firstT (funcT p) (i + 1) (List.drop (i + 1) p.funcs) := fun u => ⟨hw, h2 (by rw [eg u])⟩
    refine ⟨fun u v w => ?_, fun u => ok (by omega)⟩
    have e := eb (by rintro (x | x | x); exact u x; exact v x; exact w x)
    rw [h1 (by rw [e]; exact (by decide : (39 : Int) ≠ 0)), e]
    rfl
  rintro _ ⟨⟨K, rfl⟩, hj⟩
  rw [firstT_end hj]
  simp [told]

theorem right22 (p : Prog) (hp : p.Ok) : PureS Try.prog 22 [.g p.row] (.b (decide ((check p).1 = 0))) := by
  refine fun_go hmx Try.func22 r22 s22 (by rw [Try.ntmps22]; simp) ?_
  unfold c22
  simp [Prog.row]
  refine callk rfl Try.call50 (check46 p hp) rfl ?_
  simp [told]
  rfl
end Go.Sc.Q03
