/- Chapter 04: records read, by the program. No condition. -/
import Derived.Test.YtmgbloidhmjbfaaXCrB
import Derived.Test.YtmgbloidhmjbfaaXT3n
import Derived.Test.YtmgbloidhmjbfaaXCwA
import Derived.Test.YtmgbloidhmjbfaaXCw
import Derived.Test.YtmgbloidhmjbfaaXScDec
set_option linter.constructorNameAsVariable false
namespace Go.Sc.Cw
open Go Go.RowKit Go.Av Go.Proofs Go.Sc.Oct
set_option linter.unusedSimpArgs false
set_option linter.unusedVariables false
/-- (*scarab/code.reader).variable -/
def c86 : ACode :=
  (.seq (.reg none [⟨some 2, none, .m (.alloc (.g [(.b false), (.i .i64 0)]))⟩])
  (.keep [0, 2]
  (.seq (.reg none [⟨some 4, none, .q (.mv (.t 0))⟩, ⟨some 5, none, .call (.f 120) [(.t 4)]⟩, ⟨some 3, none, .q (.mv (.t 5))⟩])
  (.keep [0, 2, 3]
  (.seq (.reg none [⟨some 6, none, .q (.mv (.t 3))⟩, ⟨some 7, none, .q (.mv (.t 0))⟩, ⟨some 8, none, .call (.f 121) [(.t 7)]⟩, ⟨some 9, none, .q (.bld [(.b false), (.i .i64 0)] [(0, 1, .t 6), (1, 1, .t 8)])⟩, ⟨none, none, .m (.st 2 (.t 2) (.t 9))⟩])
  .ret)))))
theorem r86 : (Try.f86.body.bind (resC Try.prog Try.f86.ntmps)) = some (strip c86) := by kernel_rfl
theorem s86 : Try.f86.results.toList.mapM (resRes Try.prog) = some [.c 2 (some 2)] := by kernel_rfl
/-- (*scarab/code.reader).caseOf -/
def c151 : ACode :=
  (.seq (.reg none [⟨some 2, none, .m (.alloc (.g [(.b false), (.i .i64 0), (.i .i64 0), (.i .i64 0)]))⟩])
  (.keep [0, 2]
  (.seq (.reg none [⟨some 4, none, .q (.mv (.t 0))⟩, ⟨some 5, none, .call (.f 120) [(.t 4)]⟩, ⟨some 6, none, .q (.bld [(.b false), (.i .i64 0), (.i .i64 0), (.i .i64 0)] [(0, 1, .t 5)])⟩, ⟨some 3, none, .m (.alloc (.g [(.b false), (.i .i64 0), (.i .i64 0), (.i .i64 0)]))⟩, ⟨none, none, .m (.st 4 (.t 3) (.t 6))⟩])
  (.keep [0, 2, 3]
  (.seq (.reg none [⟨some 7, none, .q (.mv (.t 0))⟩, ⟨some 8, none, .call (.f 87) [(.t 7)]⟩, ⟨some 9, none, .q (.fa 1 (.t 3))⟩, ⟨none, none, .m (.st 1 (.t 9) (.t 8))⟩])
  (.keep [0, 2, 3]
  (.seq (.reg none [⟨some 10, none, .q (.mv (.t 0))⟩, ⟨some 11, none, .call (.f 87) [(.t 10)]⟩, ⟨some 12, none, .q (.bin .sub (.t 11) (.c (.i .i64 1)))⟩, ⟨some 13, none, .q (.fa 2 (.t 3))⟩, ⟨none, none, .m (.st 1 (.t 13) (.t 12))⟩])
  (.keep [0, 2, 3]
  (.seq (.reg none [⟨some 14, none, .q (.mv (.t 0))⟩, ⟨some 15, none, .call (.f 87) [(.t 14)]⟩, ⟨some 16, none, .q (.fa 3 (.t 3))⟩, ⟨none, none, .m (.st 1 (.t 16) (.t 15))⟩])
  (.keep [2, 3]
  (.seq (.reg none [⟨some 17, none, .q (.ld (some 4) (.t 3))⟩, ⟨none, none, .m (.st 4 (.t 2) (.t 17))⟩])
  .ret)))))))))))
theorem r151 : (Try.f151.body.bind (resC Try.prog Try.f151.ntmps)) = some (strip c151) := by kernel_rfl
theorem s151 : Try.f151.results.toList.mapM (resRes Try.prog) = some [.c 2 (some 4)] := by kernel_rfl
/-- (*scarab/code.reader).choice -/
def c123 : ACode :=
  (.seq (.reg none [⟨some 2, none, .m (.alloc (.g [.nil, (.i .i64 0)]))⟩])
  (.keep [0, 2]
  (.seq (.reg none [⟨some 4, none, .q (.mv (.t 0))⟩, ⟨some 5, none, .q (.mv (.t 0))⟩, ⟨some 6, none, .q (.mkb 151 [(.t 5)])⟩, ⟨some 7, none, .call (.f 150) [(.t 4), (.c (.i .u64 4)), (.t 6)]⟩, ⟨some 8, none, .q (.bld [.nil, (.i .i64 0)] [(0, 1, .t 7)])⟩, ⟨some 3, none, .m (.alloc (.g [.nil, (.i .i64 0)]))⟩, ⟨none, none, .m (.st 2 (.t 3) (.t 8))⟩])
  (.keep [0, 2, 3]
  (.seq (.reg none [⟨some 9, none, .q (.mv (.t 0))⟩, ⟨some 10, none, .call (.f 87) [(.t 9)]⟩, ⟨some 11, none, .q (.bin .sub (.t 10) (.c (.i .i64 1)))⟩, ⟨some 12, none, .q (.fa 1 (.t 3))⟩, ⟨none, none, .m (.st 1 (.t 12) (.t 11))⟩])
  (.keep [2, 3]
  (.seq (.reg none [⟨some 13, none, .q (.ld (some 2) (.t 3))⟩, ⟨none, none, .m (.st 2 (.t 2) (.t 13))⟩])
  .ret)))))))
theorem r123 : (Try.f123.body.bind (resC Try.prog Try.f123.ntmps)) = some (strip c123) := by kernel_rfl
theorem s123 : Try.f123.results.toList.mapM (resRes Try.prog) = some [.c 2 (some 2)] := by kernel_rfl
theorem bindP_map {α β γ : Type} (p : Pr α) (g : α → β) (f : β → Pr γ) : bindP (bindP p fun x => retP (g x)) f = bindP p fun x => f (g x) := by
  funext l
  simp only [bindP, retP]
  cases p l with
  | err e o => rfl
  | ok x n => simp
def minusP : Pr Int := bindP plainP fun x => retP (x - 1)
theorem Step.minus {bs : List UInt8} {s s' : St} {y : Int} (h : Step bs plainP s y s') : Step bs minusP s (IntKind.i64.wrap (y - 1)) s' := by
  obtain ⟨a1, a2, a3⟩ := h
  refine ⟨a1, a2, fun he => ?_⟩
  have a3 := a3 he
  simp only [minusP, bindP, retP]
  split at a3
  · rename_i x n hx
    obtain ⟨rfl, b⟩ := a3
    have := plain_ok hx
    simp only [hx]
    exact ⟨wrap_in (by omega) (by omega), by simpa using b⟩
  · rename_i er o hx
    simp only [hx]
    exact a3
theorem caseP_eq : caseP = bindP truthP fun s => bindP plainP fun c => bindP minusP fun r => bindP plainP fun t => retP ⟨s, c, r, t⟩ := by
  simp only [caseP, minusP, bindP_map]
theorem selP_eq : selP = bindP (listP 4 caseP) fun cs => bindP minusP fun e => retP ⟨cs, e⟩ := by
  simp only [selP, minusP, bindP_map]
theorem variable_r : Rd Try.prog 86 [] (fun y : Var => .g y.row) varP := by
  intro bs s hs hb
  refine fun_cut 1 hmx Try.func86 r86 s86 (by rw [Try.ntmps86]; simp) (by first | exact Nat.le_refl _ | decide | simp) ?_
  unfold c86
  simp [rrow]
  refine callf [0] rfl Try.call120 (truth_r bs s hs hb) (by decide) rfl (by simp) (by simp [rrow]) (by simp) ?_
  rintro _ _ ⟨y1, s1, rfl, rfl, h1⟩
  simp [rrow]
  refine callf [0] rfl Try.call121 (signed_r bs s1 h1.1 hb) (by decide) rfl (by simp) (by simp [rrow]) (by simp) ?_
  rintro _ _ ⟨y2, s2, rfl, rfl, h2⟩
  simp [rrow]
  exact ⟨⟨y1, y2⟩, s2, rfl, rfl, h1.bind (h2.bind (.ret h2.1 _))⟩
theorem caseOf_r : Rd Try.prog 151 [] (fun y : Case => .g y.row) caseP := by
  intro bs s hs hb
  rw [caseP_eq]
  refine fun_cut 1 hmx Try.func151 r151 s151 (by rw [Try.ntmps151]; simp) (by first | exact Nat.le_refl _ | decide | simp) ?_
  unfold c151
  simp [rrow]
  refine callf [0] rfl Try.call120 (truth_r bs s hs hb) (by decide) rfl (by simp) (by simp [rrow]) (by simp) ?_
  rintro _ _ ⟨y1, s1, rfl, rfl, h1⟩
  simp [rrow]
  refine callf [0] rfl Try.call87 (plain_r bs s1 h1.1 hb) (by decide) rfl (by simp) (by simp [rrow]) (by simp) ?_
  rintro _ _ ⟨y2, s2, rfl, rfl, h2⟩
  simp [rrow]
  refine callf [0] rfl Try.call87 (plain_r bs s2 h2.1 hb) (by decide) rfl (by simp) (by simp [rrow]) (by simp) ?_
  rintro _ _ ⟨y3, s3, rfl, rfl, h3⟩
  simp [rrow]
  refine callf [0] rfl Try.call87 (plain_r bs s3 h3.1 hb) (by decide) rfl (by simp) (by simp [rrow]) (by simp) ?_
  rintro _ _ ⟨y4, s4, rfl, rfl, h4⟩
  simp [rrow]
  exact ⟨⟨y1, y2, IntKind.i64.wrap (y3 - 1), y4⟩, s4, rfl, rfl, h1.bind (h2.bind (h3.minus.bind (h4.bind (.ret h4.1 _))))⟩
theorem choice_r : Rd Try.prog 123 [] (fun y : Select => .g y.row) selP := by
  intro bs s hs hb
  rw [selP_eq]
  refine fun_cut 1 hmx Try.func123 r123 s123 (by rw [Try.ntmps123]; simp) (by first | exact Nat.le_refl _ | decide | simp) ?_
  unfold c123
  simp [rrow]
  refine callf [0] rfl Try.call150 (list_Case Try.call151 caseOf_r 4 (by omega) bs s hs hb) (by decide) rfl (by simp) (by simp [rrow]) (by simp) ?_
  rintro _ _ ⟨y1, s1, rfl, rfl, h1⟩
  simp [rrow]
  refine callf [0] rfl Try.call87 (plain_r bs s1 h1.1 hb) (by decide) rfl (by simp) (by simp [rrow]) (by simp) ?_
  rintro _ _ ⟨y2, s2, rfl, rfl, h2⟩
  simp [rrow]
  exact ⟨⟨y1, IntKind.i64.wrap (y2 - 1)⟩, s2, rfl, rfl, h1.bind (h2.minus.bind (.ret h2.1 _))⟩
end Go.Sc.Cw
/- Chapter 04: instructions and functions read, by the program. No condition. -/
set_option linter.constructorNameAsVariable false
namespace Go.Sc.Cw
open Go Go.RowKit Go.Av Go.Proofs Go.Sc.Oct
set_option linter.unusedSimpArgs false
set_option linter.unusedVariables false
/-- (*scarab/code.reader).instr -/
def c125 : ACode :=
  (.seq (.reg none [⟨some 2, none, .m (.alloc (.g [(.i .i64 0), (.i .i64 0), (.i .i64 0), (.i .i64 0), (.i .i64 0)]))⟩])
  (.keep [0, 2]
  (.seq (.reg none [⟨some 8, none, .q (.mv (.t 0))⟩, ⟨some 9, none, .q (.nck (.t 8))⟩, ⟨some 10, none, .q (.fa 1 (.t 9))⟩, ⟨some 11, none, .q (.ld none (.t 10))⟩, ⟨some 3, none, .q (.mv (.t 11))⟩])
  (.keep [0, 2, 3]
  (.seq (.reg none [⟨some 12, none, .q (.mv (.t 0))⟩, ⟨some 13, none, .call (.f 87) [(.t 12)]⟩, ⟨some 14, none, .q (.bld [(.i .i64 0), (.i .i64 0), (.i .i64 0), (.i .i64 0), (.i .i64 0)] [(0, 1, .t 13)])⟩, ⟨some 4, none, .m (.alloc (.g [(.i .i64 0), (.i .i64 0), (.i .i64 0), (.i .i64 0), (.i .i64 0)]))⟩, ⟨none, none, .m (.st 5 (.t 4) (.t 14))⟩])
  (.keep [0, 2, 3, 4]
  (.seq (.seq (.reg none [⟨some 15, none, .q (.mv (.t 0))⟩, ⟨some 16, none, .q (.nck (.t 15))⟩, ⟨some 17, none, .q (.fa 2 (.t 16))⟩, ⟨some 18, none, .q (.ld none (.t 17))⟩, ⟨some 19, none, .q (.bin .neq (.t 18) (.c (.i .i64 0)))⟩])
    (.keep [0, 2, 3, 4, 19]
    (.cond (.t 19) (.seq (.reg none [⟨some 20, none, .q (.ld (some 5) (.t 4))⟩, ⟨none, none, .m (.st 5 (.t 2) (.t 20))⟩])
      .ret)
    .skip)))
  (.seq (.reg none [⟨some 21, none, .q (.fa 0 (.t 4))⟩, ⟨some 22, none, .q (.ld none (.t 21))⟩, ⟨some 23, none, .call (.f 130) [(.t 22)]⟩, ⟨some 5, none, .q (.mv (.t 23))⟩])
  (.keep [0, 2, 3, 4, 5]
  (.seq (.seq (.reg none [⟨some 24, none, .q (.mv (.t 5))⟩, ⟨some 25, none, .q (.bin .eql (.t 24) (.c (.s [])))⟩])
    (.keep [0, 2, 3, 4, 5, 25]
    (.cond (.t 25) (.seq (.reg none [⟨some 26, none, .q (.mv (.t 0))⟩, ⟨some 27, none, .q (.mv (.t 3))⟩, ⟨some 28, none, .call (.f 126) [(.t 26), (.c (.i .i64 33)), (.t 27)]⟩])
      (.keep [2, 4]
      (.seq (.reg none [⟨some 29, none, .q (.ld (some 5) (.t 4))⟩, ⟨none, none, .m (.st 5 (.t 2) (.t 29))⟩])
      .ret)))
    .skip)))
  (.seq (.reg none [⟨some 6, none, .m (.alloc (.g [(.i .i64 0), (.i .i64 0), (.i .i64 0), (.i .i64 0)]))⟩])
  (.keep [0, 2, 4, 5, 6]
  (.seq (.seq (.reg none [⟨some 30, none, .q (.mv (.c (.i .i64 0)))⟩])
    (.keep [0, 2, 4, 5, 6, 30]
    (.blk 0 (.keep [0, 2, 4, 5, 6, 30]
    (.loop (.fin [0, 2, 4, 5, 6, 30]
      (.seq (.reg none [⟨some 31, none, .q (.bin .lss (.t 30) (.c (.i .i64 4)))⟩])
      (.keep [0, 2, 4, 5, 6, 30, 31]
      (.seq (.cond (.t 31) .skip
        (.exit 0))
      (.seq (.blk 1 (.seq (.reg none [⟨some 32, none, .q (.mv (.t 30))⟩, ⟨some 7, none, .q (.mv (.t 32))⟩])
        (.keep [0, 2, 4, 5, 6, 7, 30]
        (.seq (.reg none [⟨some 33, none, .q (.mv (.t 5))⟩, ⟨some 34, none, .q (.mv (.t 7))⟩, ⟨some 35, none, .q (.sidx (.t 33) (.t 34))⟩])
        (.keep [0, 2, 4, 5, 6, 7, 30, 35]
        (.blk 2 (.seq (.reg none [⟨some 41, none, .q (.bin .eql (.t 35) (.c (.i .u8 45)))⟩, ⟨some 40, none, .q (.mv (.t 41))⟩])
        (.keep [0, 2, 4, 5, 6, 7, 30, 35, 40]
        (.cond (.t 40) .skip
        (.seq (.reg none [⟨some 43, none, .q (.bin .eql (.t 35) (.c (.i .u8 110)))⟩, ⟨some 42, none, .q (.mv (.t 43))⟩])
          (.keep [0, 2, 4, 5, 6, 7, 30, 35, 42]
          (.cond (.t 42) (.reg none [⟨some 44, none, .q (.mv (.t 7))⟩, ⟨some 45, none, .q (.mv (.t 0))⟩, ⟨some 46, none, .call (.f 121) [(.t 45)]⟩, ⟨some 47, none, .q (.iaa 4 1 (.t 6) (.t 44))⟩, ⟨none, none, .m (.st 1 (.t 47) (.t 46))⟩])
          (.seq (.reg none [⟨some 49, none, .q (.bin .eql (.t 35) (.c (.i .u8 111)))⟩, ⟨some 48, none, .q (.mv (.t 49))⟩])
            (.keep [0, 2, 4, 5, 6, 7, 30, 48]
            (.cond (.t 48) (.reg none [⟨some 50, none, .q (.mv (.t 7))⟩, ⟨some 51, none, .q (.mv (.t 0))⟩, ⟨some 52, none, .call (.f 87) [(.t 51)]⟩, ⟨some 53, none, .q (.bin .sub (.t 52) (.c (.i .i64 1)))⟩, ⟨some 54, none, .q (.iaa 4 1 (.t 6) (.t 50))⟩, ⟨none, none, .m (.st 1 (.t 54) (.t 53))⟩])
            (.reg none [⟨some 36, none, .q (.mv (.t 7))⟩, ⟨some 37, none, .q (.mv (.t 0))⟩, ⟨some 38, none, .call (.f 87) [(.t 37)]⟩, ⟨some 39, none, .q (.iaa 4 1 (.t 6) (.t 36))⟩, ⟨none, none, .m (.st 1 (.t 39) (.t 38))⟩]))))))))))))))))
      (.keep [0, 2, 4, 5, 6, 30]
      (.reg none [⟨some 55, none, .q (.bin .add (.t 30) (.c (.i .i64 1)))⟩, ⟨some 30, none, .q (.mv (.t 55))⟩]))))))))))))
  (.seq (.reg (some (9, [2, 3, 4, 5, 6, 7])) [⟨some 56, none, .q (.iaa 4 1 (.t 6) (.c (.i .i64 0)))⟩, ⟨some 57, none, .q (.ld none (.t 56))⟩, ⟨some 58, none, .q (.iaa 4 1 (.t 6) (.c (.i .i64 1)))⟩, ⟨some 59, none, .q (.ld none (.t 58))⟩, ⟨some 60, none, .q (.iaa 4 1 (.t 6) (.c (.i .i64 2)))⟩, ⟨some 61, none, .q (.ld none (.t 60))⟩, ⟨some 62, none, .q (.iaa 4 1 (.t 6) (.c (.i .i64 3)))⟩, ⟨some 63, none, .q (.ld none (.t 62))⟩, ⟨some 64, none, .q (.fa 1 (.t 4))⟩, ⟨none, none, .m (.st 1 (.t 64) (.t 57))⟩, ⟨some 65, none, .q (.fa 2 (.t 4))⟩, ⟨none, none, .m (.st 1 (.t 65) (.t 59))⟩, ⟨some 66, none, .q (.fa 3 (.t 4))⟩, ⟨none, none, .m (.st 1 (.t 66) (.t 61))⟩, ⟨some 67, none, .q (.fa 4 (.t 4))⟩, ⟨none, none, .m (.st 1 (.t 67) (.t 63))⟩])
  (.keep [2, 4]
  (.seq (.reg none [⟨some 68, none, .q (.ld (some 5) (.t 4))⟩, ⟨none, none, .m (.st 5 (.t 2) (.t 68))⟩])
  .ret))))))))))))))))
theorem r125 : (Try.f125.body.bind (resC Try.prog Try.f125.ntmps)) = some (strip c125) := by kernel_rfl
theorem s125 : Try.f125.results.toList.mapM (resRes Try.prog) = some [.c 2 (some 5)] := by kernel_rfl
/-- (*scarab/code.reader).fun -/
def c90 : ACode :=
  (.seq (.reg none [⟨some 2, none, .m (.alloc (.g [(.i .i64 0), (.i .i64 0), .nil, .nil]))⟩])
  (.keep [0, 2]
  (.seq (.reg none [⟨some 4, none, .q (.mv (.t 0))⟩, ⟨some 5, none, .call (.f 87) [(.t 4)]⟩, ⟨some 6, none, .q (.bld [(.i .i64 0), (.i .i64 0), .nil, .nil] [(0, 1, .t 5)])⟩, ⟨some 3, none, .m (.alloc (.g [(.i .i64 0), (.i .i64 0), .nil, .nil]))⟩, ⟨none, none, .m (.st 4 (.t 3) (.t 6))⟩])
  (.keep [0, 2, 3]
  (.seq (.reg none [⟨some 7, none, .q (.mv (.t 0))⟩, ⟨some 8, none, .call (.f 87) [(.t 7)]⟩, ⟨some 9, none, .q (.fa 1 (.t 3))⟩, ⟨none, none, .m (.st 1 (.t 9) (.t 8))⟩])
  (.keep [0, 2, 3]
  (.seq (.reg none [⟨some 10, none, .q (.mv (.t 0))⟩, ⟨some 11, none, .q (.mv (.t 0))⟩, ⟨some 12, none, .q (.mkb 123 [(.t 11)])⟩, ⟨some 13, none, .call (.f 122) [(.t 10), (.c (.i .u64 4)), (.t 12)]⟩, ⟨some 14, none, .q (.fa 3 (.t 3))⟩, ⟨none, none, .m (.st 1 (.t 14) (.t 13))⟩])
  (.keep [0, 2, 3]
  (.seq (.reg none [⟨some 15, none, .q (.mv (.t 0))⟩, ⟨some 16, none, .q (.mv (.t 0))⟩, ⟨some 17, none, .q (.mkb 125 [(.t 16)])⟩, ⟨some 18, none, .call (.f 124) [(.t 15), (.c (.i .u64 64)), (.t 17)]⟩, ⟨some 19, none, .q (.fa 2 (.t 3))⟩, ⟨none, none, .m (.st 1 (.t 19) (.t 18))⟩])
  (.keep [2, 3]
  (.seq (.reg none [⟨some 20, none, .q (.ld (some 4) (.t 3))⟩, ⟨none, none, .m (.st 4 (.t 2) (.t 20))⟩])
  .ret)))))))))))
theorem r90 : (Try.f90.body.bind (resC Try.prog Try.f90.ntmps)) = some (strip c90) := by kernel_rfl
theorem s90 : Try.f90.results.toList.mapM (resRes Try.prog) = some [.c 2 (some 4)] := by kernel_rfl
theorem Step.op_early {bs : List UInt8} {s s1 : St} {op : Int} (h : Step bs plainP s op s1) (he : s1.e ≠ 0) (y : Instr) : Step bs instrP s y s1 := by
  obtain ⟨a1, a2, a3⟩ := h
  refine ⟨a1, a2, fun h0 => ?_⟩
  have a3 := a3 h0
  simp only [instrP]
  split at a3
  · exact absurd a3.2.1 he
  · rename_i er o hx
    simp only [hx]; exact a3
theorem Step.op_none {bs : List UInt8} {s s1 : St} {op : Int} (h : Step bs plainP s op s1) (he : s1.e = 0) (hf : form op = []) (y : Instr) : Step bs instrP s y ⟨s1.pos, 33, (s.pos : Int)⟩ := by
  obtain ⟨a1, a2, a3⟩ := h
  have h0 : s.e = 0 := Classical.byContradiction fun h => h ((a2 h).1 ▸ he)
  refine ⟨a1, fun h => absurd h0 h, fun _ => ?_⟩
  have a3 := a3 h0
  simp only [instrP]
  split at a3
  · rename_i x n hx
    obtain ⟨rfl, _⟩ := a3
    simp only [hx, if_pos hf]
    exact ⟨trivial, by decide, by simp⟩
  · exact absurd (a3.1 ▸ he) a3.2.1
theorem Step.op_some {bs : List UInt8} {s s1 s2 : St} {op : Int} {xs : List Int} (h : Step bs plainP s op s1) (he : s1.e = 0) (hf : form op ≠ []) (h2 : Step bs (opsP (form op)) s1 xs s2) : Step bs instrP s (insOf op xs) s2 := by
  obtain ⟨a1, a2, a3⟩ := h
  obtain ⟨b1, b2, b3⟩ := h2
  have h0 : s.e = 0 := Classical.byContradiction fun h => h ((a2 h).1 ▸ he)
  refine ⟨b1, fun h => absurd h0 h, fun _ => ?_⟩
  have a3 := a3 h0
  have b3 := b3 he
  simp only [instrP]
  split at a3
  · rename_i x n hx
    obtain ⟨rfl, c1, c2, c3⟩ := a3
    rw [c2] at b3
    simp only [hx, if_neg hf, List.drop_drop]
    split at b3
    · rename_i y m hy
      obtain ⟨rfl, d1, d2, d3⟩ := b3
      simp only [hy]
      exact ⟨trivial, d1, by omega, by rw [d3, c3]⟩
    · rename_i er o hy
      obtain ⟨d1, d2, d3⟩ := b3
      simp only [hy]
      exact ⟨d1, d2, by rw [d3]; omega⟩
  · exact absurd (a3.1 ▸ he) a3.2.1
theorem letter_is (l : UInt8) (n : Nat) (hn : n < 256) : ((l.toNat : Int) = n) ↔ l = UInt8.ofNat n := by
  constructor
  · intro h
    have : l.toNat = n := by omega
    rw [← this]; simp
  · rintro rfl; rw [u8_toNat hn]
theorem l45 (l : UInt8) : ((l.toNat : Int) = 45) ↔ l = 45 := letter_is l 45 (by omega)
theorem l110 (l : UInt8) : ((l.toNat : Int) = 110) ↔ l = 110 := letter_is l 110 (by omega)
theorem l111 (l : UInt8) : ((l.toNat : Int) = 111) ↔ l = 111 := letter_is l 111 (by omega)
def padI (xs : List Int) : List RV := (xs ++ List.replicate (4 - xs.length) 0).map fun x => .v (.i .i64 x)
theorem padI_dom (p : Nat → Prop) (xs : List Int) : domL p (padI xs) ↔ True := by
  simp only [padI, domL_mem, List.mem_map, iff_true]
  rintro _ ⟨x, _, rfl⟩
  simp
theorem instr_r : Rd Try.prog 125 [] (fun y : Instr => .g y.row) instrP := by
  intro bs s hs hb
  refine fun_cut 1 hmx Try.func125 r125 s125 (by rw [Try.ntmps125]; simp) (by first | exact Nat.le_refl _ | decide | simp) ?_
  unfold c125
  simp [rrow]
  refine callf [0] rfl Try.call87 (plain_r bs s hs hb) (by decide) rfl (by simp) (by simp [rrow]) (by simp) ?_
  rintro _ _ ⟨op, s1, rfl, rfl, h1⟩
  simp [rrow]
  refine ⟨fun he => ⟨⟨op, 0, 0, 0, 0⟩, s1, rfl, rfl, h1.op_early he _⟩, fun he => ?_⟩
  refine callk rfl Try.call130 (Q03.form15 op) rfl ?_
  simp
  refine ⟨fun hf => ?_, fun hf => ?_⟩
  · refine callf [0] rfl Try.call126 (fail_r bs s1 33 s.pos) (by decide) rfl (by simp) (by simp [rrow, he]) (by simp) ?_
    rintro _ _ rfl
    simp [rrow]
    refine ⟨⟨op, 0, 0, 0, 0⟩, failSt s1 33 s.pos, rfl, rfl, ?_⟩
    rw [failSt, if_pos he]
    exact h1.op_none he hf _
  · obtain ⟨l0, l1, l2, l3, hl⟩ : ∃ l0 l1 l2 l3, form op = [l0, l1, l2, l3] := (form_four op).resolve_left hf
    rw [hl]
    refine go_while hmx 4 (fun (t : Nat × List Int × St) => [(30, .v (.i .i64 (t.1 : Int)))]) (fun t => [.var (rrow bs t.2.2), .var [.v (.i .i64 0), .v (.i .i64 0), .v (.i .i64 0), .v (.i .i64 0), .v (.i .i64 0)], .var [.v (.i .i64 op), .v (.i .i64 0), .v (.i .i64 0), .v (.i .i64 0), .v (.i .i64 0)], .var (padI t.2.1)])
      (fun t => t.1 ≤ 4 ∧ t.2.1.length = t.1 ∧ t.2.2.pos ≤ bs.length ∧ ∀ zs sf, Step bs (opsP ([l0, l1, l2, l3].drop t.1)) t.2.2 zs sf → Step bs (opsP [l0, l1, l2, l3]) s1 (t.2.1 ++ zs) sf) (fun t => 4 - t.1) (0, [], s1) rfl (by simp) (by simp [rrow, padI]) (by simp) (by simp) (by simp [rrow, padI_dom]) ⟨by omega, rfl, h1.1, fun zs sf h => by simpa using h⟩ ?_
    rintro ⟨i, xs, t⟩ ⟨hi, hl', hp, hk⟩
    simp only at hi hl' hp hk
    by_cases hi4 : i = 4
    · subst hi4
      obtain ⟨x0, x1, x2, x3, rfl⟩ : ∃ x0 x1 x2 x3, xs = [x0, x1, x2, x3] := by
        match xs, hl' with
        | [a, b, c, d], _ => exact ⟨a, b, c, d, rfl⟩
      simp [rrow, padI]
      have := hk [] t (by simpa [opsP] using Step.ret hp _)
      refine ⟨⟨op, x0, x1, x2, x3⟩, t, rfl, rfl, ?_⟩
      exact h1.op_some (xs := [x0, x1, x2, x3]) he hf (by rw [hl]; simpa using this)
    · have hstep : ∀ l x t1, ([l0, l1, l2, l3].drop i) = l :: ([l0, l1, l2, l3].drop (i + 1)) → Step bs (opP l) t x t1 → ∀ zs sf, Step bs (opsP ([l0, l1, l2, l3].drop (i + 1))) t1 zs sf → Step bs (opsP [l0, l1, l2, l3]) s1 (xs ++ x :: zs) sf := by
        intro l x t1 hd h2 zs sf hz
        refine hk (x :: zs) sf ?_
        rw [hd]
        exact h2.bind hz.map
      clear hk
      match i, xs, hl', hi4 with
      | 0, [], _, _ =>
        simp [rrow, padI, l45, l110, l111]
        have hstep := fun x t1 => hstep l0 x t1 rfl
        refine ⟨fun hl1 => ?_, fun hl1 => ⟨fun hl2 => ?_, fun hl2 => ⟨fun hl3 => ?_, fun hl3 => ?_⟩⟩⟩
        · refine ⟨1, by decide, [0], t, ?_⟩
          have := hstep 0 t (by rw [opP, if_pos hl1]; exact .ret hp 0)
          simpa [padI, rrow, hp] using this
        · refine callf [0] rfl Try.call121 (signed_r bs t hp hb) (by decide) rfl (by simp) (by simp [rrow]) (by simp) ?_
          rintro _ _ ⟨y, t1, rfl, rfl, h2⟩
          simp [rrow, padI]
          refine ⟨1, by decide, [y], t1, ?_⟩
          have := hstep y t1 (by rw [opP, if_neg hl1, if_pos hl2]; exact h2)
          simpa [padI, rrow, h2.1] using this
        · refine callf [0] rfl Try.call87 (plain_r bs t hp hb) (by decide) rfl (by simp) (by simp [rrow]) (by simp) ?_
          rintro _ _ ⟨y, t1, rfl, rfl, h2⟩
          simp [rrow, padI]
          refine ⟨1, by decide, [IntKind.i64.wrap (y - 1)], t1, ?_⟩
          have := hstep _ t1 (by rw [opP, if_neg hl1, if_neg hl2, if_pos hl3]; exact h2.minus)
          simpa [padI, rrow, h2.1] using this
        · refine callf [0] rfl Try.call87 (plain_r bs t hp hb) (by decide) rfl (by simp) (by simp [rrow]) (by simp) ?_
          rintro _ _ ⟨y, t1, rfl, rfl, h2⟩
          simp [rrow, padI]
          refine ⟨1, by decide, [y], t1, ?_⟩
          have := hstep y t1 (by rw [opP, if_neg hl1, if_neg hl2, if_neg hl3]; exact h2)
          simpa [padI, rrow, h2.1] using this
      | 1, [x0], _, _ =>
        simp [rrow, padI, l45, l110, l111]
        have hstep := fun x t1 => hstep l1 x t1 rfl
        refine ⟨fun hl1 => ?_, fun hl1 => ⟨fun hl2 => ?_, fun hl2 => ⟨fun hl3 => ?_, fun hl3 => ?_⟩⟩⟩
        · refine ⟨2, by decide, [x0, 0], t, ?_⟩
          have := hstep 0 t (by rw [opP, if_pos hl1]; exact .ret hp 0)
          simpa [padI, rrow, hp] using this
        · refine callf [0] rfl Try.call121 (signed_r bs t hp hb) (by decide) rfl (by simp) (by simp [rrow]) (by simp) ?_
          rintro _ _ ⟨y, t1, rfl, rfl, h2⟩
          simp [rrow, padI]
          refine ⟨2, by decide, [x0, y], t1, ?_⟩
          have := hstep y t1 (by rw [opP, if_neg hl1, if_pos hl2]; exact h2)
          simpa [padI, rrow, h2.1] using this
        · refine callf [0] rfl Try.call87 (plain_r bs t hp hb) (by decide) rfl (by simp) (by simp [rrow]) (by simp) ?_
          rintro _ _ ⟨y, t1, rfl, rfl, h2⟩
          simp [rrow, padI]
          refine ⟨2, by decide, [x0, IntKind.i64.wrap (y - 1)], t1, ?_⟩
          have := hstep _ t1 (by rw [opP, if_neg hl1, if_neg hl2, if_pos hl3]; exact h2.minus)
          simpa [padI, rrow, h2.1] using this
        · refine callf [0] rfl Try.call87 (plain_r bs t hp hb) (by decide) rfl (by simp) (by simp [rrow]) (by simp) ?_
          rintro _ _ ⟨y, t1, rfl, rfl, h2⟩
          simp [rrow, padI]
          refine ⟨2, by decide, [x0, y], t1, ?_⟩
          have := hstep y t1 (by rw [opP, if_neg hl1, if_neg hl2, if_neg hl3]; exact h2)
          simpa [padI, rrow, h2.1] using this
      | 2, [x0, x1], _, _ =>
        simp [rrow, padI, l45, l110, l111]
        have hstep := fun x t1 => hstep l2 x t1 rfl
        refine ⟨fun hl1 => ?_, fun hl1 => ⟨fun hl2 => ?_, fun hl2 => ⟨fun hl3 => ?_, fun hl3 => ?_⟩⟩⟩
        · refine ⟨3, by decide, [x0, x1, 0], t, ?_⟩
          have := hstep 0 t (by rw [opP, if_pos hl1]; exact .ret hp 0)
          simpa [padI, rrow, hp] using this
        · refine callf [0] rfl Try.call121 (signed_r bs t hp hb) (by decide) rfl (by simp) (by simp [rrow]) (by simp) ?_
          rintro _ _ ⟨y, t1, rfl, rfl, h2⟩
          simp [rrow, padI]
          refine ⟨3, by decide, [x0, x1, y], t1, ?_⟩
          have := hstep y t1 (by rw [opP, if_neg hl1, if_pos hl2]; exact h2)
          simpa [padI, rrow, h2.1] using this
        · refine callf [0] rfl Try.call87 (plain_r bs t hp hb) (by decide) rfl (by simp) (by simp [rrow]) (by simp) ?_
          rintro _ _ ⟨y, t1, rfl, rfl, h2⟩
          simp [rrow, padI]
          refine ⟨3, by decide, [x0, x1, IntKind.i64.wrap (y - 1)], t1, ?_⟩
          have := hstep _ t1 (by rw [opP, if_neg hl1, if_neg hl2, if_pos hl3]; exact h2.minus)
          simpa [padI, rrow, h2.1] using this
        · refine callf [0] rfl Try.call87 (plain_r bs t hp hb) (by decide) rfl (by simp) (by simp [rrow]) (by simp) ?_
          rintro _ _ ⟨y, t1, rfl, rfl, h2⟩
          simp [rrow, padI]
          refine ⟨3, by decide, [x0, x1, y], t1, ?_⟩
          have := hstep y t1 (by rw [opP, if_neg hl1, if_neg hl2, if_neg hl3]; exact h2)
          simpa [padI, rrow, h2.1] using this
      | 3, [x0, x1, x2], _, _ =>
        simp [rrow, padI, l45, l110, l111]
        have hstep := fun x t1 => hstep l3 x t1 rfl
        refine ⟨fun hl1 => ?_, fun hl1 => ⟨fun hl2 => ?_, fun hl2 => ⟨fun hl3 => ?_, fun hl3 => ?_⟩⟩⟩
        · refine ⟨4, by decide, [x0, x1, x2, 0], t, ?_⟩
          have := hstep 0 t (by rw [opP, if_pos hl1]; exact .ret hp 0)
          simpa [padI, rrow, hp] using this
        · refine callf [0] rfl Try.call121 (signed_r bs t hp hb) (by decide) rfl (by simp) (by simp [rrow]) (by simp) ?_
          rintro _ _ ⟨y, t1, rfl, rfl, h2⟩
          simp [rrow, padI]
          refine ⟨4, by decide, [x0, x1, x2, y], t1, ?_⟩
          have := hstep y t1 (by rw [opP, if_neg hl1, if_pos hl2]; exact h2)
          simpa [padI, rrow, h2.1] using this
        · refine callf [0] rfl Try.call87 (plain_r bs t hp hb) (by decide) rfl (by simp) (by simp [rrow]) (by simp) ?_
          rintro _ _ ⟨y, t1, rfl, rfl, h2⟩
          simp [rrow, padI]
          refine ⟨4, by decide, [x0, x1, x2, IntKind.i64.wrap (y - 1)], t1, ?_⟩
          have := hstep _ t1 (by rw [opP, if_neg hl1, if_neg hl2, if_pos hl3]; exact h2.minus)
          simpa [padI, rrow, h2.1] using this
        · refine callf [0] rfl Try.call87 (plain_r bs t hp hb) (by decide) rfl (by simp) (by simp [rrow]) (by simp) ?_
          rintro _ _ ⟨y, t1, rfl, rfl, h2⟩
          simp [rrow, padI]
          refine ⟨4, by decide, [x0, x1, x2, y], t1, ?_⟩
          have := hstep y t1 (by rw [opP, if_neg hl1, if_neg hl2, if_neg hl3]; exact h2)
          simpa [padI, rrow, h2.1] using this
      | n + 4, xs, hl', hi4 => omega
theorem fun_r : Rd Try.prog 90 [] (fun y : Func => .g y.row) funP := by
  intro bs s hs hb
  refine fun_cut 1 hmx Try.func90 r90 s90 (by rw [Try.ntmps90]; simp) (by first | exact Nat.le_refl _ | decide | simp) ?_
  unfold c90
  simp [rrow]
  refine callf [0] rfl Try.call87 (plain_r bs s hs hb) (by decide) rfl (by simp) (by simp [rrow]) (by simp) ?_
  rintro _ _ ⟨y1, s1, rfl, rfl, h1⟩
  simp [rrow]
  refine callf [0] rfl Try.call87 (plain_r bs s1 h1.1 hb) (by decide) rfl (by simp) (by simp [rrow]) (by simp) ?_
  rintro _ _ ⟨y2, s2, rfl, rfl, h2⟩
  simp [rrow]
  refine callf [0] rfl Try.call122 (list_Select Try.call123 choice_r 4 (by omega) bs s2 h2.1 hb) (by decide) rfl (by simp) (by simp [rrow]) (by simp) ?_
  rintro _ _ ⟨y3, s3, rfl, rfl, h3⟩
  simp [rrow]
  refine callf [0] rfl Try.call124 (list_Instr Try.call125 instr_r 64 (by omega) bs s3 h3.1 hb) (by decide) rfl (by simp) (by simp [rrow]) (by simp) ?_
  rintro _ _ ⟨y4, s4, rfl, rfl, h4⟩
  simp [rrow]
  exact ⟨⟨y1, y2, y4, y3⟩, s4, rfl, rfl, h1.bind (h2.bind (h3.bind (h4.bind (.ret h4.1 _))))⟩
end Go.Sc.Cw
/- Chapter 04: the end of the bytes, by the program. No condition. -/
set_option linter.constructorNameAsVariable false
namespace Go.Sc.Cw
open Go Go.RowKit Go.Av Go.Proofs Go.Sc.Oct
set_option linter.unusedSimpArgs false
set_option linter.unusedVariables false
/-- slices.Equal[[]byte,byte] -/
def c84 : ACode :=
  (.seq (.reg none [⟨some 4, none, .q (.mv (.c (.b false)))⟩])
  (.keep [0, 1]
  (.seq (.seq (.reg none [⟨some 6, none, .q (.mv (.t 0))⟩, ⟨some 7, none, .q (.len false (.t 6))⟩, ⟨some 8, none, .q (.mv (.t 1))⟩, ⟨some 9, none, .q (.len false (.t 8))⟩, ⟨some 10, none, .q (.bin .neq (.t 7) (.t 9))⟩])
    (.keep [0, 1, 10]
    (.cond (.t 10) (.seq (.reg none [⟨some 4, none, .q (.mv (.c (.b false)))⟩])
      .ret)
    .skip)))
  (.seq (.seq (.reg none [⟨some 11, none, .q (.mv (.t 0))⟩, ⟨some 12, none, .q (.len false (.t 11))⟩, ⟨some 13, none, .q (.mv (.c (.i .i64 0)))⟩])
    (.keep [0, 1, 12, 13]
    (.blk 0 (.keep [0, 1, 12, 13]
    (.loop (.fin [0, 1, 12, 13]
      (.seq (.reg none [⟨some 14, none, .q (.bin .lss (.t 13) (.t 12))⟩])
      (.keep [0, 1, 12, 13, 14]
      (.seq (.cond (.t 14) .skip
        (.exit 0))
      (.seq (.blk 1 (.seq (.reg none [⟨some 15, none, .q (.mv (.t 13))⟩, ⟨some 5, none, .q (.mv (.t 15))⟩])
        (.keep [0, 1, 5, 12, 13]
        (.seq (.reg (some (9, [])) [⟨some 16, none, .q (.mv (.t 0))⟩, ⟨some 17, none, .q (.mv (.t 5))⟩, ⟨some 18, none, .q (.ias 1 (.t 16) (.t 17))⟩, ⟨some 19, none, .q (.ld none (.t 18))⟩, ⟨some 20, none, .q (.mv (.t 1))⟩, ⟨some 21, none, .q (.mv (.t 5))⟩, ⟨some 22, none, .q (.ias 1 (.t 20) (.t 21))⟩, ⟨some 23, none, .q (.ld none (.t 22))⟩, ⟨some 24, none, .q (.bin .neq (.t 19) (.t 23))⟩])
        (.keep [0, 1, 12, 13, 24]
        (.cond (.t 24) (.seq (.reg none [⟨some 4, none, .q (.mv (.c (.b false)))⟩])
          .ret)
        .skip))))))
      (.keep [0, 1, 12, 13]
      (.reg none [⟨some 25, none, .q (.bin .add (.t 13) (.c (.i .i64 1)))⟩, ⟨some 13, none, .q (.mv (.t 25))⟩]))))))))))))
  (.seq (.reg none [⟨some 4, none, .q (.mv (.c (.b true)))⟩])
  .ret)))))
theorem r84 : (Try.f84.body.bind (resC Try.prog Try.f84.ntmps)) = some (strip c84) := by kernel_rfl
theorem s84 : Try.f84.results.toList.mapM (resRes Try.prog) = some [.t 4] := by kernel_rfl
/-- (*scarab/code.reader).end -/
def c91 : ACode :=
  (.seq (.reg (some (16, [])) [⟨some 6, none, .q (.mv (.t 0))⟩, ⟨some 7, none, .q (.nck (.t 6))⟩, ⟨some 8, none, .q (.fa 0 (.t 7))⟩, ⟨some 9, none, .q (.ld none (.t 8))⟩, ⟨some 10, none, .q (.mv (.t 0))⟩, ⟨some 11, none, .q (.nck (.t 10))⟩, ⟨some 12, none, .q (.fa 1 (.t 11))⟩, ⟨some 13, none, .q (.ld none (.t 12))⟩, ⟨some 14, none, .call (.f 103) [(.t 9), (.t 13)]⟩, ⟨some 5, none, .q (.mv (.t 14))⟩, ⟨some 15, none, .q (.ext 0 (.t 5))⟩, ⟨some 16, none, .q (.ext 1 (.t 5))⟩, ⟨some 17, none, .q (.ext 2 (.t 5))⟩, ⟨some 2, none, .q (.mv (.t 15))⟩, ⟨some 3, none, .q (.mv (.t 16))⟩, ⟨some 4, none, .q (.mv (.t 17))⟩])
  (.keep [0, 2, 3, 4]
  (.blk 0 (.seq (.reg none [⟨some 19, none, .q (.mv (.t 4))⟩, ⟨some 20, none, .q (.bin .neq (.t 19) (.c (.i .i64 0)))⟩, ⟨some 18, none, .q (.mv (.t 20))⟩])
  (.keep [0, 2, 3, 4, 18]
  (.cond (.t 18) (.reg none [⟨some 21, none, .q (.mv (.t 0))⟩, ⟨some 22, none, .q (.mv (.t 4))⟩, ⟨some 23, none, .q (.mv (.t 0))⟩, ⟨some 24, none, .q (.nck (.t 23))⟩, ⟨some 25, none, .q (.fa 1 (.t 24))⟩, ⟨some 26, none, .q (.ld none (.t 25))⟩, ⟨some 27, none, .call (.f 126) [(.t 21), (.t 22), (.t 26)]⟩])
  (.seq (.reg (some (10, [])) [⟨some 29, none, .q (.mv (.t 2))⟩, ⟨some 30, none, .q (.mv (.t 0))⟩, ⟨some 31, none, .q (.nck (.t 30))⟩, ⟨some 32, none, .q (.fa 0 (.t 31))⟩, ⟨some 33, none, .q (.ld none (.t 32))⟩, ⟨some 34, none, .q (.mv (.t 0))⟩, ⟨some 35, none, .q (.nck (.t 34))⟩, ⟨some 36, none, .q (.fa 1 (.t 35))⟩, ⟨some 37, none, .q (.ld none (.t 36))⟩, ⟨some 38, none, .q (.sls 1 (.t 33) none (some (.t 37)))⟩, ⟨some 39, none, .call (.f 118) [(.t 38)]⟩, ⟨some 40, none, .q (.bin .neq (.t 29) (.t 39))⟩, ⟨some 28, none, .q (.mv (.t 40))⟩])
    (.keep [0, 3, 28]
    (.cond (.t 28) (.reg none [⟨some 41, none, .q (.mv (.t 0))⟩, ⟨some 42, none, .q (.mv (.t 0))⟩, ⟨some 43, none, .q (.nck (.t 42))⟩, ⟨some 44, none, .q (.fa 1 (.t 43))⟩, ⟨some 45, none, .q (.ld none (.t 44))⟩, ⟨some 46, none, .call (.f 126) [(.t 41), (.c (.i .i64 41)), (.t 45)]⟩])
    (.seq (.reg none [⟨some 48, none, .q (.mv (.t 3))⟩, ⟨some 49, none, .q (.mv (.t 0))⟩, ⟨some 50, none, .q (.nck (.t 49))⟩, ⟨some 51, none, .q (.fa 0 (.t 50))⟩, ⟨some 52, none, .q (.ld none (.t 51))⟩, ⟨some 53, none, .q (.len false (.t 52))⟩, ⟨some 54, none, .q (.bin .neq (.t 48) (.t 53))⟩, ⟨some 47, none, .q (.mv (.t 54))⟩])
      (.keep [0, 3, 47]
      (.cond (.t 47) (.reg none [⟨some 55, none, .q (.mv (.t 0))⟩, ⟨some 56, none, .q (.mv (.t 3))⟩, ⟨some 57, none, .call (.f 126) [(.t 55), (.c (.i .i64 13)), (.t 56)]⟩])
      .skip))))))))))))
theorem r91 : (Try.f91.body.bind (resC Try.prog Try.f91.ntmps)) = some (strip c91) := by kernel_rfl
theorem s91 : Try.f91.results.toList.mapM (resRes Try.prog) = some [] := by kernel_rfl
theorem eqB (a b : List UInt8) (hb : a.length < 1099511627776) : PureS Try.prog 84 [.sl 1 (a.map brow), .sl 1 (b.map brow)] (.b (decide (a = b))) := by
  refine fun_go hmx Try.func84 r84 s84 (by rw [Try.ntmps84]; simp) ?_
  unfold c84
  by_cases h : (a.length : Int) = b.length
  · have hl : a.length = b.length := by omega
    have hz : (a.zip b).length = a.length := by simp; omega
    have h' : (b.length : Int) = b.length := rfl
    simp [hl]
    refine go_each hmx 0 13 (a.zip b) (fun (_ : Unit) => []) (fun _ => []) (fun i _ rest => (rest.map Prod.fst = rest.map Prod.snd ↔ a = b)) () (by omega) rfl rfl rfl (by simp) (by simp) (by simp) (by rw [List.map_fst_zip (by omega), List.map_snd_zip (by omega)]) ?_ ?_
    · rintro i ⟨x, y⟩ rest _ hi hx hr hj hw
      have hia : i < a.length := by omega
      have hib : i < b.length := by omega
      have hax : a[i] = x ∧ b[i] = y := by simpa using hx
      obtain ⟨hax, hbx⟩ := hax
      have hi' : (i : Int) < b.length := by omega
      have hi2 : ¬ (b.length : Int) ≤ i := by omega
      simp [hi', hi2, hia, hib, hax, hbx, hw, brow]
      simp at hj
      refine ⟨fun hne => ?_, fun he => ?_⟩
      · intro hab
        exact hne (by rw [(hj.2 hab).1])
      · rw [← hj]; simp
        intro _
        exact UInt8.toNat_inj.1 (by omega)
    · rintro _ hj
      simp at hj
      simp [hz, hl, hj]
  · have hne : a ≠ b := fun e => h (by rw [e])
    have hl : ¬ a.length = b.length := by omega
    simp [hl, hne]
    try exact fun e => absurd e h
def endSt (bs : List UInt8) (s : St) : St := if bs.length < s.pos + 4 then ⟨s.pos, 10, (s.pos : Int)⟩ else if beN (four bs s.pos) 0 ≠ sumN (bs.take s.pos) then ⟨s.pos, 41, (s.pos : Int)⟩ else if s.pos + 4 ≠ bs.length then ⟨s.pos, 13, ((s.pos + 4 : Nat) : Int)⟩ else s
theorem end_r (bs : List UInt8) (s : St) (he : s.e = 0) (hs : s.pos ≤ bs.length) (hb : bs.length < 1099511627776) : CallS Try.prog 91 [.pt 0 0 0 0] [.var (rrow bs s)] fun r K => K = [.var (rrow bs (endSt bs s))] := by
  refine fun_cut 1 hmx Try.func91 r91 s91 (by rw [Try.ntmps91]; simp) (by first | exact Nat.le_refl _ | decide | simp) ?_
  unfold c91
  simp [rrow]
  first
    | refine callk rfl Try.call103 (gfO bs s.pos hb) rfl ?_
    | refine callks rfl Try.call103 (gfO bs s.pos hb) rfl ?_
    | refine callq rfl Try.call103 (gfO bs s.pos hb) rfl ?_
  have h1 : ¬ ((s.pos : Int) < 0 ∨ (bs.length : Int) < s.pos) := by omega
  by_cases h4 : bs.length < s.pos + 4
  · have h4' : (bs.length : Int) - s.pos < 4 := by omega
    rw [show fixRd bs (s.pos : Int) = .tup [.i .u32 0, .i .i64 0, .i .i64 10] by rw [fixRd, if_neg h1, if_pos h4']]
    simp
    refine callf [0] rfl Try.call126 (fail_r bs s 10 s.pos) (by decide) rfl (by simp) (by simp [rrow]) (by simp) ?_
    rintro _ _ rfl
    simp [rrow, failSt, he, endSt, h4]
  · have h4' : ¬ (bs.length : Int) - s.pos < 4 := by omega
    have hcast : (s.pos : Int) + 4 = ((s.pos + 4 : Nat) : Int) := by omega
    rw [show fixRd bs (s.pos : Int) = .tup [.i .u32 (beN (four bs s.pos) 0 : Int), .i .i64 ((s.pos + 4 : Nat) : Int), .i .i64 0] by rw [fixRd, if_neg h1, if_neg h4', hcast]; simp]
    have hsum := sumO (bs.take s.pos) (by simp; omega)
    rw [List.map_take] at hsum
    simp
    refine ⟨by omega, ?_⟩
    first
      | refine callk rfl Try.call118 hsum rfl ?_
      | refine callks rfl Try.call118 hsum rfl ?_
      | refine callq rfl Try.call118 hsum rfl ?_
    simp
    refine ⟨fun h5 => ?_, fun h5 => ⟨fun h6 => ?_, fun h6 => ?_⟩⟩
    · refine callf [0] rfl Try.call126 (fail_r bs s 41 s.pos) (by decide) rfl (by simp) (by simp [rrow]) (by simp) ?_
      rintro _ _ rfl
      have h5' : ¬ beN (four bs s.pos) 0 = sumN (bs.take s.pos) := by omega
      simp [rrow, failSt, he, endSt, h4, h5']
    · refine callf [0] rfl Try.call126 (fail_r bs s 13 ((s.pos : Int) + 4)) (by decide) rfl (by simp) (by simp [rrow]) (by simp) ?_
      rintro _ _ rfl
      have h5' : beN (four bs s.pos) 0 = sumN (bs.take s.pos) := by omega
      have h6' : ¬ s.pos + 4 = bs.length := by omega
      simp [rrow, failSt, he, endSt, h4, h5', h6']
    · have h5' : beN (four bs s.pos) 0 = sumN (bs.take s.pos) := by omega
      have h6' : s.pos + 4 = bs.length := by omega
      simp [endSt, h4, h5', h6']
end Go.Sc.Cw
/- Chapter 04: Decode, by the program. No condition. -/
set_option linter.constructorNameAsVariable false
namespace Go.Sc.Cw
open Go Go.RowKit Go.Av Go.Proofs Go.Sc.Oct
set_option linter.unusedSimpArgs false
set_option linter.unusedVariables false
/-- scarab/code.Decode -/
def c42 : ACode :=
  (.seq (.reg none [⟨some 2, none, .m (.alloc (.g [.nil, (.i .i64 0), .nil, .nil]))⟩, ⟨some 3, none, .q (.mv (.c (.i .i64 0)))⟩, ⟨some 4, none, .q (.mv (.c (.i .i64 0)))⟩])
  (.keep [0, 2]
  (.seq (.seq (.reg none [⟨some 9, none, .q (.mv (.t 0))⟩, ⟨some 10, none, .q (.len false (.t 9))⟩, ⟨some 11, none, .q (.bin .gtr (.t 10) (.c (.i .i64 65536)))⟩])
    (.keep [0, 2, 11]
    (.cond (.t 11) (.seq (.reg none [⟨some 12, none, .q (.bld [.nil, (.i .i64 0), .nil, .nil] [])⟩, ⟨none, none, .m (.st 4 (.t 2) (.t 12))⟩, ⟨some 3, none, .q (.mv (.c (.i .i64 2)))⟩, ⟨some 4, none, .q (.mv (.c (.i .i64 0)))⟩])
      .ret)
    .skip)))
  (.seq (.seq (.reg (some (14, [])) [⟨some 13, none, .q (.mv (.t 0))⟩, ⟨some 14, none, .q (.len false (.t 13))⟩, ⟨some 15, none, .call (.f 83) []⟩, ⟨some 16, none, .q (.len false (.t 15))⟩, ⟨some 17, none, .q (.bin .lss (.t 14) (.t 16))⟩, ⟨some 18, none, .q (.mv (.t 17))⟩, ⟨some 19, some (18, false), .q (.mv (.t 0))⟩, ⟨some 20, some (18, false), .call (.f 83) []⟩, ⟨some 21, some (18, false), .q (.len false (.t 20))⟩, ⟨some 22, some (18, false), .q (.sls 1 (.t 19) none (some (.t 21)))⟩, ⟨some 23, some (18, false), .call (.f 83) []⟩, ⟨some 24, some (18, false), .call (.f 84) [(.t 22), (.t 23)]⟩, ⟨some 25, some (18, false), .q (.un .not (.t 24))⟩, ⟨some 26, none, .pk (.t 18) (.c (.b true)) (.t 25)⟩])
    (.keep [0, 2, 26]
    (.cond (.t 26) (.seq (.reg none [⟨some 27, none, .q (.bld [.nil, (.i .i64 0), .nil, .nil] [])⟩, ⟨none, none, .m (.st 4 (.t 2) (.t 27))⟩, ⟨some 3, none, .q (.mv (.c (.i .i64 40)))⟩, ⟨some 4, none, .q (.mv (.c (.i .i64 0)))⟩])
      .ret)
    .skip)))
  (.seq (.reg none [⟨some 28, none, .q (.mv (.t 0))⟩, ⟨some 29, none, .call (.f 83) []⟩, ⟨some 30, none, .q (.len false (.t 29))⟩, ⟨some 31, none, .q (.bld [.nil, (.i .i64 0), (.i .i64 0), (.i .i64 0)] [(0, 1, .t 28), (1, 1, .t 30)])⟩, ⟨some 32, none, .m (.box (.t 31))⟩, ⟨some 5, none, .q (.mv (.t 32))⟩])
  (.keep [2, 5]
  (.seq (.reg none [⟨some 33, none, .q (.mv (.t 5))⟩, ⟨some 34, none, .q (.mv (.t 5))⟩, ⟨some 35, none, .q (.mkb 86 [(.t 34)])⟩, ⟨some 36, none, .call (.f 85) [(.t 33), (.c (.i .u64 8)), (.t 35)]⟩, ⟨some 37, none, .q (.bld [.nil, (.i .i64 0), .nil, .nil] [(0, 1, .t 36)])⟩, ⟨some 6, none, .m (.alloc (.g [.nil, (.i .i64 0), .nil, .nil]))⟩, ⟨none, none, .m (.st 4 (.t 6) (.t 37))⟩])
  (.keep [2, 5, 6]
  (.seq (.reg none [⟨some 38, none, .q (.mv (.t 5))⟩, ⟨some 39, none, .call (.f 87) [(.t 38)]⟩, ⟨some 40, none, .q (.fa 1 (.t 6))⟩, ⟨none, none, .m (.st 1 (.t 40) (.t 39))⟩])
  (.keep [2, 5, 6]
  (.seq (.reg none [⟨some 41, none, .q (.mv (.t 5))⟩, ⟨some 42, none, .q (.mv (.t 5))⟩, ⟨some 43, none, .q (.mkb 87 [(.t 42)])⟩, ⟨some 44, none, .call (.f 88) [(.t 41), (.c (.i .u64 4)), (.t 43)]⟩, ⟨some 45, none, .q (.fa 2 (.t 6))⟩, ⟨none, none, .m (.st 1 (.t 45) (.t 44))⟩])
  (.keep [2, 5, 6]
  (.seq (.reg none [⟨some 46, none, .q (.mv (.t 5))⟩, ⟨some 47, none, .q (.mv (.t 5))⟩, ⟨some 48, none, .q (.mkb 90 [(.t 47)])⟩, ⟨some 49, none, .call (.f 89) [(.t 46), (.c (.i .u64 8)), (.t 48)]⟩, ⟨some 50, none, .q (.fa 3 (.t 6))⟩, ⟨none, none, .m (.st 1 (.t 50) (.t 49))⟩])
  (.keep [2, 5, 6]
  (.seq (.seq (.reg none [⟨some 51, none, .q (.mv (.t 5))⟩, ⟨some 52, none, .q (.nck (.t 51))⟩, ⟨some 53, none, .q (.fa 2 (.t 52))⟩, ⟨some 54, none, .q (.ld none (.t 53))⟩, ⟨some 55, none, .q (.bin .eql (.t 54) (.c (.i .i64 0)))⟩])
    (.keep [2, 5, 6, 55]
    (.cond (.t 55) (.reg none [⟨some 56, none, .q (.mv (.t 5))⟩, ⟨some 57, none, .call (.f 91) [(.t 56)]⟩])
    .skip)))
  (.seq (.seq (.reg none [⟨some 58, none, .q (.mv (.t 5))⟩, ⟨some 59, none, .q (.nck (.t 58))⟩, ⟨some 60, none, .q (.fa 2 (.t 59))⟩, ⟨some 61, none, .q (.ld none (.t 60))⟩, ⟨some 62, none, .q (.bin .neq (.t 61) (.c (.i .i64 0)))⟩])
    (.keep [2, 5, 6, 62]
    (.cond (.t 62) (.seq (.reg (some (9, [2, 3, 4, 6, 7, 8])) [⟨some 63, none, .q (.bld [.nil, (.i .i64 0), .nil, .nil] [])⟩, ⟨some 64, none, .q (.mv (.t 5))⟩, ⟨some 65, none, .q (.nck (.t 64))⟩, ⟨some 66, none, .q (.fa 2 (.t 65))⟩, ⟨some 67, none, .q (.ld none (.t 66))⟩, ⟨some 68, none, .q (.mv (.t 5))⟩, ⟨some 69, none, .q (.nck (.t 68))⟩, ⟨some 70, none, .q (.fa 3 (.t 69))⟩, ⟨some 71, none, .q (.ld none (.t 70))⟩, ⟨none, none, .m (.st 4 (.t 2) (.t 63))⟩, ⟨some 3, none, .q (.mv (.t 67))⟩, ⟨some 4, none, .q (.mv (.t 71))⟩])
      .ret)
    .skip)))
  (.seq (.seq (.reg none [⟨some 73, none, .q (.ld (some 4) (.t 6))⟩, ⟨some 74, none, .call (.f 44) [(.t 73)]⟩, ⟨some 72, none, .q (.mv (.t 74))⟩, ⟨some 75, none, .q (.ext 0 (.t 72))⟩, ⟨some 76, none, .q (.ext 1 (.t 72))⟩, ⟨some 8, none, .m (.alloc (.g [(.i .i64 0), (.i .i64 0)]))⟩, ⟨some 7, none, .q (.mv (.t 75))⟩, ⟨none, none, .m (.st 2 (.t 8) (.t 76))⟩])
    (.keep [2, 6, 7]
    (.seq (.reg none [⟨some 77, none, .q (.mv (.t 7))⟩, ⟨some 78, none, .q (.bin .neq (.t 77) (.c (.i .i64 0)))⟩])
    (.keep [2, 6, 7, 78]
    (.cond (.t 78) (.seq (.reg none [⟨some 79, none, .q (.bld [.nil, (.i .i64 0), .nil, .nil] [])⟩, ⟨some 80, none, .q (.mv (.t 7))⟩, ⟨none, none, .m (.st 4 (.t 2) (.t 79))⟩, ⟨some 3, none, .q (.mv (.t 80))⟩, ⟨some 4, none, .q (.mv (.c (.i .i64 0)))⟩])
      .ret)
    .skip)))))
  (.seq (.reg none [⟨some 81, none, .q (.ld (some 4) (.t 6))⟩, ⟨none, none, .m (.st 4 (.t 2) (.t 81))⟩, ⟨some 3, none, .q (.mv (.c (.i .i64 0)))⟩, ⟨some 4, none, .q (.mv (.c (.i .i64 0)))⟩])
  .ret))))))))))))))))))
theorem r42 : (Try.f42.body.bind (resC Try.prog Try.f42.ntmps)) = some (strip c42) := by kernel_rfl
theorem s42 : Try.f42.results.toList.mapM (resRes Try.prog) = some [.c 2 (some 4), .t 3, .t 4] := by kernel_rfl
def noneV : AV := .g [.nil, .i .i64 0, .nil, .nil]
def decV (bs : List UInt8) : AV :=
  match decode bs with
  | .error (e, o) => .tup [noneV, .i .i64 e, .i .i64 (o : Int)]
  | .ok p => .tup [.g p.row, .i .i64 0, .i .i64 0]
theorem dec_of {bs : List UInt8} {p : Prog} {s4 : St} (h1 : ¬ 65536 < bs.length) (hm : bs.take 5 = magicB) (h : Step bs bodyP ⟨5, 0, 0⟩ p s4) :
    (s4.e ≠ 0 → decV bs = .tup [noneV, .i .i64 s4.e, .i .i64 s4.bad]) ∧
    (s4.e = 0 → p.Ok ∧ ((endSt bs s4).e ≠ 0 → decV bs = .tup [noneV, .i .i64 (endSt bs s4).e, .i .i64 (endSt bs s4).bad]) ∧
      ((endSt bs s4).e = 0 → decV bs = if (check p).1 = 0 then .tup [.g p.row, .i .i64 0, .i .i64 0] else .tup [noneV, .i .i64 (check p).1, .i .i64 0])) := by
  have h3 := h.2.2 rfl
  have hm2 : ¬ bs.take 5 ≠ magicB := fun h => h hm
  split at h3
  · rename_i x n hx
    obtain ⟨rfl, e1, e2, e3⟩ := h3
    refine ⟨fun h => absurd e1 h, fun _ => ⟨body_ok hx, ?_⟩⟩
    simp only [endSt, decV, decode, if_neg h1, if_neg hm2, hx, e2]
    by_cases c1 : bs.length < 5 + n + 4
    · simp [c1]
    · simp only [if_neg c1]
      by_cases c2 : beN (four bs (5 + n)) 0 = sumN (bs.take (5 + n))
      · by_cases c3 : 5 + n + 4 = bs.length
        · simp [c2, c3, e1]
          by_cases c4 : (check p).1 = 0
          · simp [c4]
          · simp [c4]
        · simp [c2, c3]
      · simp [c2]
  · rename_i er o hx
    obtain ⟨e1, e2, e3⟩ := h3
    refine ⟨fun _ => ?_, fun h => absurd (e1 ▸ h) e2⟩
    simp only [decV, decode, if_neg h1, if_neg hm2, hx, e1, e3]
theorem decode_r (bs : List UInt8) : PureS Try.prog 42 [.sl 1 (bs.map brow)] (decV bs) := by
  refine fun_go hmx Try.func42 r42 s42 (by rw [Try.ntmps42]; simp) ?_
  unfold c42
  have hmag := magic_w.pure
  have hml : magicB.length = 5 := rfl
  have heq := eqB (bs.take 5) magicB (by simp; omega)
  rw [List.map_take] at heq
  generalize hD : decV bs = D
  simp
  refine ⟨fun h1 => ?_, fun h1 => ?_⟩
  · have h1' : 65536 < bs.length := by omega
    simp [← hD, decV, decode, h1', noneV]
  have h1' : ¬ 65536 < bs.length := by omega
  have hb : bs.length < 1099511627776 := by omega
  first
    | refine callk rfl Try.call83 hmag rfl ?_
    | refine callks rfl Try.call83 hmag rfl ?_
    | refine callq rfl Try.call83 hmag rfl ?_
  simp [hml]
  refine callqg rfl Try.call83 rfl (fun _ => hmag) (fun _ => by simp) rfl ?_
  simp [hml]
  refine callqg rfl Try.call83 rfl (fun _ => hmag) (fun _ => by simp) rfl ?_
  simp [hml]
  refine callqg rfl Try.call84 rfl (fun _ => heq) (fun hG => by simpa using hG) rfl ?_
  simp [hml]
  refine ⟨fun h2 => ?_, fun h2 h3 => ?_⟩
  · have hm : bs.take 5 ≠ magicB := by
      rcases h2 with h2 | h2
      · intro e
        have := congrArg List.length e
        simp [hml] at this; omega
      · exact h2
    simp [← hD, decV, decode, h1', hm, noneV]
  refine callk rfl Try.call83 hmag rfl ?_
  simp [hml]
  refine callf [1] rfl Try.call85 (list_Var Try.call86 variable_r 8 (by omega) bs ⟨5, 0, 0⟩ (by simp only; omega) hb) (by decide) rfl (by simp) (by simp [rrow]) (by simp) ?_
  rintro _ _ ⟨y1, s1, rfl, rfl, g1⟩
  simp [rrow]
  refine callf [1] rfl Try.call87 (plain_r bs s1 g1.1 hb) (by decide) rfl (by simp) (by simp [rrow]) (by simp) ?_
  rintro _ _ ⟨y2, s2, rfl, rfl, g2⟩
  simp [rrow]
  refine callf [1] rfl Try.call88 (list_Int Try.call87 plain_r 4 (by omega) bs s2 g2.1 hb) (by decide) rfl (by simp) (by simp [rrow]) (by simp) ?_
  rintro _ _ ⟨y3, s3, rfl, rfl, g3⟩
  simp [rrow]
  refine callf [1] rfl Try.call89 (list_Func Try.call90 fun_r 8 (by omega) bs s3 g3.1 hb) (by decide) rfl (by simp) (by simp [rrow]) (by simp) ?_
  rintro _ _ ⟨y4, s4, rfl, rfl, g4⟩
  simp [rrow]
  have hdec := dec_of h1' h3 (p := ⟨y1, y2, y3, y4⟩) (g1.bind (g2.bind (g3.bind (g4.bind (.ret g4.1 _)))))
  rw [hD] at hdec
  have hbad : s4.bad = s4.bad := rfl
  refine ⟨fun he => ?_, fun he => ?_⟩
  · obtain ⟨hok, d1, d2⟩ := hdec.2 he
    refine callf [1] rfl Try.call91 (end_r bs s4 he g4.1 hb) (by decide) rfl (by simp) (by simp [rrow]) (by simp) ?_
    rintro _ _ rfl
    simp [rrow]
    refine ⟨fun h5 => ?_, fun h5 => ?_⟩
    · simp [d1 h5, noneV]
    · refine callk rfl Try.call44 (Q03.check21 ⟨y1, y2, y3, y4⟩ hok) rfl ?_
      simp [told]
      refine ⟨fun h6 => ?_, fun h6 => ?_⟩
      · simp [d2 h5, h6, noneV]
      · simp [d2 h5, h6, Prog.row]
  · simp [he, hdec.1 he, noneV]
end Go.Sc.Cw
