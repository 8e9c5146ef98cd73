/- Chapter 03: what is wrong with a program: both texts say the same. No condition. -/
import Derived.Test.YtinpjecafkdikaaXT3l
set_option linter.constructorNameAsVariable false
namespace Go.Sc.Q03
open Go Go.RowKit Go.Av Go.Proofs
set_option linter.unusedSimpArgs false
set_option linter.unusedVariables false
/-- scarab/prog.Check -/
def c57 : ACode :=
  (.seq (.reg none [⟨some 1, none, .m (.box (.t 0))⟩, ⟨some 2, none, .q (.mv (.c (.i .i64 0)))⟩, ⟨some 3, none, .m (.alloc (.g [(.i .i64 0), (.i .i64 0)]))⟩])
  (.keep [1, 3]
  (.seq (.seq (.reg none [⟨some 14, none, .q (.ld (some 4) (.t 1))⟩, ⟨some 15, none, .call (.f 64) [(.t 14)]⟩, ⟨some 4, none, .q (.mv (.t 15))⟩])
    (.keep [1, 3, 4]
    (.seq (.reg none [⟨some 16, none, .q (.mv (.t 4))⟩, ⟨some 17, none, .q (.bin .neq (.t 16) (.c (.i .i64 0)))⟩])
    (.keep [1, 3, 4, 17]
    (.cond (.t 17) (.seq (.reg none [⟨some 18, none, .q (.mv (.t 4))⟩, ⟨some 19, none, .q (.bld [(.i .i64 0), (.i .i64 0)] [])⟩, ⟨some 2, none, .q (.mv (.t 18))⟩, ⟨none, none, .m (.st 2 (.t 3) (.t 19))⟩])
      .ret)
    .skip)))))
  (.seq (.seq (.reg none [⟨some 20, none, .q (.fa 3 (.t 1))⟩, ⟨some 21, none, .q (.ld none (.t 20))⟩, ⟨some 22, none, .q (.len false (.t 21))⟩, ⟨some 23, none, .q (.mv (.c (.i .i64 0)))⟩])
    (.keep [1, 3, 21, 22, 23]
    (.blk 0 (.keep [1, 3, 21, 22, 23]
    (.loop (.fin [1, 3, 21, 22, 23]
      (.seq (.reg none [⟨some 24, none, .q (.bin .lss (.t 23) (.t 22))⟩])
      (.keep [1, 3, 21, 22, 23, 24]
      (.seq (.cond (.t 24) .skip
        (.exit 0))
      (.seq (.blk 1 (.seq (.reg none [⟨some 25, none, .q (.mv (.t 23))⟩, ⟨some 26, none, .q (.ias 4 (.t 21) (.t 23))⟩, ⟨some 27, none, .q (.ld (some 4) (.t 26))⟩, ⟨some 6, none, .m (.alloc (.g [(.i .i64 0), (.i .i64 0), .nil, .nil]))⟩, ⟨some 5, none, .q (.mv (.t 25))⟩, ⟨none, none, .m (.st 4 (.t 6) (.t 27))⟩])
        (.keep [1, 3, 5, 6, 21, 22, 23]
        (.seq (.seq (.reg none [⟨some 28, none, .q (.ld (some 4) (.t 6))⟩, ⟨some 29, none, .q (.mv (.t 5))⟩, ⟨some 30, none, .q (.bin .eql (.t 29) (.c (.i .i64 0)))⟩, ⟨some 31, none, .call (.f 65) [(.t 28), (.t 30)]⟩, ⟨some 7, none, .q (.mv (.t 31))⟩])
          (.keep [1, 3, 5, 6, 7, 21, 22, 23]
          (.seq (.reg none [⟨some 32, none, .q (.mv (.t 7))⟩, ⟨some 33, none, .q (.bin .neq (.t 32) (.c (.i .i64 0)))⟩])
          (.keep [1, 3, 5, 6, 7, 21, 22, 23, 33]
          (.cond (.t 33) (.seq (.reg none [⟨some 34, none, .q (.mv (.t 7))⟩, ⟨some 35, none, .q (.mv (.t 5))⟩, ⟨some 36, none, .q (.bld [(.i .i64 0), (.i .i64 0)] [(0, 1, .t 35)])⟩, ⟨some 2, none, .q (.mv (.t 34))⟩, ⟨none, none, .m (.st 2 (.t 3) (.t 36))⟩])
            .ret)
          .skip)))))
        (.seq (.reg none [⟨some 37, none, .q (.ld (some 4) (.t 1))⟩, ⟨some 38, none, .q (.ld (some 4) (.t 6))⟩, ⟨some 39, none, .q (.bld [.nil, (.i .i64 0), .nil, .nil, (.i .i64 0), (.i .i64 0), .nil, .nil] [(0, 4, .t 37), (4, 4, .t 38)])⟩, ⟨some 40, none, .m (.box (.t 39))⟩, ⟨some 8, none, .q (.mv (.t 40))⟩])
        (.keep [1, 3, 5, 6, 8, 21, 22, 23]
        (.seq (.seq (.reg none [⟨some 41, none, .q (.mv (.t 8))⟩, ⟨some 42, none, .call (.f 66) [(.t 41)]⟩, ⟨some 9, none, .q (.mv (.t 42))⟩])
          (.keep [1, 3, 5, 6, 8, 9, 21, 22, 23]
          (.seq (.reg none [⟨some 43, none, .q (.mv (.t 9))⟩, ⟨some 44, none, .q (.bin .neq (.t 43) (.c (.i .i64 0)))⟩])
          (.keep [1, 3, 5, 6, 8, 9, 21, 22, 23, 44]
          (.cond (.t 44) (.seq (.reg none [⟨some 45, none, .q (.mv (.t 9))⟩, ⟨some 46, none, .q (.mv (.t 5))⟩, ⟨some 47, none, .q (.bld [(.i .i64 0), (.i .i64 0)] [(0, 1, .t 46)])⟩, ⟨some 2, none, .q (.mv (.t 45))⟩, ⟨none, none, .m (.st 2 (.t 3) (.t 47))⟩])
            .ret)
          .skip)))))
        (.seq (.seq (.reg none [⟨some 48, none, .q (.fa 2 (.t 6))⟩, ⟨some 49, none, .q (.ld none (.t 48))⟩, ⟨some 50, none, .q (.len false (.t 49))⟩, ⟨some 51, none, .q (.mv (.c (.i .i64 0)))⟩])
          (.keep [1, 3, 5, 6, 8, 21, 22, 23, 49, 50, 51]
          (.blk 2 (.keep [1, 3, 5, 6, 8, 21, 22, 23, 49, 50, 51]
          (.loop (.fin [1, 3, 5, 6, 8, 21, 22, 23, 49, 50, 51]
            (.seq (.reg none [⟨some 52, none, .q (.bin .lss (.t 51) (.t 50))⟩])
            (.keep [1, 3, 5, 6, 8, 21, 22, 23, 49, 50, 51, 52]
            (.seq (.cond (.t 52) .skip
              (.exit 2))
            (.seq (.blk 3 (.seq (.reg none [⟨some 53, none, .q (.mv (.t 51))⟩, ⟨some 54, none, .q (.ias 5 (.t 49) (.t 51))⟩, ⟨some 55, none, .q (.ld (some 5) (.t 54))⟩, ⟨some 11, none, .m (.alloc (.g [(.i .i64 0), (.i .i64 0), (.i .i64 0), (.i .i64 0), (.i .i64 0)]))⟩, ⟨some 10, none, .q (.mv (.t 53))⟩, ⟨none, none, .m (.st 5 (.t 11) (.t 55))⟩])
              (.keep [1, 3, 5, 6, 8, 10, 11, 21, 22, 23, 49, 50, 51]
              (.seq (.reg none [⟨some 56, none, .q (.mv (.t 8))⟩, ⟨some 57, none, .q (.ld (some 5) (.t 11))⟩, ⟨some 58, none, .call (.f 67) [(.t 56), (.t 57)]⟩, ⟨some 12, none, .q (.mv (.t 58))⟩])
              (.keep [1, 3, 5, 6, 8, 10, 12, 21, 22, 23, 49, 50, 51]
              (.seq (.reg none [⟨some 59, none, .q (.mv (.t 12))⟩, ⟨some 60, none, .q (.bin .neq (.t 59) (.c (.i .i64 0)))⟩])
              (.keep [1, 3, 5, 6, 8, 10, 12, 21, 22, 23, 49, 50, 51, 60]
              (.cond (.t 60) (.seq (.reg none [⟨some 61, none, .q (.mv (.t 12))⟩, ⟨some 62, none, .q (.mv (.t 5))⟩, ⟨some 63, none, .q (.mv (.t 10))⟩, ⟨some 64, none, .q (.bld [(.i .i64 0), (.i .i64 0)] [(0, 1, .t 62), (1, 1, .t 63)])⟩, ⟨some 2, none, .q (.mv (.t 61))⟩, ⟨none, none, .m (.st 2 (.t 3) (.t 64))⟩])
                .ret)
              .skip))))))))
            (.keep [1, 3, 5, 6, 8, 21, 22, 23, 49, 50, 51]
            (.reg none [⟨some 65, none, .q (.bin .add (.t 51) (.c (.i .i64 1)))⟩, ⟨some 51, none, .q (.mv (.t 65))⟩]))))))))))))
        (.seq (.reg none [⟨some 66, none, .q (.fa 2 (.t 6))⟩, ⟨some 67, none, .q (.ld none (.t 66))⟩, ⟨some 68, none, .q (.len false (.t 67))⟩, ⟨some 69, none, .q (.bin .sub (.t 68) (.c (.i .i64 1)))⟩, ⟨some 13, none, .q (.mv (.t 69))⟩])
        (.keep [1, 3, 5, 6, 13, 21, 22, 23]
        (.seq (.reg none [⟨some 70, none, .q (.fa 2 (.t 6))⟩, ⟨some 71, none, .q (.ld none (.t 70))⟩, ⟨some 72, none, .q (.mv (.t 13))⟩, ⟨some 73, none, .q (.ias 5 (.t 71) (.t 72))⟩, ⟨some 74, none, .q (.fa 0 (.t 73))⟩, ⟨some 75, none, .q (.ld none (.t 74))⟩])
        (.keep [1, 3, 5, 13, 21, 22, 23, 75]
        (.blk 4 (.seq (.seq (.reg none [⟨some 80, none, .q (.bin .eql (.t 75) (.c (.i .i64 42)))⟩, ⟨some 79, none, .q (.mv (.t 80))⟩])
          (.keep [1, 3, 5, 13, 21, 22, 23, 75, 79]
          (.cond (.t 79) .skip
          (.seq (.reg none [⟨some 81, none, .q (.bin .eql (.t 75) (.c (.i .i64 45)))⟩, ⟨some 79, none, .q (.mv (.t 81))⟩])
            (.keep [1, 3, 5, 13, 21, 22, 23, 75, 79]
            (.cond (.t 79) .skip
            (.reg none [⟨some 82, none, .q (.bin .eql (.t 75) (.c (.i .i64 61)))⟩, ⟨some 79, none, .q (.mv (.t 82))⟩])))))))
        (.cond (.t 79) .skip
        (.seq (.reg none [⟨some 76, none, .q (.mv (.t 5))⟩, ⟨some 77, none, .q (.mv (.t 13))⟩, ⟨some 78, none, .q (.bld [(.i .i64 0), (.i .i64 0)] [(0, 1, .t 76), (1, 1, .t 77)])⟩, ⟨some 2, none, .q (.mv (.c (.i .i64 39)))⟩, ⟨none, none, .m (.st 2 (.t 3) (.t 78))⟩])
          .ret))))))))))))))))
      (.keep [1, 3, 21, 22, 23]
      (.reg none [⟨some 83, none, .q (.bin .add (.t 23) (.c (.i .i64 1)))⟩, ⟨some 23, none, .q (.mv (.t 83))⟩]))))))))))))
  (.seq (.reg none [⟨some 84, none, .q (.bld [(.i .i64 0), (.i .i64 0)] [])⟩, ⟨some 2, none, .q (.mv (.c (.i .i64 0)))⟩, ⟨none, none, .m (.st 2 (.t 3) (.t 84))⟩])
  .ret)))))
theorem r57 : (Try.f57.body.bind (resC Try.prog Try.f57.ntmps)) = some (strip c57) := by kernel_rfl
theorem s57 : Try.f57.results.toList.mapM (resRes Try.prog) = some [.t 2, .c 3 (some 2)] := by kernel_rfl


theorem check21 (p : Prog) (hp : p.Ok) : PureS Try.prog 57 [.g p.row] (told (check p)) := by
  refine fun_go hmx Try.func57 r57 s57 (by rw [Try.ntmps57]; simp) ?_
  unfold c57
  simp [Prog.row]
  refine callk rfl Try.call64 (whole42 p hp) rfl ?_
  simp
  refine ⟨fun h => by simp [told, check, h], fun h => ?_⟩
  have hC : check p = firstT (funcT p) 0 p.funcs := by rw [check, if_neg (by simpa using h)]
  rw [hC]
  refine go_count hmx 23 0 p.funcs.length (fun i h => (∃ K, h = AObj.var (p.row.map .v) :: AObj.var [.v (.i .i64 0), .v (.i .i64 0)] :: K) ∧ firstT (funcT p) 0 p.funcs = firstT (funcT p) i (p.funcs.drop i)) (Nat.zero_le _) (hp.fewf.lt (by decide)) rfl ⟨⟨_, rfl⟩, rfl⟩ ?_ ?_
  · rintro i _ - hlt ⟨⟨K, rfl⟩, hj⟩ hw
    obtain ⟨h1, h2⟩ := firstT_at hj hlt
    have hok := hp.funcs p.funcs[i] (List.getElem_mem hlt)
    have hm : ((i : Int) == 0) = (i == 0) := by rw [Bool.eq_iff_iff]; simp
    generalize hx' : p.funcs[i] = f at *
    simp [hlt, hx', hw, Func.row, Prog.row]
    refine callk rfl Try.call65 (sizes43 (i == 0) f hok) (by simp [Func.row, hm]) ?_
    simp
    constructor
    · intro hF
      have e : funcT p i f = (32, (i : Int), 0) := by rw [funcT, if_pos hF]
      rw [h1 (by rw [e]; exact (by decide : (32 : Int) ≠ 0)), e]
      simp [hF, told]
    intro hF
    refine callz rfl Try.call66 (selects44 p f hok) (.i _ _) ⟨frz_pt (by simp [Prog.row, Func.row]), trivial⟩ ?_
    simp
    constructor
    · intro hS
      have e : funcT p i f = (selsE p f, (i : Int), 0) := by rw [funcT, if_neg (by rw [hF]; decide), if_pos hS]
      rw [h1 (by rw [e]; exact hS), e]
      simp [told]
    intro hS
    refine go_count hmx 51 0 f.code.length (fun j h => (∃ K', h = AObj.var (p.row.map .v) :: AObj.var [.v (.i .i64 0), .v (.i .i64 0)] :: (K ++ AObj.var (f.row.map .v) :: AObj.var ((p.row ++ f.row).map .v) :: K')) ∧ codeT p f i = firstT (fun pc x => (insE p f x, (i : Int), (pc : Int))) j (f.code.drop j)) (Nat.zero_le _) (hok.few.lt (by decide)) rfl ⟨⟨_, rfl⟩, rfl⟩ ?_ ?_
    · rintro j _ - hlt2 ⟨⟨K', rfl⟩, hj2⟩ hw2
      obtain ⟨k1, k2⟩ := firstT_at hj2 hlt2
      generalize hx2 : f.code[j] = x at *
      simp [hlt2, hx2, hw2, Func.row, Prog.row, Instr.row]
      refine callz rfl Try.call67 (instr45 p f x) (.i _ _) ⟨frz_pt (by simp [Prog.row, Func.row]), .v _, trivial⟩ ?_
      simp
      constructor
      · intro hI
        have e2 : codeT p f i = (insE p f x, (i : Int), (j : Int)) := k1 hI
        have e : funcT p i f = (insE p f x, (i : Int), (j : Int)) := by rw [funcT, if_neg (by rw [hF]; decide), if_neg (by simpa using hS), if_pos (by rw [e2]; exact hI), e2]
        rw [h1 (by rw [e]; exact hI), e]
        simp [told]
      · intro hI
        exact ⟨hw2, k2 hI⟩
    rintro _ ⟨⟨K', rfl⟩, hj2⟩
    have hz : codeT p f i = (0, 0, 0) := firstT_end hj2
    have hlen : 1 ≤ f.code.length ∧ f.code.length ≤ 64 := by
      rw [formed, Bool.and_eq_true, decide_eq_true_eq] at hF
      exact ⟨hF.1.2.2.2.2.2.1, hF.1.2.2.2.2.2.2.1⟩
    have hwl : IntKind.i64.wrap ((f.code.length : Int) - 1) = ((f.code.length - 1 : Nat) : Int) := by rw [wrap_in (by omega) (by omega)]; omega
    have hll : f.code.length - 1 < f.code.length := by omega
    have hlo : lastOp f = f.code[f.code.length - 1].op := by rw [lastOp]; simp [hll]
    simp [hwl, hll, Func.row, Prog.row, Instr.row]
    rw [← hlo]
    have eg : lastOp f = 42 ∨ lastOp f = 45 ∨ lastOp f = 61 → funcT p i f = (0, 0, 0) := fun u => by
      rw [funcT, if_neg (by rw [hF]; decide), if_neg (by simpa using hS), if_neg (by rw [hz]; decide), if_pos u]
    have eb : ¬ (lastOp f = 42 ∨ lastOp f = 45 ∨ lastOp f = 61) → funcT p i f = (39, (i : Int), ((f.code.length - 1 : Nat) : Int)) := fun u => by
      rw [funcT, if_neg (by rw [hF]; decide), if_neg (by simpa using hS), if_neg (by rw [hz]; decide), if_neg u]
    have ok : lastOp f = 42 ∨ lastOp f = 45 ∨ lastOp f = 61 → IntKind.i64.wrap ((i : Int) + 1) = (i : Int) + 1 ∧ firstT (funcT p) 0 p.funcs = firstT (funcT p) (i + 1) (List.drop (i + 1) p.funcs) := fun u => ⟨hw, h2 (by rw [eg u])⟩
    refine ⟨fun u => ⟨fun _ => ok (.inl u), fun v => absurd u v⟩, fun u => ⟨fun v => ⟨fun _ => ok (.inr (.inl v)), fun w => absurd v w⟩, fun v => ⟨fun w => ok (.inr (.inr w)), fun w => ?_⟩⟩⟩
    have e := eb (by rintro (x | x | x); exact u x; exact v x; exact w x)
    rw [h1 (by rw [e]; exact (by decide : (39 : Int) ≠ 0)), e]
    rfl
  rintro _ ⟨⟨K, rfl⟩, hj⟩
  rw [firstT_end hj]
  simp [told]
end Go.Sc.Q03
