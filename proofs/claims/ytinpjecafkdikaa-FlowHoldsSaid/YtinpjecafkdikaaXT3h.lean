/- Chapter 03: what is wrong with an operand: both texts say the same. No condition. -/
import Derived.Test.YtinpjecafkdikaaXT3g
set_option linter.constructorNameAsVariable false
namespace Go.Sc.Q03
open Go Go.RowKit Go.Av Go.Proofs
set_option linter.unusedSimpArgs false
set_option linter.unusedVariables false
/-- scarab/scarabref03.operand -/
def c71 : ACode :=
  (.seq (.reg none [⟨some 5, none, .m (.box (.t 0))⟩, ⟨some 6, none, .m (.box (.t 1))⟩, ⟨some 9, none, .m (.box (.t 4))⟩, ⟨some 10, none, .q (.mv (.c (.i .i64 0)))⟩])
  (.keep [2, 3, 5, 6, 9]
  (.seq (.seq (.reg none [⟨some 12, none, .q (.mv (.t 2))⟩])
    (.keep [3, 5, 6, 9, 12]
    (.blk 0 (.seq (.seq (.reg none [⟨some 14, none, .q (.bin .eql (.t 12) (.c (.i .u8 114)))⟩, ⟨some 13, none, .q (.mv (.t 14))⟩])
      (.keep [3, 5, 6, 9, 12, 13]
      (.cond (.t 13) .skip
      (.reg none [⟨some 15, none, .q (.bin .eql (.t 12) (.c (.i .u8 119)))⟩, ⟨some 13, none, .q (.mv (.t 15))⟩]))))
    (.cond (.t 13) (.seq (.reg none [⟨some 16, none, .q (.mv (.t 3))⟩, ⟨some 17, none, .q (.fa 1 (.t 6))⟩, ⟨some 18, none, .q (.ld none (.t 17))⟩, ⟨some 19, none, .call (.f 68) [(.t 16), (.t 18)]⟩, ⟨some 20, none, .q (.un .not (.t 19))⟩])
      (.keep [20]
      (.cond (.t 20) (.seq (.reg none [⟨some 10, none, .q (.mv (.c (.i .i64 35)))⟩])
        .ret)
      .skip)))
    (.seq (.reg none [⟨some 22, none, .q (.bin .eql (.t 12) (.c (.i .u8 111)))⟩, ⟨some 21, none, .q (.mv (.t 22))⟩])
      (.keep [3, 5, 6, 9, 12, 21]
      (.cond (.t 21) (.seq (.reg none [⟨some 23, none, .q (.mv (.t 3))⟩, ⟨some 24, none, .q (.bin .neq (.t 23) (.c (.i .i64 (-1))))⟩, ⟨some 25, none, .q (.mv (.t 24))⟩, ⟨some 26, some (25, true), .q (.mv (.t 3))⟩, ⟨some 27, some (25, true), .q (.fa 1 (.t 6))⟩, ⟨some 28, some (25, true), .q (.ld none (.t 27))⟩, ⟨some 29, some (25, true), .call (.f 68) [(.t 26), (.t 28)]⟩, ⟨some 30, some (25, true), .q (.un .not (.t 29))⟩, ⟨some 31, none, .pk (.t 25) (.t 30) (.c (.b false))⟩])
        (.keep [31]
        (.cond (.t 31) (.seq (.reg none [⟨some 10, none, .q (.mv (.c (.i .i64 35)))⟩])
          .ret)
        .skip)))
      (.seq (.reg none [⟨some 33, none, .q (.bin .eql (.t 12) (.c (.i .u8 112)))⟩, ⟨some 32, none, .q (.mv (.t 33))⟩])
        (.keep [3, 5, 6, 9, 12, 32]
        (.cond (.t 32) (.seq (.reg none [⟨some 34, none, .q (.fa 3 (.t 5))⟩, ⟨some 35, none, .q (.ld none (.t 34))⟩, ⟨some 36, none, .q (.fa 2 (.t 9))⟩, ⟨some 37, none, .q (.ld none (.t 36))⟩, ⟨some 38, none, .q (.ias 4 (.t 35) (.t 37))⟩, ⟨some 39, none, .q (.fa 0 (.t 38))⟩, ⟨some 40, none, .q (.ld none (.t 39))⟩, ⟨some 11, none, .q (.mv (.t 40))⟩])
          (.keep [3, 6, 11]
          (.seq (.reg none [⟨some 41, none, .q (.mv (.t 11))⟩, ⟨some 42, none, .q (.bin .eql (.t 41) (.c (.i .i64 0)))⟩, ⟨some 43, none, .q (.mv (.t 42))⟩, ⟨some 44, some (43, true), .q (.mv (.t 3))⟩, ⟨some 45, some (43, true), .q (.bin .neq (.t 44) (.c (.i .i64 0)))⟩, ⟨some 46, none, .pk (.t 43) (.t 45) (.c (.b false))⟩, ⟨some 47, none, .q (.mv (.t 46))⟩, ⟨some 48, some (47, false), .q (.mv (.t 11))⟩, ⟨some 49, some (47, false), .q (.bin .gtr (.t 48) (.c (.i .i64 0)))⟩, ⟨some 50, some (47, false), .q (.mv (.t 49))⟩, ⟨some 51, some (50, true), .q (.mv (.t 3))⟩, ⟨some 52, some (50, true), .q (.bin .lss (.t 51) (.c (.i .i64 0)))⟩, ⟨some 53, some (50, true), .q (.mv (.t 52))⟩, ⟨some 54, some (53, false), .q (.mv (.t 3))⟩, ⟨some 55, some (53, false), .q (.fa 1 (.t 6))⟩, ⟨some 56, some (53, false), .q (.ld none (.t 55))⟩, ⟨some 57, some (53, false), .q (.mv (.t 11))⟩, ⟨some 58, some (53, false), .q (.bin .sub (.t 56) (.t 57))⟩, ⟨some 59, some (53, false), .q (.bin .gtr (.t 54) (.t 58))⟩, ⟨some 60, some (50, true), .pk (.t 53) (.c (.b true)) (.t 59)⟩, ⟨some 61, some (47, false), .pk (.t 50) (.t 60) (.c (.b false))⟩, ⟨some 62, none, .pk (.t 47) (.c (.b true)) (.t 61)⟩])
          (.keep [62]
          (.cond (.t 62) (.seq (.reg none [⟨some 10, none, .q (.mv (.c (.i .i64 35)))⟩])
            .ret)
          .skip)))))
        (.seq (.reg none [⟨some 64, none, .q (.bin .eql (.t 12) (.c (.i .u8 118)))⟩, ⟨some 63, none, .q (.mv (.t 64))⟩])
          (.keep [3, 5, 6, 12, 63]
          (.cond (.t 63) (.seq (.reg none [⟨some 65, none, .q (.mv (.t 3))⟩, ⟨some 66, none, .q (.fa 0 (.t 5))⟩, ⟨some 67, none, .q (.ld none (.t 66))⟩, ⟨some 68, none, .q (.len false (.t 67))⟩, ⟨some 69, none, .call (.f 68) [(.t 65), (.t 68)]⟩, ⟨some 70, none, .q (.un .not (.t 69))⟩])
            (.keep [70]
            (.cond (.t 70) (.seq (.reg none [⟨some 10, none, .q (.mv (.c (.i .i64 36)))⟩])
              .ret)
            .skip)))
          (.seq (.reg none [⟨some 72, none, .q (.bin .eql (.t 12) (.c (.i .u8 97)))⟩, ⟨some 71, none, .q (.mv (.t 72))⟩])
            (.keep [3, 5, 6, 12, 71]
            (.cond (.t 71) (.seq (.seq (.reg none [⟨some 73, none, .q (.mv (.t 3))⟩, ⟨some 74, none, .q (.fa 0 (.t 5))⟩, ⟨some 75, none, .q (.ld none (.t 74))⟩, ⟨some 76, none, .q (.len false (.t 75))⟩, ⟨some 77, none, .call (.f 68) [(.t 73), (.t 76)]⟩, ⟨some 78, none, .q (.un .not (.t 77))⟩])
                (.keep [3, 5, 78]
                (.cond (.t 78) (.seq (.reg none [⟨some 10, none, .q (.mv (.c (.i .i64 36)))⟩])
                  .ret)
                .skip)))
              (.seq (.reg none [⟨some 79, none, .q (.fa 0 (.t 5))⟩, ⟨some 80, none, .q (.ld none (.t 79))⟩, ⟨some 81, none, .q (.mv (.t 3))⟩, ⟨some 82, none, .q (.ias 2 (.t 80) (.t 81))⟩, ⟨some 83, none, .q (.fa 0 (.t 82))⟩, ⟨some 84, none, .q (.ld none (.t 83))⟩, ⟨some 85, none, .q (.un .not (.t 84))⟩])
              (.keep [85]
              (.cond (.t 85) (.seq (.reg none [⟨some 10, none, .q (.mv (.c (.i .i64 37)))⟩])
                .ret)
              .skip))))
            (.seq (.reg none [⟨some 87, none, .q (.bin .eql (.t 12) (.c (.i .u8 108)))⟩, ⟨some 86, none, .q (.mv (.t 87))⟩])
              (.keep [3, 5, 6, 12, 86]
              (.cond (.t 86) (.seq (.reg none [⟨some 88, none, .q (.mv (.t 3))⟩, ⟨some 89, none, .q (.fa 1 (.t 5))⟩, ⟨some 90, none, .q (.ld none (.t 89))⟩, ⟨some 91, none, .call (.f 68) [(.t 88), (.t 90)]⟩, ⟨some 92, none, .q (.un .not (.t 91))⟩])
                (.keep [92]
                (.cond (.t 92) (.seq (.reg none [⟨some 10, none, .q (.mv (.c (.i .i64 36)))⟩])
                  .ret)
                .skip)))
              (.seq (.reg none [⟨some 94, none, .q (.bin .eql (.t 12) (.c (.i .u8 99)))⟩, ⟨some 93, none, .q (.mv (.t 94))⟩])
                (.keep [3, 5, 6, 12, 93]
                (.cond (.t 93) (.seq (.reg none [⟨some 95, none, .q (.mv (.t 3))⟩, ⟨some 96, none, .q (.fa 2 (.t 5))⟩, ⟨some 97, none, .q (.ld none (.t 96))⟩, ⟨some 98, none, .q (.len false (.t 97))⟩, ⟨some 99, none, .call (.f 68) [(.t 95), (.t 98)]⟩, ⟨some 100, none, .q (.un .not (.t 99))⟩])
                  (.keep [100]
                  (.cond (.t 100) (.seq (.reg none [⟨some 10, none, .q (.mv (.c (.i .i64 36)))⟩])
                    .ret)
                  .skip)))
                (.seq (.reg none [⟨some 102, none, .q (.bin .eql (.t 12) (.c (.i .u8 115)))⟩, ⟨some 101, none, .q (.mv (.t 102))⟩])
                  (.keep [3, 5, 6, 12, 101]
                  (.cond (.t 101) (.seq (.reg none [⟨some 103, none, .q (.mv (.t 3))⟩, ⟨some 104, none, .q (.fa 3 (.t 6))⟩, ⟨some 105, none, .q (.ld none (.t 104))⟩, ⟨some 106, none, .q (.len false (.t 105))⟩, ⟨some 107, none, .call (.f 68) [(.t 103), (.t 106)]⟩, ⟨some 108, none, .q (.un .not (.t 107))⟩])
                    (.keep [108]
                    (.cond (.t 108) (.seq (.reg none [⟨some 10, none, .q (.mv (.c (.i .i64 36)))⟩])
                      .ret)
                    .skip)))
                  (.seq (.reg none [⟨some 110, none, .q (.bin .eql (.t 12) (.c (.i .u8 102)))⟩, ⟨some 109, none, .q (.mv (.t 110))⟩])
                    (.keep [3, 5, 6, 12, 109]
                    (.cond (.t 109) (.seq (.reg none [⟨some 111, none, .q (.mv (.t 3))⟩, ⟨some 112, none, .q (.fa 3 (.t 5))⟩, ⟨some 113, none, .q (.ld none (.t 112))⟩, ⟨some 114, none, .q (.len false (.t 113))⟩, ⟨some 115, none, .call (.f 68) [(.t 111), (.t 114)]⟩, ⟨some 116, none, .q (.un .not (.t 115))⟩])
                      (.keep [116]
                      (.cond (.t 116) (.seq (.reg none [⟨some 10, none, .q (.mv (.c (.i .i64 36)))⟩])
                        .ret)
                      .skip)))
                    (.seq (.reg none [⟨some 118, none, .q (.bin .eql (.t 12) (.c (.i .u8 116)))⟩, ⟨some 117, none, .q (.mv (.t 118))⟩])
                      (.keep [3, 6, 117]
                      (.cond (.t 117) (.seq (.reg none [⟨some 119, none, .q (.mv (.t 3))⟩, ⟨some 120, none, .q (.fa 2 (.t 6))⟩, ⟨some 121, none, .q (.ld none (.t 120))⟩, ⟨some 122, none, .q (.len false (.t 121))⟩, ⟨some 123, none, .call (.f 68) [(.t 119), (.t 122)]⟩, ⟨some 124, none, .q (.un .not (.t 123))⟩])
                        (.keep [124]
                        (.cond (.t 124) (.seq (.reg none [⟨some 10, none, .q (.mv (.c (.i .i64 38)))⟩])
                          .ret)
                        .skip)))
                      .skip))))))))))))))))))))))))))))))))
  (.seq (.reg none [⟨some 10, none, .q (.mv (.c (.i .i64 0)))⟩])
  .ret))))
theorem r71 : (Try.f71.body.bind (resC Try.prog Try.f71.ntmps)) = some (strip c71) := by kernel_rfl
theorem s71 : Try.f71.results.toList.mapM (resRes Try.prog) = some [.t 10] := by kernel_rfl

theorem operand69 (p : Prog) (f : Func) (i : Instr) (l n : Int) (hb : l = 112 → 0 ≤ i.b ∧ i.b < p.funcs.length) : PureS Try.prog 71 [.g p.row, .g f.row, .i .u8 l, .i .i64 n, .g i.row] (.i .i64 (opE p f l n i.b)) := by
  refine fun_go hmx Try.func71 r71 s71 (by rw [Try.ntmps71]; simp) ?_
  unfold c71
  have ob : ∀ (m : Int), (within n m = false → 36 = objE n m) ∧ (within n m = true → 0 = objE n m) := fun m => ⟨fun h => by simp [objE, h], fun h => by simp [objE, h]⟩
  have rg : (within n f.regs = false → 35 = regE f n) ∧ (within n f.regs = true → 0 = regE f n) := ⟨fun h => by simp [regE, h], fun h => by simp [regE, h]⟩
  have tg : (within n f.code.length = false → 38 = tgtE f n) ∧ (within n f.code.length = true → 0 = tgtE f n) := ⟨fun h => by simp [tgtE, h], fun h => by simp [tgtE, h]⟩
  by_cases l2 : l = 114
  · subst l2
    simp [opE, Instr.row, Prog.row, Func.row]
    refine callk rfl Try.call68 (within68 n f.regs) rfl ?_
    simp
    exact rg
  by_cases l3 : l = 119
  · subst l3
    simp [opE, Instr.row, Prog.row, Func.row]
    refine callk rfl Try.call68 (within68 n f.regs) rfl ?_
    simp
    exact rg
  by_cases l1 : l = 111
  · subst l1
    simp [opE, Instr.row, Prog.row, Func.row]
    refine callkg rfl Try.call68 rfl (fun _ => within68 n f.regs) (by simp) rfl ?_
    simp
    by_cases hn : n = -1
    · simp [hn]
    · simp [hn]; exact rg
  by_cases l11 : l = 112
  · subst l11
    obtain ⟨b0, b1⟩ := hb rfl
    have hlt : i.b.toNat < p.funcs.length := by omega
    simp [opE, Instr.row, Prog.row, Func.row, b0, b1, hlt]
    generalize IntKind.i64.wrap (f.regs - p.funcs[i.b.toNat].params) = W
    generalize p.funcs[i.b.toNat].params = k
    refine ⟨fun h1 h2 => ⟨⟨h1, h2⟩, fun h3 => ⟨⟨h1, h2⟩, h3⟩⟩, fun h1 => ⟨h1, fun h2 => ⟨h1, h2⟩⟩, fun h1 => by omega, fun h1 h2 => ⟨by omega, fun h3 => by omega⟩⟩
  by_cases l4 : l = 118
  · subst l4
    simp [opE, Instr.row, Prog.row, Func.row]
    refine callk rfl Try.call68 (within68 n p.vars.length) rfl ?_
    simp
    exact ob _
  by_cases l5 : l = 97
  · subst l5
    simp [opE, Instr.row, Prog.row, Func.row]
    refine callk rfl Try.call68 (within68 n p.vars.length) rfl ?_
    simp
    refine ⟨fun h => by simp [h], fun h => ?_⟩
    obtain ⟨h1, h2⟩ := within_iff.1 h
    have hlt : n.toNat < p.vars.length := by omega
    simp [h1, h2, h, hlt, Var.row]
  by_cases l6 : l = 108
  · subst l6
    simp [opE, Instr.row, Prog.row, Func.row]
    refine callk rfl Try.call68 (within68 n p.locks) rfl ?_
    simp
    exact ob _
  by_cases l7 : l = 99
  · subst l7
    simp [opE, Instr.row, Prog.row, Func.row]
    refine callk rfl Try.call68 (within68 n p.chans.length) rfl ?_
    simp
    exact ob _
  by_cases l8 : l = 115
  · subst l8
    simp [opE, Instr.row, Prog.row, Func.row]
    refine callk rfl Try.call68 (within68 n f.selects.length) rfl ?_
    simp
    exact ob _
  by_cases l9 : l = 102
  · subst l9
    simp [opE, Instr.row, Prog.row, Func.row]
    refine callk rfl Try.call68 (within68 n p.funcs.length) rfl ?_
    simp
    exact ob _
  by_cases l10 : l = 116
  · subst l10
    simp [opE, Instr.row, Prog.row, Func.row]
    refine callk rfl Try.call68 (within68 n f.code.length) rfl ?_
    simp
    exact tg
  simp [opE, l1, l2, l3, l4, l5, l6, l7, l8, l9, l10, l11]
end Go.Sc.Q03
