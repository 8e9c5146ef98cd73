/- Chapter 03: what is wrong with an operand: both texts say the same. No condition. -/
import Derived.Test.YtinpjecafkdikaaXT3
import Derived.Test.YtinpjecafkdikaaXSc
set_option linter.constructorNameAsVariable false
namespace Go.Sc.Q03
open Go Go.RowKit Go.Av Go.Proofs
set_option linter.unusedSimpArgs false
set_option linter.unusedVariables false
/-- scarab/prog.within -/
def c78 : ACode :=
  (.seq (.reg none [⟨some 4, none, .q (.mv (.c (.b false)))⟩])
  (.keep [0, 1]
  (.seq (.reg none [⟨some 5, none, .q (.mv (.t 0))⟩, ⟨some 6, none, .q (.bin .geq (.t 5) (.c (.i .i64 0)))⟩, ⟨some 7, none, .q (.mv (.t 6))⟩, ⟨some 8, some (7, true), .q (.mv (.t 0))⟩, ⟨some 9, some (7, true), .q (.mv (.t 1))⟩, ⟨some 10, some (7, true), .q (.bin .lss (.t 8) (.t 9))⟩, ⟨some 11, none, .pk (.t 7) (.t 10) (.c (.b false))⟩, ⟨some 4, none, .q (.mv (.t 11))⟩])
  .ret)))
theorem r78 : (Try.f78.body.bind (resC Try.prog Try.f78.ntmps)) = some (strip c78) := by kernel_rfl
theorem s78 : Try.f78.results.toList.mapM (resRes Try.prog) = some [.t 4] := by kernel_rfl
/-- scarab/prog.object -/
def c72 : ACode :=
  (.seq (.reg none [⟨some 4, none, .q (.mv (.c (.i .i64 0)))⟩])
  (.keep [0, 1]
  (.seq (.seq (.reg none [⟨some 5, none, .q (.mv (.t 0))⟩, ⟨some 6, none, .q (.mv (.t 1))⟩, ⟨some 7, none, .call (.f 78) [(.t 5), (.t 6)]⟩, ⟨some 8, none, .q (.un .not (.t 7))⟩])
    (.keep [8]
    (.cond (.t 8) (.seq (.reg none [⟨some 4, none, .q (.mv (.c (.i .i64 36)))⟩])
      .ret)
    .skip)))
  (.seq (.reg none [⟨some 4, none, .q (.mv (.c (.i .i64 0)))⟩])
  .ret))))
theorem r72 : (Try.f72.body.bind (resC Try.prog Try.f72.ntmps)) = some (strip c72) := by kernel_rfl
theorem s72 : Try.f72.results.toList.mapM (resRes Try.prog) = some [.t 4] := by kernel_rfl
/-- (*scarab/prog.checker).register -/
def c73 : ACode :=
  (.seq (.reg none [⟨some 4, none, .q (.mv (.c (.i .i64 0)))⟩])
  (.keep [0, 1]
  (.seq (.seq (.reg none [⟨some 5, none, .q (.mv (.t 1))⟩, ⟨some 6, none, .q (.mv (.t 0))⟩, ⟨some 7, none, .q (.nck (.t 6))⟩, ⟨some 8, none, .q (.fa 4 (.t 7))⟩, ⟨some 9, none, .q (.fa 1 (.t 8))⟩, ⟨some 10, none, .q (.ld none (.t 9))⟩, ⟨some 11, none, .call (.f 78) [(.t 5), (.t 10)]⟩, ⟨some 12, none, .q (.un .not (.t 11))⟩])
    (.keep [12]
    (.cond (.t 12) (.seq (.reg none [⟨some 4, none, .q (.mv (.c (.i .i64 35)))⟩])
      .ret)
    .skip)))
  (.seq (.reg none [⟨some 4, none, .q (.mv (.c (.i .i64 0)))⟩])
  .ret))))
theorem r73 : (Try.f73.body.bind (resC Try.prog Try.f73.ntmps)) = some (strip c73) := by kernel_rfl
theorem s73 : Try.f73.results.toList.mapM (resRes Try.prog) = some [.t 4] := by kernel_rfl
/-- (*scarab/prog.checker).target -/
def c74 : ACode :=
  (.seq (.reg none [⟨some 4, none, .q (.mv (.c (.i .i64 0)))⟩])
  (.keep [0, 1]
  (.seq (.seq (.reg none [⟨some 5, none, .q (.mv (.t 1))⟩, ⟨some 6, none, .q (.mv (.t 0))⟩, ⟨some 7, none, .q (.nck (.t 6))⟩, ⟨some 8, none, .q (.fa 4 (.t 7))⟩, ⟨some 9, none, .q (.fa 2 (.t 8))⟩, ⟨some 10, none, .q (.ld none (.t 9))⟩, ⟨some 11, none, .q (.len false (.t 10))⟩, ⟨some 12, none, .call (.f 78) [(.t 5), (.t 11)]⟩, ⟨some 13, none, .q (.un .not (.t 12))⟩])
    (.keep [13]
    (.cond (.t 13) (.seq (.reg none [⟨some 4, none, .q (.mv (.c (.i .i64 38)))⟩])
      .ret)
    .skip)))
  (.seq (.reg none [⟨some 4, none, .q (.mv (.c (.i .i64 0)))⟩])
  .ret))))
theorem r74 : (Try.f74.body.bind (resC Try.prog Try.f74.ntmps)) = some (strip c74) := by kernel_rfl
theorem s74 : Try.f74.results.toList.mapM (resRes Try.prog) = some [.t 4] := by kernel_rfl
/-- (*scarab/prog.checker).operand -/
def c77 : ACode :=
  (.seq (.reg none [⟨some 7, none, .m (.box (.t 3))⟩, ⟨some 8, none, .q (.mv (.c (.i .i64 0)))⟩])
  (.keep [0, 1, 2, 7]
  (.seq (.seq (.reg none [⟨some 12, none, .q (.mv (.t 1))⟩])
    (.keep [0, 2, 7, 12]
    (.blk 0 (.seq (.reg none [⟨some 14, none, .q (.bin .eql (.t 12) (.c (.i .u8 111)))⟩, ⟨some 13, none, .q (.mv (.t 14))⟩])
    (.keep [0, 2, 7, 12, 13]
    (.cond (.t 13) (.seq (.seq (.reg none [⟨some 15, none, .q (.mv (.t 2))⟩, ⟨some 16, none, .q (.bin .eql (.t 15) (.c (.i .i64 (-1))))⟩])
        (.keep [0, 2, 16]
        (.cond (.t 16) (.seq (.reg none [⟨some 8, none, .q (.mv (.c (.i .i64 0)))⟩])
          .ret)
        .skip)))
      (.seq (.reg none [⟨some 17, none, .q (.mv (.t 0))⟩, ⟨some 18, none, .q (.mv (.t 2))⟩, ⟨some 19, none, .call (.f 73) [(.t 17), (.t 18)]⟩, ⟨some 8, none, .q (.mv (.t 19))⟩])
      .ret))
    (.seq (.seq (.reg none [⟨some 21, none, .q (.bin .eql (.t 12) (.c (.i .u8 114)))⟩, ⟨some 20, none, .q (.mv (.t 21))⟩])
        (.keep [0, 2, 7, 12, 20]
        (.cond (.t 20) .skip
        (.reg none [⟨some 22, none, .q (.bin .eql (.t 12) (.c (.i .u8 119)))⟩, ⟨some 20, none, .q (.mv (.t 22))⟩]))))
      (.cond (.t 20) (.seq (.reg none [⟨some 23, none, .q (.mv (.t 0))⟩, ⟨some 24, none, .q (.mv (.t 2))⟩, ⟨some 25, none, .call (.f 73) [(.t 23), (.t 24)]⟩, ⟨some 8, none, .q (.mv (.t 25))⟩])
        .ret)
      (.seq (.reg none [⟨some 27, none, .q (.bin .eql (.t 12) (.c (.i .u8 118)))⟩, ⟨some 26, none, .q (.mv (.t 27))⟩])
        (.keep [0, 2, 7, 12, 26]
        (.cond (.t 26) (.seq (.seq (.reg none [⟨some 28, none, .q (.mv (.t 2))⟩, ⟨some 29, none, .q (.mv (.t 0))⟩, ⟨some 30, none, .q (.nck (.t 29))⟩, ⟨some 31, none, .q (.fa 0 (.t 30))⟩, ⟨some 32, none, .q (.fa 0 (.t 31))⟩, ⟨some 33, none, .q (.ld none (.t 32))⟩, ⟨some 34, none, .q (.len false (.t 33))⟩, ⟨some 35, none, .call (.f 72) [(.t 28), (.t 34)]⟩, ⟨some 9, none, .q (.mv (.t 35))⟩])
            (.keep [9]
            (.seq (.reg none [⟨some 36, none, .q (.mv (.t 9))⟩, ⟨some 37, none, .q (.bin .neq (.t 36) (.c (.i .i64 0)))⟩])
            (.keep [9, 37]
            (.cond (.t 37) (.seq (.reg none [⟨some 38, none, .q (.mv (.t 9))⟩, ⟨some 8, none, .q (.mv (.t 38))⟩])
              .ret)
            .skip)))))
          (.seq (.reg none [⟨some 8, none, .q (.mv (.c (.i .i64 0)))⟩])
          .ret))
        (.seq (.reg none [⟨some 40, none, .q (.bin .eql (.t 12) (.c (.i .u8 97)))⟩, ⟨some 39, none, .q (.mv (.t 40))⟩])
          (.keep [0, 2, 7, 12, 39]
          (.cond (.t 39) (.seq (.seq (.reg none [⟨some 41, none, .q (.mv (.t 2))⟩, ⟨some 42, none, .q (.mv (.t 0))⟩, ⟨some 43, none, .q (.nck (.t 42))⟩, ⟨some 44, none, .q (.fa 0 (.t 43))⟩, ⟨some 45, none, .q (.fa 0 (.t 44))⟩, ⟨some 46, none, .q (.ld none (.t 45))⟩, ⟨some 47, none, .q (.len false (.t 46))⟩, ⟨some 48, none, .call (.f 72) [(.t 41), (.t 47)]⟩, ⟨some 10, none, .q (.mv (.t 48))⟩])
              (.keep [0, 2, 10]
              (.seq (.reg none [⟨some 49, none, .q (.mv (.t 10))⟩, ⟨some 50, none, .q (.bin .neq (.t 49) (.c (.i .i64 0)))⟩])
              (.keep [0, 2, 10, 50]
              (.cond (.t 50) (.seq (.reg none [⟨some 51, none, .q (.mv (.t 10))⟩, ⟨some 8, none, .q (.mv (.t 51))⟩])
                .ret)
              .skip)))))
            (.seq (.reg none [⟨some 52, none, .q (.mv (.t 0))⟩, ⟨some 53, none, .q (.nck (.t 52))⟩, ⟨some 54, none, .q (.fa 0 (.t 53))⟩, ⟨some 55, none, .q (.fa 0 (.t 54))⟩, ⟨some 56, none, .q (.ld none (.t 55))⟩, ⟨some 57, none, .q (.mv (.t 2))⟩, ⟨some 58, none, .q (.ias 2 (.t 56) (.t 57))⟩, ⟨some 59, none, .q (.fa 0 (.t 58))⟩, ⟨some 60, none, .q (.ld none (.t 59))⟩, ⟨some 61, none, .q (.un .not (.t 60))⟩])
            (.keep [61]
            (.cond (.t 61) (.seq (.reg none [⟨some 8, none, .q (.mv (.c (.i .i64 37)))⟩])
              .ret)
            .skip))))
          (.seq (.reg none [⟨some 63, none, .q (.bin .eql (.t 12) (.c (.i .u8 108)))⟩, ⟨some 62, none, .q (.mv (.t 63))⟩])
            (.keep [0, 2, 7, 12, 62]
            (.cond (.t 62) (.seq (.reg none [⟨some 64, none, .q (.mv (.t 2))⟩, ⟨some 65, none, .q (.mv (.t 0))⟩, ⟨some 66, none, .q (.nck (.t 65))⟩, ⟨some 67, none, .q (.fa 0 (.t 66))⟩, ⟨some 68, none, .q (.fa 1 (.t 67))⟩, ⟨some 69, none, .q (.ld none (.t 68))⟩, ⟨some 70, none, .call (.f 72) [(.t 64), (.t 69)]⟩, ⟨some 8, none, .q (.mv (.t 70))⟩])
              .ret)
            (.seq (.reg none [⟨some 72, none, .q (.bin .eql (.t 12) (.c (.i .u8 99)))⟩, ⟨some 71, none, .q (.mv (.t 72))⟩])
              (.keep [0, 2, 7, 12, 71]
              (.cond (.t 71) (.seq (.reg none [⟨some 73, none, .q (.mv (.t 2))⟩, ⟨some 74, none, .q (.mv (.t 0))⟩, ⟨some 75, none, .q (.nck (.t 74))⟩, ⟨some 76, none, .q (.fa 0 (.t 75))⟩, ⟨some 77, none, .q (.fa 2 (.t 76))⟩, ⟨some 78, none, .q (.ld none (.t 77))⟩, ⟨some 79, none, .q (.len false (.t 78))⟩, ⟨some 80, none, .call (.f 72) [(.t 73), (.t 79)]⟩, ⟨some 8, none, .q (.mv (.t 80))⟩])
                .ret)
              (.seq (.reg none [⟨some 82, none, .q (.bin .eql (.t 12) (.c (.i .u8 115)))⟩, ⟨some 81, none, .q (.mv (.t 82))⟩])
                (.keep [0, 2, 7, 12, 81]
                (.cond (.t 81) (.seq (.reg none [⟨some 83, none, .q (.mv (.t 2))⟩, ⟨some 84, none, .q (.mv (.t 0))⟩, ⟨some 85, none, .q (.nck (.t 84))⟩, ⟨some 86, none, .q (.fa 4 (.t 85))⟩, ⟨some 87, none, .q (.fa 3 (.t 86))⟩, ⟨some 88, none, .q (.ld none (.t 87))⟩, ⟨some 89, none, .q (.len false (.t 88))⟩, ⟨some 90, none, .call (.f 72) [(.t 83), (.t 89)]⟩, ⟨some 8, none, .q (.mv (.t 90))⟩])
                  .ret)
                (.seq (.reg none [⟨some 92, none, .q (.bin .eql (.t 12) (.c (.i .u8 102)))⟩, ⟨some 91, none, .q (.mv (.t 92))⟩])
                  (.keep [0, 2, 7, 12, 91]
                  (.cond (.t 91) (.seq (.reg none [⟨some 93, none, .q (.mv (.t 2))⟩, ⟨some 94, none, .q (.mv (.t 0))⟩, ⟨some 95, none, .q (.nck (.t 94))⟩, ⟨some 96, none, .q (.fa 0 (.t 95))⟩, ⟨some 97, none, .q (.fa 3 (.t 96))⟩, ⟨some 98, none, .q (.ld none (.t 97))⟩, ⟨some 99, none, .q (.len false (.t 98))⟩, ⟨some 100, none, .call (.f 72) [(.t 93), (.t 99)]⟩, ⟨some 8, none, .q (.mv (.t 100))⟩])
                    .ret)
                  (.seq (.reg none [⟨some 102, none, .q (.bin .eql (.t 12) (.c (.i .u8 116)))⟩, ⟨some 101, none, .q (.mv (.t 102))⟩])
                    (.keep [0, 2, 7, 12, 101]
                    (.cond (.t 101) (.seq (.reg none [⟨some 103, none, .q (.mv (.t 0))⟩, ⟨some 104, none, .q (.mv (.t 2))⟩, ⟨some 105, none, .call (.f 74) [(.t 103), (.t 104)]⟩, ⟨some 8, none, .q (.mv (.t 105))⟩])
                      .ret)
                    (.seq (.reg none [⟨some 107, none, .q (.bin .eql (.t 12) (.c (.i .u8 112)))⟩, ⟨some 106, none, .q (.mv (.t 107))⟩])
                      (.keep [0, 2, 7, 106]
                      (.cond (.t 106) (.seq (.reg (some (11, [])) [⟨some 108, none, .q (.mv (.t 0))⟩, ⟨some 109, none, .q (.nck (.t 108))⟩, ⟨some 110, none, .q (.fa 0 (.t 109))⟩, ⟨some 111, none, .q (.fa 3 (.t 110))⟩, ⟨some 112, none, .q (.ld none (.t 111))⟩, ⟨some 113, none, .q (.fa 2 (.t 7))⟩, ⟨some 114, none, .q (.ld none (.t 113))⟩, ⟨some 115, none, .q (.ias 4 (.t 112) (.t 114))⟩, ⟨some 116, none, .q (.fa 0 (.t 115))⟩, ⟨some 117, none, .q (.ld none (.t 116))⟩, ⟨some 11, none, .q (.mv (.t 117))⟩])
                        (.keep [0, 2, 11]
                        (.seq (.reg none [⟨some 118, none, .q (.mv (.t 11))⟩, ⟨some 119, none, .q (.bin .eql (.t 118) (.c (.i .i64 0)))⟩, ⟨some 120, none, .q (.mv (.t 119))⟩, ⟨some 121, some (120, true), .q (.mv (.t 2))⟩, ⟨some 122, some (120, true), .q (.bin .neq (.t 121) (.c (.i .i64 0)))⟩, ⟨some 123, none, .pk (.t 120) (.t 122) (.c (.b false))⟩, ⟨some 124, none, .q (.mv (.t 123))⟩, ⟨some 125, some (124, false), .q (.mv (.t 11))⟩, ⟨some 126, some (124, false), .q (.bin .gtr (.t 125) (.c (.i .i64 0)))⟩, ⟨some 127, some (124, false), .q (.mv (.t 126))⟩, ⟨some 128, some (127, true), .q (.mv (.t 2))⟩, ⟨some 129, some (127, true), .q (.bin .lss (.t 128) (.c (.i .i64 0)))⟩, ⟨some 130, some (127, true), .q (.mv (.t 129))⟩, ⟨some 131, some (130, false), .q (.mv (.t 2))⟩, ⟨some 132, some (130, false), .q (.mv (.t 0))⟩, ⟨some 133, some (130, false), .q (.nck (.t 132))⟩, ⟨some 134, some (130, false), .q (.fa 4 (.t 133))⟩, ⟨some 135, some (130, false), .q (.fa 1 (.t 134))⟩, ⟨some 136, some (130, false), .q (.ld none (.t 135))⟩, ⟨some 137, some (130, false), .q (.mv (.t 11))⟩, ⟨some 138, some (130, false), .q (.bin .sub (.t 136) (.t 137))⟩, ⟨some 139, some (130, false), .q (.bin .gtr (.t 131) (.t 138))⟩, ⟨some 140, some (127, true), .pk (.t 130) (.c (.b true)) (.t 139)⟩, ⟨some 141, some (124, false), .pk (.t 127) (.t 140) (.c (.b false))⟩, ⟨some 142, none, .pk (.t 124) (.c (.b true)) (.t 141)⟩])
                        (.keep [142]
                        (.cond (.t 142) (.seq (.reg none [⟨some 8, none, .q (.mv (.c (.i .i64 35)))⟩])
                          .ret)
                        .skip)))))
                      .skip))))))))))))))))))))))))))))))))
  (.seq (.reg none [⟨some 8, none, .q (.mv (.c (.i .i64 0)))⟩])
  .ret))))
theorem r77 : (Try.f77.body.bind (resC Try.prog Try.f77.ntmps)) = some (strip c77) := by kernel_rfl
theorem s77 : Try.f77.results.toList.mapM (resRes Try.prog) = some [.t 8] := by kernel_rfl
/-- scarab/scarabref03.within -/
def c68 : ACode :=
  (.seq (.reg none [⟨some 4, none, .q (.mv (.c (.b false)))⟩])
  (.keep [0, 1]
  (.seq (.reg none [⟨some 5, none, .q (.mv (.t 0))⟩, ⟨some 6, none, .q (.bin .geq (.t 5) (.c (.i .i64 0)))⟩, ⟨some 7, none, .q (.mv (.t 6))⟩, ⟨some 8, some (7, true), .q (.mv (.t 0))⟩, ⟨some 9, some (7, true), .q (.mv (.t 1))⟩, ⟨some 10, some (7, true), .q (.bin .lss (.t 8) (.t 9))⟩, ⟨some 11, none, .pk (.t 7) (.t 10) (.c (.b false))⟩, ⟨some 4, none, .q (.mv (.t 11))⟩])
  .ret)))
theorem r68 : (Try.f68.body.bind (resC Try.prog Try.f68.ntmps)) = some (strip c68) := by kernel_rfl
theorem s68 : Try.f68.results.toList.mapM (resRes Try.prog) = some [.t 4] := by kernel_rfl

theorem within67 (n m : Int) : PureS Try.prog 78 [.i .i64 n, .i .i64 m] (.b (within n m)) := by
  refine fun_go hmx Try.func78 r78 s78 (by rw [Try.ntmps78]; simp) ?_
  unfold c78
  simp [within]
theorem within68 (n m : Int) : PureS Try.prog 68 [.i .i64 n, .i .i64 m] (.b (within n m)) := by
  refine fun_go hmx Try.func68 r68 s68 (by rw [Try.ntmps68]; simp) ?_
  unfold c68
  simp [within]
theorem object54 (n m : Int) : PureS Try.prog 72 [.i .i64 n, .i .i64 m] (.i .i64 (objE n m)) := by
  refine fun_go hmx Try.func72 r72 s72 (by rw [Try.ntmps72]; simp) ?_
  unfold c72
  simp
  refine callk rfl Try.call78 (within67 n m) rfl ?_
  simp [objE]
theorem register55 (p : Prog) (f : Func) (n : Int) : PureS Try.prog 73 [.pim (p.row ++ f.row), .i .i64 n] (.i .i64 (regE f n)) := by
  refine fun_go hmx Try.func73 r73 s73 (by rw [Try.ntmps73]; simp) ?_
  unfold c73
  simp [Prog.row, Func.row]
  refine callk rfl Try.call78 (within67 n f.regs) rfl ?_
  simp [regE]
theorem target56 (p : Prog) (f : Func) (n : Int) : PureS Try.prog 74 [.pim (p.row ++ f.row), .i .i64 n] (.i .i64 (tgtE f n)) := by
  refine fun_go hmx Try.func74 r74 s74 (by rw [Try.ntmps74]; simp) ?_
  unfold c74
  simp [Prog.row, Func.row]
  refine callk rfl Try.call78 (within67 n f.code.length) rfl ?_
  simp [tgtE]

theorem operand58 (p : Prog) (f : Func) (i : Instr) (l n : Int) (hb : l = 112 → 0 ≤ i.b ∧ i.b < p.funcs.length) : PureS Try.prog 77 [.pim (p.row ++ f.row), .i .u8 l, .i .i64 n, .g i.row] (.i .i64 (opE p f l n i.b)) := by
  refine fun_go hmx Try.func77 r77 s77 (by rw [Try.ntmps77]; simp) ?_
  unfold c77
  by_cases l1 : l = 111
  · subst l1
    simp [opE, Instr.row]
    refine ⟨fun h => by simp [h], fun h => callk rfl Try.call73 (register55 p f n) rfl ?_⟩
    simp [h]
  by_cases l2 : l = 114
  · subst l2
    simp [opE, Instr.row]
    exact callk rfl Try.call73 (register55 p f n) rfl (by simp)
  by_cases l3 : l = 119
  · subst l3
    simp [opE, Instr.row]
    exact callk rfl Try.call73 (register55 p f n) rfl (by simp)
  by_cases l4 : l = 118
  · subst l4
    simp [opE, Instr.row, Prog.row, Func.row]
    refine callk rfl Try.call72 (object54 n p.vars.length) rfl ?_
    simp
    exact fun h => h.symm
  by_cases l5 : l = 97
  · subst l5
    simp [opE, Instr.row, Prog.row, Func.row]
    refine callk rfl Try.call72 (object54 n p.vars.length) rfl ?_
    simp
    refine ⟨fun h => ?_, fun h => ?_⟩
    · obtain ⟨h1, h2⟩ := objE_not h
      simp [h1, h2]
    · obtain ⟨h1, h2⟩ := objE_zero.1 h
      have hlt : n.toNat < p.vars.length := by omega
      simp [h1, h2, within_iff.2 ⟨h1, h2⟩, hlt, Var.row]
  by_cases l6 : l = 108
  · subst l6
    simp [opE, Instr.row, Prog.row, Func.row]
    exact callk rfl Try.call72 (object54 n p.locks) rfl (by simp)
  by_cases l7 : l = 99
  · subst l7
    simp [opE, Instr.row, Prog.row, Func.row]
    exact callk rfl Try.call72 (object54 n p.chans.length) rfl (by simp)
  by_cases l8 : l = 115
  · subst l8
    simp [opE, Instr.row, Prog.row, Func.row]
    exact callk rfl Try.call72 (object54 n f.selects.length) rfl (by simp)
  by_cases l9 : l = 102
  · subst l9
    simp [opE, Instr.row, Prog.row, Func.row]
    exact callk rfl Try.call72 (object54 n p.funcs.length) rfl (by simp)
  by_cases l10 : l = 116
  · subst l10
    simp [opE, Instr.row]
    exact callk rfl Try.call74 (target56 p f n) rfl (by simp)
  by_cases l11 : l = 112
  · subst l11
    obtain ⟨b0, b1⟩ := hb rfl
    have hlt : i.b.toNat < p.funcs.length := by omega
    simp [opE, Instr.row, Prog.row, Func.row, b0, b1, hlt]
    generalize IntKind.i64.wrap (f.regs - p.funcs[i.b.toNat].params) = W
    generalize p.funcs[i.b.toNat].params = k
    refine ⟨fun h1 h2 => ⟨⟨h1, h2⟩, fun h3 => ⟨⟨h1, h2⟩, h3⟩⟩, fun h1 => ⟨h1, fun h2 => ⟨h1, h2⟩⟩, fun h1 => by omega, fun h1 h2 => ⟨by omega, fun h3 => by omega⟩⟩
  simp [opE, l1, l2, l3, l4, l5, l6, l7, l8, l9, l10, l11]

end Go.Sc.Q03
