/- Chapter 03: what is wrong with selects and sizes, by the document: both texts say the same. No condition. -/
import Derived.Test.YtinpjecafkdikaaXT3k
set_option linter.constructorNameAsVariable false
namespace Go.Sc.Q03
open Go Go.RowKit Go.Av Go.Proofs
set_option linter.unusedSimpArgs false
set_option linter.unusedVariables false
/-- scarab/scarabref03.selects -/
def c61 : ACode :=
  (.seq (.reg none [⟨some 2, none, .m (.box (.t 0))⟩, ⟨some 3, none, .m (.box (.t 1))⟩, ⟨some 4, none, .q (.mv (.c (.i .i64 0)))⟩])
  (.keep [2, 3]
  (.seq (.seq (.reg none [⟨some 9, none, .q (.fa 3 (.t 3))⟩, ⟨some 10, none, .q (.ld none (.t 9))⟩, ⟨some 11, none, .q (.len false (.t 10))⟩, ⟨some 12, none, .q (.mv (.c (.i .i64 0)))⟩])
    (.keep [2, 3, 10, 11, 12]
    (.blk 0 (.keep [2, 3, 10, 11, 12]
    (.loop (.fin [2, 3, 10, 11, 12]
      (.seq (.reg none [⟨some 13, none, .q (.bin .lss (.t 12) (.t 11))⟩])
      (.keep [2, 3, 10, 11, 12, 13]
      (.seq (.cond (.t 13) .skip
        (.exit 0))
      (.seq (.blk 1 (.seq (.reg none [⟨some 14, none, .q (.ias 2 (.t 10) (.t 12))⟩, ⟨some 15, none, .q (.ld (some 2) (.t 14))⟩, ⟨some 6, none, .m (.alloc (.g [.nil, (.i .i64 0)]))⟩, ⟨none, none, .m (.st 2 (.t 6) (.t 15))⟩])
        (.keep [2, 3, 6, 10, 11, 12]
        (.seq (.seq (.reg none [⟨some 16, none, .q (.fa 0 (.t 6))⟩, ⟨some 17, none, .q (.ld none (.t 16))⟩, ⟨some 18, none, .q (.len false (.t 17))⟩, ⟨some 19, none, .q (.mv (.c (.i .i64 0)))⟩])
          (.keep [2, 3, 6, 10, 11, 12, 17, 18, 19]
          (.blk 2 (.keep [2, 3, 6, 10, 11, 12, 17, 18, 19]
          (.loop (.fin [2, 3, 6, 10, 11, 12, 17, 18, 19]
            (.seq (.reg none [⟨some 20, none, .q (.bin .lss (.t 19) (.t 18))⟩])
            (.keep [2, 3, 6, 10, 11, 12, 17, 18, 19, 20]
            (.seq (.cond (.t 20) .skip
              (.exit 2))
            (.seq (.blk 3 (.seq (.reg none [⟨some 21, none, .q (.ias 4 (.t 17) (.t 19))⟩, ⟨some 22, none, .q (.ld (some 4) (.t 21))⟩, ⟨some 8, none, .m (.alloc (.g [(.b false), (.i .i64 0), (.i .i64 0), (.i .i64 0)]))⟩, ⟨none, none, .m (.st 4 (.t 8) (.t 22))⟩])
              (.keep [2, 3, 6, 8, 10, 11, 12, 17, 18, 19]
              (.seq (.seq (.reg none [⟨some 23, none, .q (.fa 1 (.t 8))⟩, ⟨some 24, none, .q (.ld none (.t 23))⟩, ⟨some 25, none, .q (.fa 2 (.t 2))⟩, ⟨some 26, none, .q (.ld none (.t 25))⟩, ⟨some 27, none, .q (.len false (.t 26))⟩, ⟨some 28, none, .call (.f 68) [(.t 24), (.t 27)]⟩, ⟨some 29, none, .q (.un .not (.t 28))⟩])
                (.keep [2, 3, 6, 8, 10, 11, 12, 17, 18, 19, 29]
                (.cond (.t 29) (.seq (.reg none [⟨some 4, none, .q (.mv (.c (.i .i64 36)))⟩])
                  .ret)
                .skip)))
              (.seq (.seq (.reg none [⟨some 30, none, .q (.fa 2 (.t 8))⟩, ⟨some 31, none, .q (.ld none (.t 30))⟩, ⟨some 32, none, .q (.fa 1 (.t 3))⟩, ⟨some 33, none, .q (.ld none (.t 32))⟩, ⟨some 34, none, .call (.f 68) [(.t 31), (.t 33)]⟩, ⟨some 35, none, .q (.un .not (.t 34))⟩, ⟨some 36, none, .q (.mv (.t 35))⟩, ⟨some 37, some (36, true), .q (.fa 0 (.t 8))⟩, ⟨some 38, some (36, true), .q (.ld none (.t 37))⟩, ⟨some 39, some (36, true), .q (.mv (.t 38))⟩, ⟨some 40, some (39, false), .q (.fa 2 (.t 8))⟩, ⟨some 41, some (39, false), .q (.ld none (.t 40))⟩, ⟨some 42, some (39, false), .q (.bin .neq (.t 41) (.c (.i .i64 (-1))))⟩, ⟨some 43, some (36, true), .pk (.t 39) (.c (.b true)) (.t 42)⟩, ⟨some 44, none, .pk (.t 36) (.t 43) (.c (.b false))⟩])
                (.keep [2, 3, 6, 8, 10, 11, 12, 17, 18, 19, 44]
                (.cond (.t 44) (.seq (.reg none [⟨some 4, none, .q (.mv (.c (.i .i64 35)))⟩])
                  .ret)
                .skip)))
              (.seq (.seq (.reg none [⟨some 45, none, .q (.fa 0 (.t 8))⟩, ⟨some 46, none, .q (.ld none (.t 45))⟩, ⟨some 47, none, .q (.mv (.t 46))⟩, ⟨some 48, some (47, true), .q (.fa 2 (.t 2))⟩, ⟨some 49, some (47, true), .q (.ld none (.t 48))⟩, ⟨some 50, some (47, true), .q (.fa 1 (.t 8))⟩, ⟨some 51, some (47, true), .q (.ld none (.t 50))⟩, ⟨some 52, some (47, true), .q (.ias 1 (.t 49) (.t 51))⟩, ⟨some 53, some (47, true), .q (.ld none (.t 52))⟩, ⟨some 54, some (47, true), .q (.bin .eql (.t 53) (.c (.i .i64 0)))⟩, ⟨some 55, none, .pk (.t 47) (.t 54) (.c (.b false))⟩])
                (.keep [2, 3, 6, 8, 10, 11, 12, 17, 18, 19, 55]
                (.cond (.t 55) (.seq (.reg none [⟨some 4, none, .q (.mv (.c (.i .i64 37)))⟩])
                  .ret)
                .skip)))
              (.seq (.reg none [⟨some 56, none, .q (.fa 3 (.t 8))⟩, ⟨some 57, none, .q (.ld none (.t 56))⟩, ⟨some 58, none, .q (.fa 2 (.t 3))⟩, ⟨some 59, none, .q (.ld none (.t 58))⟩, ⟨some 60, none, .q (.len false (.t 59))⟩, ⟨some 61, none, .call (.f 68) [(.t 57), (.t 60)]⟩, ⟨some 62, none, .q (.un .not (.t 61))⟩])
              (.keep [2, 3, 6, 10, 11, 12, 17, 18, 19, 62]
              (.cond (.t 62) (.seq (.reg none [⟨some 4, none, .q (.mv (.c (.i .i64 38)))⟩])
                .ret)
              .skip)))))))))
            (.keep [2, 3, 6, 10, 11, 12, 17, 18, 19]
            (.reg none [⟨some 63, none, .q (.bin .add (.t 19) (.c (.i .i64 1)))⟩, ⟨some 19, none, .q (.mv (.t 63))⟩]))))))))))))
        (.seq (.reg none [⟨some 64, none, .q (.fa 1 (.t 6))⟩, ⟨some 65, none, .q (.ld none (.t 64))⟩, ⟨some 66, none, .q (.bin .neq (.t 65) (.c (.i .i64 (-1))))⟩, ⟨some 67, none, .q (.mv (.t 66))⟩, ⟨some 68, some (67, true), .q (.fa 1 (.t 6))⟩, ⟨some 69, some (67, true), .q (.ld none (.t 68))⟩, ⟨some 70, some (67, true), .q (.fa 2 (.t 3))⟩, ⟨some 71, some (67, true), .q (.ld none (.t 70))⟩, ⟨some 72, some (67, true), .q (.len false (.t 71))⟩, ⟨some 73, some (67, true), .call (.f 68) [(.t 69), (.t 72)]⟩, ⟨some 74, some (67, true), .q (.un .not (.t 73))⟩, ⟨some 75, none, .pk (.t 67) (.t 74) (.c (.b false))⟩])
        (.keep [2, 3, 10, 11, 12, 75]
        (.cond (.t 75) (.seq (.reg none [⟨some 4, none, .q (.mv (.c (.i .i64 38)))⟩])
          .ret)
        .skip)))))))
      (.keep [2, 3, 10, 11, 12]
      (.reg none [⟨some 76, none, .q (.bin .add (.t 12) (.c (.i .i64 1)))⟩, ⟨some 12, none, .q (.mv (.t 76))⟩]))))))))))))
  (.seq (.reg none [⟨some 4, none, .q (.mv (.c (.i .i64 0)))⟩])
  .ret))))
theorem r61 : (Try.f61.body.bind (resC Try.prog Try.f61.ntmps)) = some (strip c61) := by kernel_rfl
theorem s61 : Try.f61.results.toList.mapM (resRes Try.prog) = some [.t 4] := by kernel_rfl
/-- scarab/scarabref03.formed -/
def c60 : ACode :=
  (.seq (.reg none [⟨some 3, none, .m (.box (.t 1))⟩, ⟨some 4, none, .q (.mv (.c (.b false)))⟩])
  (.keep [0, 3]
  (.seq (.seq (.reg none [⟨some 7, none, .q (.fa 1 (.t 3))⟩, ⟨some 8, none, .q (.ld none (.t 7))⟩, ⟨some 9, none, .q (.bin .lss (.t 8) (.c (.i .i64 0)))⟩, ⟨some 10, none, .q (.mv (.t 9))⟩, ⟨some 11, some (10, false), .q (.fa 1 (.t 3))⟩, ⟨some 12, some (10, false), .q (.ld none (.t 11))⟩, ⟨some 13, some (10, false), .q (.bin .gtr (.t 12) (.c (.i .i64 8)))⟩, ⟨some 14, none, .pk (.t 10) (.c (.b true)) (.t 13)⟩, ⟨some 15, none, .q (.mv (.t 14))⟩, ⟨some 16, some (15, false), .q (.fa 0 (.t 3))⟩, ⟨some 17, some (15, false), .q (.ld none (.t 16))⟩, ⟨some 18, some (15, false), .q (.bin .lss (.t 17) (.c (.i .i64 0)))⟩, ⟨some 19, none, .pk (.t 15) (.c (.b true)) (.t 18)⟩, ⟨some 20, none, .q (.mv (.t 19))⟩, ⟨some 21, some (20, false), .q (.fa 0 (.t 3))⟩, ⟨some 22, some (20, false), .q (.ld none (.t 21))⟩, ⟨some 23, some (20, false), .q (.fa 1 (.t 3))⟩, ⟨some 24, some (20, false), .q (.ld none (.t 23))⟩, ⟨some 25, some (20, false), .q (.bin .gtr (.t 22) (.t 24))⟩, ⟨some 26, none, .pk (.t 20) (.c (.b true)) (.t 25)⟩, ⟨some 27, none, .q (.mv (.t 26))⟩, ⟨some 28, some (27, false), .q (.mv (.t 0))⟩, ⟨some 29, some (27, false), .q (.bin .eql (.t 28) (.c (.i .i64 0)))⟩, ⟨some 30, some (27, false), .q (.mv (.t 29))⟩, ⟨some 31, some (30, true), .q (.fa 0 (.t 3))⟩, ⟨some 32, some (30, true), .q (.ld none (.t 31))⟩, ⟨some 33, some (30, true), .q (.bin .neq (.t 32) (.c (.i .i64 0)))⟩, ⟨some 34, some (27, false), .pk (.t 30) (.t 33) (.c (.b false))⟩, ⟨some 35, none, .pk (.t 27) (.c (.b true)) (.t 34)⟩])
    (.keep [3, 35]
    (.cond (.t 35) (.seq (.reg none [⟨some 4, none, .q (.mv (.c (.b false)))⟩])
      .ret)
    .skip)))
  (.seq (.seq (.reg none [⟨some 36, none, .q (.fa 2 (.t 3))⟩, ⟨some 37, none, .q (.ld none (.t 36))⟩, ⟨some 38, none, .q (.len false (.t 37))⟩, ⟨some 39, none, .q (.bin .lss (.t 38) (.c (.i .i64 1)))⟩, ⟨some 40, none, .q (.mv (.t 39))⟩, ⟨some 41, some (40, false), .q (.fa 2 (.t 3))⟩, ⟨some 42, some (40, false), .q (.ld none (.t 41))⟩, ⟨some 43, some (40, false), .q (.len false (.t 42))⟩, ⟨some 44, some (40, false), .q (.bin .gtr (.t 43) (.c (.i .i64 64)))⟩, ⟨some 45, none, .pk (.t 40) (.c (.b true)) (.t 44)⟩, ⟨some 46, none, .q (.mv (.t 45))⟩, ⟨some 47, some (46, false), .q (.fa 3 (.t 3))⟩, ⟨some 48, some (46, false), .q (.ld none (.t 47))⟩, ⟨some 49, some (46, false), .q (.len false (.t 48))⟩, ⟨some 50, some (46, false), .q (.bin .gtr (.t 49) (.c (.i .i64 4)))⟩, ⟨some 51, none, .pk (.t 46) (.c (.b true)) (.t 50)⟩])
    (.keep [3, 51]
    (.cond (.t 51) (.seq (.reg none [⟨some 4, none, .q (.mv (.c (.b false)))⟩])
      .ret)
    .skip)))
  (.seq (.seq (.reg none [⟨some 52, none, .q (.fa 3 (.t 3))⟩, ⟨some 53, none, .q (.ld none (.t 52))⟩, ⟨some 54, none, .q (.len false (.t 53))⟩, ⟨some 55, none, .q (.mv (.c (.i .i64 0)))⟩])
    (.keep [53, 54, 55]
    (.blk 0 (.keep [53, 54, 55]
    (.loop (.fin [53, 54, 55]
      (.seq (.reg none [⟨some 56, none, .q (.bin .lss (.t 55) (.t 54))⟩])
      (.keep [53, 54, 55, 56]
      (.seq (.cond (.t 56) .skip
        (.exit 0))
      (.seq (.blk 1 (.seq (.reg none [⟨some 57, none, .q (.ias 2 (.t 53) (.t 55))⟩, ⟨some 58, none, .q (.ld (some 2) (.t 57))⟩, ⟨some 6, none, .m (.alloc (.g [.nil, (.i .i64 0)]))⟩, ⟨none, none, .m (.st 2 (.t 6) (.t 58))⟩])
        (.keep [6, 53, 54, 55]
        (.seq (.reg none [⟨some 59, none, .q (.fa 0 (.t 6))⟩, ⟨some 60, none, .q (.ld none (.t 59))⟩, ⟨some 61, none, .q (.len false (.t 60))⟩, ⟨some 62, none, .q (.bin .lss (.t 61) (.c (.i .i64 1)))⟩, ⟨some 63, none, .q (.mv (.t 62))⟩, ⟨some 64, some (63, false), .q (.fa 0 (.t 6))⟩, ⟨some 65, some (63, false), .q (.ld none (.t 64))⟩, ⟨some 66, some (63, false), .q (.len false (.t 65))⟩, ⟨some 67, some (63, false), .q (.bin .gtr (.t 66) (.c (.i .i64 4)))⟩, ⟨some 68, none, .pk (.t 63) (.c (.b true)) (.t 67)⟩])
        (.keep [53, 54, 55, 68]
        (.cond (.t 68) (.seq (.reg none [⟨some 4, none, .q (.mv (.c (.b false)))⟩])
          .ret)
        .skip))))))
      (.keep [53, 54, 55]
      (.reg none [⟨some 69, none, .q (.bin .add (.t 55) (.c (.i .i64 1)))⟩, ⟨some 55, none, .q (.mv (.t 69))⟩]))))))))))))
  (.seq (.reg none [⟨some 4, none, .q (.mv (.c (.b true)))⟩])
  .ret))))))
theorem r60 : (Try.f60.body.bind (resC Try.prog Try.f60.ntmps)) = some (strip c60) := by kernel_rfl
theorem s60 : Try.f60.results.toList.mapM (resRes Try.prog) = some [.t 4] := by kernel_rfl

theorem selects60 (p : Prog) (f : Func) (hf : f.Ok) : PureS Try.prog 61 [.g p.row, .g f.row] (.i .i64 (selsE p f)) := by
  refine fun_go hmx Try.func61 r61 s61 (by rw [Try.ntmps61]; simp) ?_
  unfold c61
  simp [Prog.row, Func.row]
  refine go_count hmx 12 0 f.selects.length (fun i h => (∃ K, h = AObj.var (p.row.map .v) :: AObj.var (f.row.map .v) :: K) ∧ firstE (selE p f) f.selects = firstE (selE p f) (f.selects.drop i)) (Nat.zero_le _) (hf.fews.lt (by decide)) rfl ⟨⟨_, rfl⟩, rfl⟩ ?_ ?_
  · rintro i _ - hlt ⟨⟨H, rfl⟩, hj⟩ hw
    obtain ⟨h1, h2⟩ := firstE_at hj hlt
    have hok := hf.sel f.selects[i] (List.getElem_mem hlt)
    generalize hx' : f.selects[i] = s at *
    simp [hlt, hx', hw, Select.row, Func.row, Prog.row]
    refine go_count hmx 19 0 s.cases.length (fun j h => (∃ K, h = AObj.var (p.row.map .v) :: AObj.var (f.row.map .v) :: (H ++ AObj.var (s.row.map .v) :: K)) ∧ firstE (caseE p f) s.cases = firstE (caseE p f) (s.cases.drop j)) (Nat.zero_le _) (hok.few.lt (by decide)) rfl ⟨⟨_, rfl⟩, rfl⟩ ?_ ?_
    · rintro j _ - hlt2 ⟨⟨K, rfl⟩, hj2⟩ hw2
      obtain ⟨k1, k2⟩ := firstE_at hj2 hlt2
      generalize hx2 : s.cases[j] = c at *
      have hbad : caseE p f c ≠ 0 → selsE p f = caseE p f c := fun hc => by
        have e1 := k1 hc
        have e2 : selE p f s = caseE p f c := by rw [selE, if_pos (by rw [e1]; exact hc), e1]
        rw [selsE, h1 (by rw [e2]; exact hc), e2]
      simp [hlt2, hx2, hw2, Case.row, Select.row, Func.row, Prog.row]
      refine callk rfl Try.call68 (within68 c.chan p.chans.length) rfl ?_
      simp
      constructor
      · intro hc
        have n36 : objE c.chan p.chans.length ≠ 0 := by rw [objE, hc]; decide
        have e : caseE p f c = 36 := by rw [caseE, if_pos n36]
        rw [hbad (by rw [e]; decide), e]
      intro hc
      obtain ⟨q1, q2⟩ := within_iff.1 hc
      have hlc : c.chan.toNat < p.chans.length := by omega
      have hgd : p.chans.getD c.chan.toNat 0 = p.chans[c.chan.toNat] := by simp [hlc]
      have n36 : ¬ (objE c.chan p.chans.length ≠ 0) := by rw [objE, hc]; decide
      have e35 : (c.send = true ∨ c.reg ≠ -1) → regE f c.reg ≠ 0 → caseE p f c = 35 := fun u v => by rw [caseE, if_neg n36, if_pos ⟨u, v⟩]
      have e37 : ¬ ((c.send = true ∨ c.reg ≠ -1) ∧ regE f c.reg ≠ 0) → c.send = true → p.chans[c.chan.toNat] = 0 → caseE p f c = 37 := fun u v w => by rw [caseE, if_neg n36, if_neg u, if_pos ⟨v, by rw [hgd]; exact w⟩]
      have eT : ¬ ((c.send = true ∨ c.reg ≠ -1) ∧ regE f c.reg ≠ 0) → (c.send = true → ¬ p.chans[c.chan.toNat] = 0) → caseE p f c = tgtE f c.to := fun u v => by rw [caseE, if_neg n36, if_neg u, if_neg (fun w => v w.1 (by rw [← hgd]; exact w.2))]
      have r1 : within c.reg f.regs = false → regE f c.reg ≠ 0 := fun h => by rw [regE, h]; decide
      have r0 : within c.reg f.regs = true → regE f c.reg = 0 := fun h => by rw [regE, h]; rfl
      refine callk rfl Try.call68 (within68 c.reg f.regs) rfl ?_
      simp [q1, q2, hlc, irow]
      refine ⟨fun u => ⟨u, fun v => ⟨u, v⟩⟩, fun u v => ?_, fun u => ?_⟩
      · have e := e35 v (r1 u)
        rw [hbad (by rw [e]; decide), e]
      have nr : ¬ ((c.send = true ∨ c.reg ≠ -1) ∧ regE f c.reg ≠ 0) := fun w => by
        cases hh : within c.reg f.regs with
        | true => exact w.2 (r0 hh)
        | false =>
          obtain ⟨u1, u2⟩ := u hh
          rcases w.1 with v | v
          · rw [u1] at v; cases v
          · exact v u2
      refine ⟨fun g1 g2 => ?_, fun g => ?_⟩
      · have e := e37 nr g1 g2
        rw [hbad (by rw [e]; decide), e]
      have e := eT nr g
      refine callk rfl Try.call68 (within68 c.to f.code.length) rfl ?_
      simp [hw2, Select.row, Func.row, Prog.row]
      refine ⟨fun h => ?_, fun h => k2 (by rw [e, tgtE, if_pos h])⟩
      have e2 : tgtE f c.to = 38 := by rw [tgtE, h]; rfl
      rw [hbad (by rw [e, e2]; decide), e, e2]
    rintro _ ⟨⟨K, rfl⟩, hj2⟩
    have hz := firstE_end hj2
    simp [Select.row, Func.row, Prog.row]
    have eS : selE p f s = if s.els ≠ -1 then tgtE f s.els else 0 := by rw [selE, hz]; rfl
    refine callkg rfl Try.call68 rfl (fun _ => within68 s.els f.code.length) (by simp) rfl ?_
    simp [hw]
    constructor
    · intro u v
      have e2 : tgtE f s.els = 38 := by rw [tgtE, v]; rfl
      rw [if_pos u, e2] at eS
      rw [selsE, h1 (by rw [eS]; decide), eS]
    · intro u
      refine h2 ?_
      rw [eS]
      split
      · rename_i v; rw [tgtE, if_pos (u v)]
      · rfl
  rintro _ ⟨⟨K, rfl⟩, hj⟩
  simp
  exact (firstE_end hj).symm

theorem formed59 (n : Int) (f : Func) (hf : f.Ok) : PureS Try.prog 60 [.i .i64 n, .g f.row] (.b (formed (n == 0) f)) := by
  refine fun_go hmx Try.func60 r60 s60 (by rw [Try.ntmps60]; simp) ?_
  unfold c60
  simp [Func.row]
  have bad : ¬ (0 ≤ f.regs ∧ f.regs ≤ 8 ∧ 0 ≤ f.params ∧ f.params ≤ f.regs ∧ ¬ (n = 0 ∧ 0 < f.params) ∧ 1 ≤ f.code.length ∧ f.code.length ≤ 64 ∧ f.selects.length ≤ 4) → formed (n == 0) f = false := fun h => by
    rw [formed]
    simp only [beq_iff_eq]
    rw [decide_eq_false h]; rfl
  have good : (0 ≤ f.regs ∧ f.regs ≤ 8 ∧ 0 ≤ f.params ∧ f.params ≤ f.regs ∧ ¬ (n = 0 ∧ 0 < f.params) ∧ 1 ≤ f.code.length ∧ f.code.length ≤ 64 ∧ f.selects.length ≤ 4) → formed (n == 0) f = f.selects.all fun s => decide (1 ≤ s.cases.length ∧ s.cases.length ≤ 4) := fun h => by
    rw [formed]
    simp only [beq_iff_eq]
    rw [decide_eq_true h, Bool.true_and]
  refine ⟨fun a b c d => ⟨⟨⟨⟨a, b⟩, c⟩, d⟩, fun e => ⟨⟨⟨⟨a, b⟩, c⟩, d⟩, e⟩⟩, fun h => bad (by omega), fun a b c d e => ⟨fun h => bad (by omega), fun g1 g2 g3 => ?_⟩⟩
  have hg := good (by omega)
  rw [hg]
  refine go_count hmx 55 0 f.selects.length (fun i _ => ∀ s ∈ f.selects.take i, 1 ≤ s.cases.length ∧ s.cases.length ≤ 4) (Nat.zero_le _) (hf.fews.lt (by decide)) rfl (by simp) ?_ ?_
  · intro i H _ hlt hj hw
    have hmem := List.getElem_mem hlt
    generalize hx' : f.selects[i] = s at *
    have ht : f.selects.take (i + 1) = f.selects.take i ++ [s] := by rw [List.take_add_one, List.getElem?_eq_getElem hlt, hx']; rfl
    simp [hlt, hx', hw, Select.row]
    refine ⟨fun h => ⟨s, hmem, by omega⟩, fun h1 h2 => ?_⟩
    intro t hm
    rw [ht] at hm
    rcases List.mem_append.1 hm with hm | hm
    · exact hj t hm
    · obtain rfl := List.mem_singleton.1 hm
      omega
  intro H hj
  rw [List.take_length] at hj
  simp
  exact hj
end Go.Sc.Q03
