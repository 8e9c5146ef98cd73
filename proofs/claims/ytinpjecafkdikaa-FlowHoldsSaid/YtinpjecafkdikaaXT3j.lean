/- Chapter 03: what is wrong with an instruction: both texts say the same. No condition. -/
import Derived.Test.YtinpjecafkdikaaXT3i
set_option linter.constructorNameAsVariable false
namespace Go.Sc.Q03
open Go Go.RowKit Go.Av Go.Proofs
set_option linter.unusedSimpArgs false
set_option linter.unusedVariables false
/-- (*scarab/prog.checker).instr -/
def c67 : ACode :=
  (.seq (.reg none [⟨some 3, none, .m (.box (.t 1))⟩, ⟨some 4, none, .q (.mv (.c (.i .i64 0)))⟩])
  (.keep [0, 3]
  (.seq (.reg none [⟨some 12, none, .q (.fa 0 (.t 3))⟩, ⟨some 13, none, .q (.ld none (.t 12))⟩, ⟨some 14, none, .call (.f 75) [(.t 13)]⟩, ⟨some 5, none, .q (.mv (.t 14))⟩])
  (.keep [0, 3, 5]
  (.seq (.seq (.reg none [⟨some 15, none, .q (.mv (.t 5))⟩, ⟨some 16, none, .q (.bin .eql (.t 15) (.c (.s [])))⟩])
    (.keep [0, 3, 5, 16]
    (.cond (.t 16) (.seq (.reg none [⟨some 4, none, .q (.mv (.c (.i .i64 33)))⟩])
      .ret)
    .skip)))
  (.seq (.reg none [⟨some 17, none, .q (.ld (some 5) (.t 3))⟩, ⟨some 18, none, .call (.f 76) [(.t 17)]⟩, ⟨some 6, none, .m (.alloc (.g [(.i .i64 0), (.i .i64 0), (.i .i64 0), (.i .i64 0)]))⟩, ⟨none, none, .m (.st 4 (.t 6) (.t 18))⟩])
  (.keep [0, 3, 5, 6]
  (.seq (.seq (.reg none [⟨some 19, none, .q (.ld (some 4) (.t 6))⟩, ⟨some 20, none, .q (.mv (.c (.i .i64 0)))⟩])
    (.keep [0, 3, 5, 6, 19, 20]
    (.blk 0 (.keep [0, 3, 5, 6, 19, 20]
    (.loop (.fin [0, 3, 5, 6, 19, 20]
      (.seq (.reg none [⟨some 21, none, .q (.bin .lss (.t 20) (.c (.i .i64 4)))⟩])
      (.keep [0, 3, 5, 6, 19, 20, 21]
      (.seq (.cond (.t 21) .skip
        (.exit 0))
      (.seq (.blk 1 (.seq (.reg none [⟨some 22, none, .q (.mv (.t 20))⟩, ⟨some 23, none, .q (.idx 4 1 false (.t 19) (.t 20))⟩, ⟨some 7, none, .q (.mv (.t 22))⟩, ⟨some 8, none, .q (.mv (.t 23))⟩])
        (.keep [0, 3, 5, 6, 7, 8, 19, 20]
        (.seq (.reg none [⟨some 24, none, .q (.mv (.t 5))⟩, ⟨some 25, none, .q (.mv (.t 7))⟩, ⟨some 26, none, .q (.sidx (.t 24) (.t 25))⟩, ⟨some 27, none, .q (.bin .eql (.t 26) (.c (.i .u8 45)))⟩, ⟨some 28, none, .q (.mv (.t 27))⟩, ⟨some 29, some (28, true), .q (.mv (.t 8))⟩, ⟨some 30, some (28, true), .q (.bin .neq (.t 29) (.c (.i .i64 0)))⟩, ⟨some 31, none, .pk (.t 28) (.t 30) (.c (.b false))⟩])
        (.keep [0, 3, 5, 6, 19, 20, 31]
        (.cond (.t 31) (.seq (.reg none [⟨some 4, none, .q (.mv (.c (.i .i64 34)))⟩])
          .ret)
        .skip))))))
      (.keep [0, 3, 5, 6, 19, 20]
      (.reg none [⟨some 32, none, .q (.bin .add (.t 20) (.c (.i .i64 1)))⟩, ⟨some 20, none, .q (.mv (.t 32))⟩]))))))))))))
  (.seq (.seq (.reg none [⟨some 33, none, .q (.ld (some 4) (.t 6))⟩, ⟨some 34, none, .q (.mv (.c (.i .i64 0)))⟩])
    (.keep [0, 3, 5, 33, 34]
    (.blk 2 (.keep [0, 3, 5, 33, 34]
    (.loop (.fin [0, 3, 5, 33, 34]
      (.seq (.reg none [⟨some 35, none, .q (.bin .lss (.t 34) (.c (.i .i64 4)))⟩])
      (.keep [0, 3, 5, 33, 34, 35]
      (.seq (.cond (.t 35) .skip
        (.exit 2))
      (.seq (.blk 3 (.seq (.reg none [⟨some 36, none, .q (.mv (.t 34))⟩, ⟨some 37, none, .q (.idx 4 1 false (.t 33) (.t 34))⟩, ⟨some 9, none, .q (.mv (.t 36))⟩, ⟨some 10, none, .q (.mv (.t 37))⟩])
        (.keep [0, 3, 5, 9, 10, 33, 34]
        (.seq (.reg (some (6, [])) [⟨some 38, none, .q (.mv (.t 0))⟩, ⟨some 39, none, .q (.mv (.t 5))⟩, ⟨some 40, none, .q (.mv (.t 9))⟩, ⟨some 41, none, .q (.sidx (.t 39) (.t 40))⟩, ⟨some 42, none, .q (.mv (.t 10))⟩, ⟨some 43, none, .q (.ld (some 5) (.t 3))⟩, ⟨some 44, none, .call (.f 77) [(.t 38), (.t 41), (.t 42), (.t 43)]⟩, ⟨some 11, none, .q (.mv (.t 44))⟩])
        (.keep [0, 3, 5, 11, 33, 34]
        (.seq (.reg none [⟨some 45, none, .q (.mv (.t 11))⟩, ⟨some 46, none, .q (.bin .neq (.t 45) (.c (.i .i64 0)))⟩])
        (.keep [0, 3, 5, 11, 33, 34, 46]
        (.cond (.t 46) (.seq (.reg none [⟨some 47, none, .q (.mv (.t 11))⟩, ⟨some 4, none, .q (.mv (.t 47))⟩])
          .ret)
        .skip))))))))
      (.keep [0, 3, 5, 33, 34]
      (.reg none [⟨some 48, none, .q (.bin .add (.t 34) (.c (.i .i64 1)))⟩, ⟨some 34, none, .q (.mv (.t 48))⟩]))))))))))))
  (.seq (.reg none [⟨some 4, none, .q (.mv (.c (.i .i64 0)))⟩])
  .ret))))))))))
theorem r67 : (Try.f67.body.bind (resC Try.prog Try.f67.ntmps)) = some (strip c67) := by kernel_rfl
theorem s67 : Try.f67.results.toList.mapM (resRes Try.prog) = some [.t 4] := by kernel_rfl
/-- scarab/scarabref03.instr -/
def c62 : ACode :=
  (.seq (.reg none [⟨some 3, none, .m (.box (.t 0))⟩, ⟨some 4, none, .m (.box (.t 1))⟩, ⟨some 5, none, .m (.box (.t 2))⟩, ⟨some 6, none, .q (.mv (.c (.i .i64 0)))⟩])
  (.keep [3, 4, 5]
  (.seq (.seq (.reg none [⟨some 12, none, .q (.fa 0 (.t 5))⟩, ⟨some 13, none, .q (.ld none (.t 12))⟩, ⟨some 14, none, .call (.f 48) [(.t 13)]⟩, ⟨some 15, none, .q (.un .not (.t 14))⟩, ⟨some 16, none, .q (.mv (.t 15))⟩, ⟨some 17, some (16, true), .q (.fa 0 (.t 5))⟩, ⟨some 18, some (16, true), .q (.ld none (.t 17))⟩, ⟨some 19, some (16, true), .call (.f 69) [(.t 18)]⟩, ⟨some 20, some (16, true), .q (.un .not (.t 19))⟩, ⟨some 21, none, .pk (.t 16) (.t 20) (.c (.b false))⟩])
    (.keep [3, 4, 5, 21]
    (.cond (.t 21) (.seq (.reg none [⟨some 6, none, .q (.mv (.c (.i .i64 33)))⟩])
      .ret)
    .skip)))
  (.seq (.reg none [⟨some 22, none, .q (.fa 0 (.t 5))⟩, ⟨some 23, none, .q (.ld none (.t 22))⟩, ⟨some 24, none, .call (.f 70) [(.t 23)]⟩, ⟨some 7, none, .q (.mv (.t 24))⟩])
  (.keep [3, 4, 5, 7]
  (.seq (.reg none [⟨some 25, none, .q (.fa 1 (.t 5))⟩, ⟨some 26, none, .q (.ld none (.t 25))⟩, ⟨some 27, none, .q (.fa 2 (.t 5))⟩, ⟨some 28, none, .q (.ld none (.t 27))⟩, ⟨some 29, none, .q (.fa 3 (.t 5))⟩, ⟨some 30, none, .q (.ld none (.t 29))⟩, ⟨some 31, none, .q (.fa 4 (.t 5))⟩, ⟨some 32, none, .q (.ld none (.t 31))⟩, ⟨some 33, none, .q (.bld [(.i .i64 0), (.i .i64 0), (.i .i64 0), (.i .i64 0)] [(0, 1, .t 26), (1, 1, .t 28), (2, 1, .t 30), (3, 1, .t 32)])⟩, ⟨some 8, none, .m (.alloc (.g [(.i .i64 0), (.i .i64 0), (.i .i64 0), (.i .i64 0)]))⟩, ⟨none, none, .m (.st 4 (.t 8) (.t 33))⟩])
  (.keep [3, 4, 5, 7, 8]
  (.seq (.seq (.reg none [⟨some 9, none, .q (.mv (.c (.i .i64 0)))⟩])
    (.keep [3, 4, 5, 7, 8, 9]
    (.blk 0 (.keep [3, 4, 5, 7, 8, 9]
    (.loop (.fin [3, 4, 5, 7, 8, 9]
      (.seq (.seq (.reg none [⟨some 34, none, .q (.mv (.t 9))⟩, ⟨some 35, none, .q (.bin .lss (.t 34) (.c (.i .i64 4)))⟩])
        (.keep [3, 4, 5, 7, 8, 9, 35]
        (.cond (.t 35) .skip
        (.exit 0))))
      (.seq (.blk 1 (.seq (.reg none [⟨some 38, none, .q (.mv (.t 7))⟩, ⟨some 39, none, .q (.mv (.t 9))⟩, ⟨some 40, none, .q (.sidx (.t 38) (.t 39))⟩, ⟨some 41, none, .q (.bin .eql (.t 40) (.c (.i .u8 45)))⟩, ⟨some 42, none, .q (.mv (.t 41))⟩, ⟨some 43, some (42, true), .q (.mv (.t 9))⟩, ⟨some 44, some (42, true), .q (.iaa 4 1 (.t 8) (.t 43))⟩, ⟨some 45, some (42, true), .q (.ld none (.t 44))⟩, ⟨some 46, some (42, true), .q (.bin .neq (.t 45) (.c (.i .i64 0)))⟩, ⟨some 47, none, .pk (.t 42) (.t 46) (.c (.b false))⟩])
        (.keep [3, 4, 5, 7, 8, 9, 47]
        (.cond (.t 47) (.seq (.reg none [⟨some 6, none, .q (.mv (.c (.i .i64 34)))⟩])
          .ret)
        .skip))))
      (.keep [3, 4, 5, 7, 8, 9]
      (.reg none [⟨some 36, none, .q (.mv (.t 9))⟩, ⟨some 37, none, .q (.bin .add (.t 36) (.c (.i .i64 1)))⟩, ⟨some 9, none, .q (.mv (.t 37))⟩]))))))))))
  (.seq (.seq (.reg none [⟨some 10, none, .q (.mv (.c (.i .i64 0)))⟩])
    (.keep [3, 4, 5, 7, 8, 10]
    (.blk 2 (.keep [3, 4, 5, 7, 8, 10]
    (.loop (.fin [3, 4, 5, 7, 8, 10]
      (.seq (.seq (.reg none [⟨some 48, none, .q (.mv (.t 10))⟩, ⟨some 49, none, .q (.bin .lss (.t 48) (.c (.i .i64 4)))⟩])
        (.keep [3, 4, 5, 7, 8, 10, 49]
        (.cond (.t 49) .skip
        (.exit 2))))
      (.seq (.blk 3 (.seq (.reg (some (9, [])) [⟨some 52, none, .q (.ld (some 4) (.t 3))⟩, ⟨some 53, none, .q (.ld (some 4) (.t 4))⟩, ⟨some 54, none, .q (.mv (.t 7))⟩, ⟨some 55, none, .q (.mv (.t 10))⟩, ⟨some 56, none, .q (.sidx (.t 54) (.t 55))⟩, ⟨some 57, none, .q (.mv (.t 10))⟩, ⟨some 58, none, .q (.iaa 4 1 (.t 8) (.t 57))⟩, ⟨some 59, none, .q (.ld none (.t 58))⟩, ⟨some 60, none, .q (.ld (some 5) (.t 5))⟩, ⟨some 61, none, .call (.f 71) [(.t 52), (.t 53), (.t 56), (.t 59), (.t 60)]⟩, ⟨some 11, none, .q (.mv (.t 61))⟩])
        (.keep [3, 4, 5, 7, 8, 10, 11]
        (.seq (.reg none [⟨some 62, none, .q (.mv (.t 11))⟩, ⟨some 63, none, .q (.bin .neq (.t 62) (.c (.i .i64 0)))⟩])
        (.keep [3, 4, 5, 7, 8, 10, 11, 63]
        (.cond (.t 63) (.seq (.reg none [⟨some 64, none, .q (.mv (.t 11))⟩, ⟨some 6, none, .q (.mv (.t 64))⟩])
          .ret)
        .skip))))))
      (.keep [3, 4, 5, 7, 8, 10]
      (.reg none [⟨some 50, none, .q (.mv (.t 10))⟩, ⟨some 51, none, .q (.bin .add (.t 50) (.c (.i .i64 1)))⟩, ⟨some 10, none, .q (.mv (.t 51))⟩]))))))))))
  (.seq (.reg none [⟨some 6, none, .q (.mv (.c (.i .i64 0)))⟩])
  .ret))))))))))
theorem r62 : (Try.f62.body.bind (resC Try.prog Try.f62.ntmps)) = some (strip c62) := by kernel_rfl
theorem s62 : Try.f62.results.toList.mapM (resRes Try.prog) = some [.t 6] := by kernel_rfl

theorem nn {P : Prop} (h : P) : ¬ ¬ P := fun hn => hn h

theorem u8_eq {l : UInt8} {n : Nat} (hn : n < 256) : ((l.toNat : Int) = (n : Int)) ↔ l = UInt8.ofNat n := by
  constructor
  · intro h
    have : l.toNat = n := by omega
    rw [← this]; simp
  · rintro rfl
    simp; omega

theorem instr45 (p : Prog) (f : Func) (i : Instr) : PureS Try.prog 67 [.pim (p.row ++ f.row), .g i.row] (.i .i64 (insE p f i)) := by
  refine fun_go hmx Try.func67 r67 s67 (by rw [Try.ntmps67]; simp) ?_
  unfold c67
  simp [Instr.row]
  refine callk rfl Try.call75 (form15 i.op) rfl ?_
  rcases form_four i.op with h | ⟨l0, l1, l2, l3, h⟩
  · simp [h, insE]
  obtain ⟨p0, p1, p3, p2⟩ := form_p h
  have b45 : ∀ l : UInt8, ((l.toNat : Int) = 45) ↔ l = 45 := fun l => u8_eq (by decide)
  have b112 : ∀ l : UInt8, ((l.toNat : Int) = 112) ↔ l = 112 := fun l => u8_eq (by decide)
  simp [h]
  refine callk rfl Try.call76 (operands57 i) rfl ?_
  simp
  have hE : insE p f i = (if (l0 = 45 ∧ i.a ≠ 0) ∨ (l1 = 45 ∧ i.b ≠ 0) ∨ (l2 = 45 ∧ i.c ≠ 0) ∨ (l3 = 45 ∧ i.n ≠ 0) then 34
    else if opE p f l0.toNat i.a i.b ≠ 0 then opE p f l0.toNat i.a i.b
    else if opE p f l1.toNat i.b i.b ≠ 0 then opE p f l1.toNat i.b i.b
    else if opE p f l2.toNat i.c i.b ≠ 0 then opE p f l2.toNat i.c i.b
    else opE p f l3.toNat i.n i.b) := by rw [insE, h]
  refine go_count hmx 20 0 4 (fun k hp => hp = [AObj.var (i.row.map .v), AObj.var [.v (.i .i64 i.a), .v (.i .i64 i.b), .v (.i .i64 i.c), .v (.i .i64 i.n)]] ∧ ((0 < k → ¬ (l0 = 45 ∧ i.a ≠ 0)) ∧ (1 < k → ¬ (l1 = 45 ∧ i.b ≠ 0)) ∧ (2 < k → ¬ (l2 = 45 ∧ i.c ≠ 0)) ∧ (3 < k → ¬ (l3 = 45 ∧ i.n ≠ 0)))) (by decide) (by decide) rfl ⟨rfl, by simp⟩ ?_ ?_
  · rintro k hp - hlt ⟨rfl, hj⟩ hw
    obtain rfl | rfl | rfl | rfl : k = 0 ∨ k = 1 ∨ k = 2 ∨ k = 3 := by omega
    · simp [Instr.row, b45]
      exact ⟨fun h1 h2 => by rw [hE, if_pos (.inl ⟨h1, h2⟩)], fun h1 => ⟨by decide, h1⟩⟩
    · simp at hj
      simp [Instr.row, b45]
      exact ⟨fun h1 h2 => by rw [hE, if_pos (.inr (.inl ⟨h1, h2⟩))], fun h1 => ⟨by decide, hj, h1⟩⟩
    · simp at hj
      simp [Instr.row, b45]
      exact ⟨fun h1 h2 => by rw [hE, if_pos (.inr (.inr (.inl ⟨h1, h2⟩)))], fun h1 => ⟨by decide, hj.1, hj.2, h1⟩⟩
    · simp at hj
      simp [Instr.row, b45]
      exact ⟨fun h1 h2 => by rw [hE, if_pos (.inr (.inr (.inr ⟨h1, h2⟩)))], fun h1 => ⟨by decide, hj.1, hj.2.1, hj.2.2, h1⟩⟩
  rintro hp ⟨rfl, hj⟩
  have hbad : ¬ ((l0 = 45 ∧ i.a ≠ 0) ∨ (l1 = 45 ∧ i.b ≠ 0) ∨ (l2 = 45 ∧ i.c ≠ 0) ∨ (l3 = 45 ∧ i.n ≠ 0)) := by
    rintro (h | h | h | h)
    · exact hj.1 (by decide) h
    · exact hj.2.1 (by decide) h
    · exact hj.2.2.1 (by decide) h
    · exact hj.2.2.2 (by decide) h
  rw [if_neg hbad] at hE
  simp [Instr.row, ]
  refine go_count hmx 34 0 4 (fun k hp => hp = [AObj.var (i.row.map .v), AObj.var [.v (.i .i64 i.a), .v (.i .i64 i.b), .v (.i .i64 i.c), .v (.i .i64 i.n)]] ∧ ((0 < k → opE p f l0.toNat i.a i.b = 0) ∧ (1 < k → opE p f l1.toNat i.b i.b = 0) ∧ (2 < k → opE p f l2.toNat i.c i.b = 0) ∧ (3 < k → opE p f l3.toNat i.n i.b = 0))) (by decide) (by decide) rfl ⟨rfl, by simp⟩ ?_ ?_
  · rintro k hp - hlt ⟨rfl, hj⟩ hw
    obtain rfl | rfl | rfl | rfl : k = 0 ∨ k = 1 ∨ k = 2 ∨ k = 3 := by omega
    · simp [Instr.row, Prog.row, Func.row]
      refine callk rfl Try.call77 (operand58 p f i l0.toNat i.a (fun hc => absurd ((b112 l0).1 hc) p0)) rfl ?_
      simp
      exact ⟨fun h1 => by rw [hE, if_pos h1], fun h1 => ⟨by decide, h1⟩⟩
    · simp at hj
      simp [Instr.row, Prog.row, Func.row]
      refine callk rfl Try.call77 (operand58 p f i l1.toNat i.b (fun hc => absurd ((b112 l1).1 hc) p1)) rfl ?_
      simp
      exact ⟨fun h1 => by rw [hE, if_neg (nn hj), if_pos h1], fun h1 => ⟨by decide, hj, h1⟩⟩
    · simp at hj
      simp [Instr.row, Prog.row, Func.row]
      refine callk rfl Try.call77 (operand58 p f i l2.toNat i.c (fun hc => ?_)) rfl ?_
      · have e1 := p2 ((b112 l2).1 hc)
        have e2 := hj.2
        rw [e1] at e2
        simp [opE] at e2
        exact objE_zero.1 e2
      simp
      exact ⟨fun h1 => by rw [hE, if_neg (nn hj.1), if_neg (nn hj.2), if_pos h1], fun h1 => ⟨by decide, hj.1, hj.2, h1⟩⟩
    · simp at hj
      simp [Instr.row, Prog.row, Func.row]
      refine callk rfl Try.call77 (operand58 p f i l3.toNat i.n (fun hc => absurd ((b112 l3).1 hc) p3)) rfl ?_
      simp
      exact ⟨fun h1 => by rw [hE, if_neg (nn hj.1), if_neg (nn hj.2.1), if_neg (nn hj.2.2)], fun h1 => ⟨by decide, hj.1, hj.2.1, hj.2.2, h1⟩⟩
  rintro hp ⟨rfl, hj⟩
  simp at hj
  simp
  rw [hE, if_neg (nn hj.1), if_neg (nn hj.2.1), if_neg (nn hj.2.2.1), hj.2.2.2]

theorem instr61 (p : Prog) (f : Func) (i : Instr) : PureS Try.prog 62 [.g p.row, .g f.row, .g i.row] (.i .i64 (insE p f i)) := by
  refine fun_go hmx Try.func62 r62 s62 (by rw [Try.ntmps62]; simp) ?_
  unfold c62
  simp [Instr.row]
  refine callk rfl Try.call48 (local18 i.op) rfl ?_
  simp
  refine callkg rfl Try.call69 rfl (fun _ => visible20 i.op) (by simp) rfl ?_
  rcases form_four i.op with h | ⟨l0, l1, l2, l3, h⟩
  · have h' := (form_none i.op).1 h
    simp [h, insE, h'.1, h'.2]
  obtain ⟨p0, p1, p3, p2⟩ := form_p h
  have b45 : ∀ l : UInt8, ((l.toNat : Int) = 45) ↔ l = 45 := fun l => u8_eq (by decide)
  have b112 : ∀ l : UInt8, ((l.toNat : Int) = 112) ↔ l = 112 := fun l => u8_eq (by decide)
  have hsome : ¬ (isLocal i.op = false ∧ isVisible i.op = false) := fun hc => by rw [(form_none i.op).2 hc] at h; cases h
  simp
  refine ⟨fun h1 h2 => absurd ⟨h1, h2⟩ hsome, fun _ => ?_⟩
  refine callk rfl Try.call70 (form16 i.op) rfl ?_
  simp [h]
  have hE : insE p f i = (if (l0 = 45 ∧ i.a ≠ 0) ∨ (l1 = 45 ∧ i.b ≠ 0) ∨ (l2 = 45 ∧ i.c ≠ 0) ∨ (l3 = 45 ∧ i.n ≠ 0) then 34
    else if opE p f l0.toNat i.a i.b ≠ 0 then opE p f l0.toNat i.a i.b
    else if opE p f l1.toNat i.b i.b ≠ 0 then opE p f l1.toNat i.b i.b
    else if opE p f l2.toNat i.c i.b ≠ 0 then opE p f l2.toNat i.c i.b
    else opE p f l3.toNat i.n i.b) := by rw [insE, h]
  refine go_count hmx 9 0 4 (fun k hp => hp = [AObj.var (p.row.map .v), AObj.var (f.row.map .v), AObj.var (i.row.map .v), AObj.var [.v (.i .i64 i.a), .v (.i .i64 i.b), .v (.i .i64 i.c), .v (.i .i64 i.n)]] ∧ ((0 < k → ¬ (l0 = 45 ∧ i.a ≠ 0)) ∧ (1 < k → ¬ (l1 = 45 ∧ i.b ≠ 0)) ∧ (2 < k → ¬ (l2 = 45 ∧ i.c ≠ 0)) ∧ (3 < k → ¬ (l3 = 45 ∧ i.n ≠ 0)))) (by decide) (by decide) rfl ⟨rfl, by simp⟩ ?_ ?_
  · rintro k hp - hlt ⟨rfl, hj⟩ hw
    obtain rfl | rfl | rfl | rfl : k = 0 ∨ k = 1 ∨ k = 2 ∨ k = 3 := by omega
    · simp [Instr.row, Prog.row, Func.row, b45]
      exact ⟨fun h1 h2 => by rw [hE, if_pos (.inl ⟨h1, h2⟩)], fun h1 => ⟨by decide, h1⟩⟩
    · simp at hj
      simp [Instr.row, Prog.row, Func.row, b45]
      exact ⟨fun h1 h2 => by rw [hE, if_pos (.inr (.inl ⟨h1, h2⟩))], fun h1 => ⟨by decide, hj, h1⟩⟩
    · simp at hj
      simp [Instr.row, Prog.row, Func.row, b45]
      exact ⟨fun h1 h2 => by rw [hE, if_pos (.inr (.inr (.inl ⟨h1, h2⟩)))], fun h1 => ⟨by decide, hj.1, hj.2, h1⟩⟩
    · simp at hj
      simp [Instr.row, Prog.row, Func.row, b45]
      exact ⟨fun h1 h2 => by rw [hE, if_pos (.inr (.inr (.inr ⟨h1, h2⟩)))], fun h1 => ⟨by decide, hj.1, hj.2.1, hj.2.2, h1⟩⟩
  rintro hp ⟨rfl, hj⟩
  have hbad : ¬ ((l0 = 45 ∧ i.a ≠ 0) ∨ (l1 = 45 ∧ i.b ≠ 0) ∨ (l2 = 45 ∧ i.c ≠ 0) ∨ (l3 = 45 ∧ i.n ≠ 0)) := by
    rintro (h | h | h | h)
    · exact hj.1 (by decide) h
    · exact hj.2.1 (by decide) h
    · exact hj.2.2.1 (by decide) h
    · exact hj.2.2.2 (by decide) h
  rw [if_neg hbad] at hE
  simp [Instr.row, Prog.row, Func.row, ]
  refine go_count hmx 10 0 4 (fun k hp => hp = [AObj.var (p.row.map .v), AObj.var (f.row.map .v), AObj.var (i.row.map .v), AObj.var [.v (.i .i64 i.a), .v (.i .i64 i.b), .v (.i .i64 i.c), .v (.i .i64 i.n)]] ∧ ((0 < k → opE p f l0.toNat i.a i.b = 0) ∧ (1 < k → opE p f l1.toNat i.b i.b = 0) ∧ (2 < k → opE p f l2.toNat i.c i.b = 0) ∧ (3 < k → opE p f l3.toNat i.n i.b = 0))) (by decide) (by decide) rfl ⟨rfl, by simp⟩ ?_ ?_
  · rintro k hp - hlt ⟨rfl, hj⟩ hw
    obtain rfl | rfl | rfl | rfl : k = 0 ∨ k = 1 ∨ k = 2 ∨ k = 3 := by omega
    · simp [Instr.row, Prog.row, Func.row]
      refine callk rfl Try.call71 (operand69 p f i l0.toNat i.a (fun hc => absurd ((b112 l0).1 hc) p0)) rfl ?_
      simp
      exact ⟨fun h1 => by rw [hE, if_pos h1], fun h1 => ⟨by decide, h1⟩⟩
    · simp at hj
      simp [Instr.row, Prog.row, Func.row]
      refine callk rfl Try.call71 (operand69 p f i l1.toNat i.b (fun hc => absurd ((b112 l1).1 hc) p1)) rfl ?_
      simp
      exact ⟨fun h1 => by rw [hE, if_neg (nn hj), if_pos h1], fun h1 => ⟨by decide, hj, h1⟩⟩
    · simp at hj
      simp [Instr.row, Prog.row, Func.row]
      refine callk rfl Try.call71 (operand69 p f i l2.toNat i.c (fun hc => ?_)) rfl ?_
      · have e1 := p2 ((b112 l2).1 hc)
        have e2 := hj.2
        rw [e1] at e2
        simp [opE] at e2
        exact objE_zero.1 e2
      simp
      exact ⟨fun h1 => by rw [hE, if_neg (nn hj.1), if_neg (nn hj.2), if_pos h1], fun h1 => ⟨by decide, hj.1, hj.2, h1⟩⟩
    · simp at hj
      simp [Instr.row, Prog.row, Func.row]
      refine callk rfl Try.call71 (operand69 p f i l3.toNat i.n (fun hc => absurd ((b112 l3).1 hc) p3)) rfl ?_
      simp
      exact ⟨fun h1 => by rw [hE, if_neg (nn hj.1), if_neg (nn hj.2.1), if_neg (nn hj.2.2)], fun h1 => ⟨by decide, hj.1, hj.2.1, hj.2.2, h1⟩⟩
  rintro hp ⟨rfl, hj⟩
  simp at hj
  simp
  rw [hE, if_neg (nn hj.1), if_neg (nn hj.2.1), if_neg (nn hj.2.2.1), hj.2.2.2]
end Go.Sc.Q03
