/- Chapter 04: bytes read, by the document's text. No condition. -/
import Derived.Test.YtmgbloidhmjbfaaXOctB
import Derived.Test.YtmgbloidhmjbfaaXT3n
import Derived.Test.YtmgbloidhmjbfaaXScRd
import Derived.Test.YtmgbloidhmjbfaaXScDec
import Derived.Test.YtmgbloidhmjbfaaXCr
import Derived.Test.YtmgbloidhmjbfaaXSc
import Derived.Test.YtmgbloidhmjbfaaXRw
set_option linter.constructorNameAsVariable false
namespace Go.Sc.Cw
open Go Go.RowKit Go.Av Go.Proofs Go.Sc.Oct
set_option linter.unusedSimpArgs false
set_option linter.unusedVariables false
/-- (*scarab/scarabref04.reader).fail -/
def c161 : ACode :=
  (.seq (.reg none [⟨some 6, none, .q (.mv (.t 0))⟩, ⟨some 7, none, .q (.nck (.t 6))⟩, ⟨some 8, none, .q (.fa 2 (.t 7))⟩, ⟨some 9, none, .q (.ld none (.t 8))⟩, ⟨some 10, none, .q (.bin .eql (.t 9) (.c (.i .i64 0)))⟩])
  (.keep [0, 1, 2, 10]
  (.cond (.t 10) (.seq (.reg none [⟨some 11, none, .q (.mv (.t 0))⟩, ⟨some 12, none, .q (.mv (.t 1))⟩, ⟨some 13, none, .q (.nck (.t 11))⟩, ⟨some 14, none, .q (.fa 2 (.t 13))⟩, ⟨none, none, .m (.st 1 (.t 14) (.t 12))⟩])
    (.keep [0, 2]
    (.reg none [⟨some 15, none, .q (.mv (.t 0))⟩, ⟨some 16, none, .q (.mv (.t 2))⟩, ⟨some 17, none, .q (.nck (.t 15))⟩, ⟨some 18, none, .q (.fa 3 (.t 17))⟩, ⟨none, none, .m (.st 1 (.t 18) (.t 16))⟩])))
  .skip)))
theorem r161 : (Try.f161.body.bind (resC Try.prog Try.f161.ntmps)) = some (strip c161) := by kernel_rfl
theorem s161 : Try.f161.results.toList.mapM (resRes Try.prog) = some [] := by kernel_rfl
/-- (*scarab/scarabref04.reader).any -/
def c160 : ACode :=
  (.seq (.reg none [⟨some 2, none, .q (.mv (.c (.i .u64 0)))⟩])
  (.keep [0]
  (.seq (.seq (.reg none [⟨some 6, none, .q (.mv (.t 0))⟩, ⟨some 7, none, .q (.nck (.t 6))⟩, ⟨some 8, none, .q (.fa 2 (.t 7))⟩, ⟨some 9, none, .q (.ld none (.t 8))⟩, ⟨some 10, none, .q (.bin .neq (.t 9) (.c (.i .i64 0)))⟩])
    (.keep [0, 10]
    (.cond (.t 10) (.seq (.reg none [⟨some 2, none, .q (.mv (.c (.i .u64 0)))⟩])
      .ret)
    .skip)))
  (.seq (.reg (some (16, [])) [⟨some 12, none, .q (.mv (.t 0))⟩, ⟨some 13, none, .q (.nck (.t 12))⟩, ⟨some 14, none, .q (.fa 0 (.t 13))⟩, ⟨some 15, none, .q (.ld none (.t 14))⟩, ⟨some 16, none, .q (.mv (.t 0))⟩, ⟨some 17, none, .q (.nck (.t 16))⟩, ⟨some 18, none, .q (.fa 1 (.t 17))⟩, ⟨some 19, none, .q (.ld none (.t 18))⟩, ⟨some 20, none, .call (.f 164) [(.t 15), (.t 19)]⟩, ⟨some 11, none, .q (.mv (.t 20))⟩, ⟨some 21, none, .q (.ext 0 (.t 11))⟩, ⟨some 22, none, .q (.ext 1 (.t 11))⟩, ⟨some 23, none, .q (.ext 2 (.t 11))⟩, ⟨some 3, none, .q (.mv (.t 21))⟩, ⟨some 4, none, .q (.mv (.t 22))⟩, ⟨some 5, none, .q (.mv (.t 23))⟩])
  (.keep [0, 3, 4, 5]
  (.seq (.seq (.reg none [⟨some 24, none, .q (.mv (.t 5))⟩, ⟨some 25, none, .q (.bin .neq (.t 24) (.c (.i .i64 0)))⟩])
    (.keep [0, 3, 4, 5, 25]
    (.cond (.t 25) (.seq (.reg none [⟨some 26, none, .q (.mv (.t 0))⟩, ⟨some 27, none, .q (.mv (.t 5))⟩, ⟨some 28, none, .q (.mv (.t 0))⟩, ⟨some 29, none, .q (.nck (.t 28))⟩, ⟨some 30, none, .q (.fa 1 (.t 29))⟩, ⟨some 31, none, .q (.ld none (.t 30))⟩, ⟨some 32, none, .call (.f 161) [(.t 26), (.t 27), (.t 31)]⟩])
      (.keep []
      (.seq (.reg none [⟨some 2, none, .q (.mv (.c (.i .u64 0)))⟩])
      .ret)))
    .skip)))
  (.seq (.reg none [⟨some 33, none, .q (.mv (.t 0))⟩, ⟨some 34, none, .q (.mv (.t 4))⟩, ⟨some 35, none, .q (.nck (.t 33))⟩, ⟨some 36, none, .q (.fa 1 (.t 35))⟩, ⟨none, none, .m (.st 1 (.t 36) (.t 34))⟩])
  (.keep [3]
  (.seq (.reg none [⟨some 37, none, .q (.mv (.t 3))⟩, ⟨some 2, none, .q (.mv (.t 37))⟩])
  .ret)))))))))
theorem r160 : (Try.f160.body.bind (resC Try.prog Try.f160.ntmps)) = some (strip c160) := by kernel_rfl
theorem s160 : Try.f160.results.toList.mapM (resRes Try.prog) = some [.t 2] := by kernel_rfl
/-- (*scarab/scarabref04.reader).number -/
def c153 : ACode :=
  (.seq (.reg none [⟨some 4, none, .q (.mv (.c (.i .i64 0)))⟩])
  (.keep [0, 1]
  (.seq (.reg none [⟨some 7, none, .q (.mv (.t 0))⟩, ⟨some 8, none, .q (.nck (.t 7))⟩, ⟨some 9, none, .q (.fa 1 (.t 8))⟩, ⟨some 10, none, .q (.ld none (.t 9))⟩, ⟨some 5, none, .q (.mv (.t 10))⟩])
  (.keep [0, 1, 5]
  (.seq (.reg none [⟨some 11, none, .q (.mv (.t 0))⟩, ⟨some 12, none, .call (.f 160) [(.t 11)]⟩, ⟨some 6, none, .q (.mv (.t 12))⟩])
  (.keep [0, 1, 5, 6]
  (.seq (.seq (.reg none [⟨some 13, none, .q (.mv (.t 1))⟩, ⟨some 14, none, .q (.bin .geq (.t 13) (.c (.i .i64 0)))⟩, ⟨some 15, none, .q (.mv (.t 14))⟩, ⟨some 16, some (15, true), .q (.mv (.t 6))⟩, ⟨some 17, some (15, true), .q (.mv (.t 1))⟩, ⟨some 18, some (15, true), .q (.cvi .u64 (.t 17))⟩, ⟨some 19, some (15, true), .q (.bin .gtr (.t 16) (.t 18))⟩, ⟨some 20, none, .pk (.t 15) (.t 19) (.c (.b false))⟩])
    (.keep [0, 5, 6, 20]
    (.cond (.t 20) (.reg none [⟨some 21, none, .q (.mv (.t 0))⟩, ⟨some 22, none, .q (.mv (.t 5))⟩, ⟨some 23, none, .call (.f 161) [(.t 21), (.c (.i .i64 30)), (.t 22)]⟩])
    .skip)))
  (.seq (.seq (.reg none [⟨some 24, none, .q (.mv (.t 6))⟩, ⟨some 25, none, .q (.bin .gtr (.t 24) (.c (.i .u64 2147483647)))⟩])
    (.keep [0, 5, 6, 25]
    (.cond (.t 25) (.reg none [⟨some 26, none, .q (.mv (.t 0))⟩, ⟨some 27, none, .q (.mv (.t 5))⟩, ⟨some 28, none, .call (.f 161) [(.t 26), (.c (.i .i64 8)), (.t 27)]⟩])
    .skip)))
  (.seq (.seq (.reg none [⟨some 29, none, .q (.mv (.t 0))⟩, ⟨some 30, none, .q (.nck (.t 29))⟩, ⟨some 31, none, .q (.fa 2 (.t 30))⟩, ⟨some 32, none, .q (.ld none (.t 31))⟩, ⟨some 33, none, .q (.bin .neq (.t 32) (.c (.i .i64 0)))⟩])
    (.keep [6, 33]
    (.cond (.t 33) (.seq (.reg none [⟨some 4, none, .q (.mv (.c (.i .i64 0)))⟩])
      .ret)
    .skip)))
  (.seq (.reg none [⟨some 34, none, .q (.mv (.t 6))⟩, ⟨some 35, none, .q (.cvi .i64 (.t 34))⟩, ⟨some 4, none, .q (.mv (.t 35))⟩])
  .ret))))))))))
theorem r153 : (Try.f153.body.bind (resC Try.prog Try.f153.ntmps)) = some (strip c153) := by kernel_rfl
theorem s153 : Try.f153.results.toList.mapM (resRes Try.prog) = some [.t 4] := by kernel_rfl
/-- (*scarab/scarabref04.reader).bool -/
def c154 : ACode :=
  (.seq (.reg none [⟨some 2, none, .q (.mv (.c (.b false)))⟩])
  (.keep [0]
  (.seq (.reg none [⟨some 5, none, .q (.mv (.t 0))⟩, ⟨some 6, none, .q (.nck (.t 5))⟩, ⟨some 7, none, .q (.fa 1 (.t 6))⟩, ⟨some 8, none, .q (.ld none (.t 7))⟩, ⟨some 3, none, .q (.mv (.t 8))⟩])
  (.keep [0, 3]
  (.seq (.reg none [⟨some 9, none, .q (.mv (.t 0))⟩, ⟨some 10, none, .call (.f 160) [(.t 9)]⟩, ⟨some 4, none, .q (.mv (.t 10))⟩])
  (.keep [0, 3, 4]
  (.seq (.seq (.reg none [⟨some 11, none, .q (.mv (.t 4))⟩, ⟨some 12, none, .q (.bin .gtr (.t 11) (.c (.i .u64 1)))⟩])
    (.keep [0, 3, 4, 12]
    (.cond (.t 12) (.reg none [⟨some 13, none, .q (.mv (.t 0))⟩, ⟨some 14, none, .q (.mv (.t 3))⟩, ⟨some 15, none, .call (.f 161) [(.t 13), (.c (.i .i64 8)), (.t 14)]⟩])
    .skip)))
  (.seq (.reg none [⟨some 16, none, .q (.mv (.t 0))⟩, ⟨some 17, none, .q (.nck (.t 16))⟩, ⟨some 18, none, .q (.fa 2 (.t 17))⟩, ⟨some 19, none, .q (.ld none (.t 18))⟩, ⟨some 20, none, .q (.bin .eql (.t 19) (.c (.i .i64 0)))⟩, ⟨some 21, none, .q (.mv (.t 20))⟩, ⟨some 22, some (21, true), .q (.mv (.t 4))⟩, ⟨some 23, some (21, true), .q (.bin .eql (.t 22) (.c (.i .u64 1)))⟩, ⟨some 24, none, .pk (.t 21) (.t 23) (.c (.b false))⟩, ⟨some 2, none, .q (.mv (.t 24))⟩])
  .ret))))))))
theorem r154 : (Try.f154.body.bind (resC Try.prog Try.f154.ntmps)) = some (strip c154) := by kernel_rfl
theorem s154 : Try.f154.results.toList.mapM (resRes Try.prog) = some [.t 2] := by kernel_rfl
/-- (*scarab/scarabref04.reader).signed -/
def c155 : ACode :=
  (.seq (.reg none [⟨some 2, none, .q (.mv (.c (.i .i64 0)))⟩])
  (.keep [0]
  (.seq (.reg none [⟨some 4, none, .q (.mv (.t 0))⟩, ⟨some 5, none, .call (.f 160) [(.t 4)]⟩, ⟨some 3, none, .q (.mv (.t 5))⟩])
  (.keep [3]
  (.seq (.seq (.reg none [⟨some 6, none, .q (.mv (.t 3))⟩, ⟨some 7, none, .q (.bin .rem (.t 6) (.c (.i .u64 2)))⟩, ⟨some 8, none, .q (.bin .eql (.t 7) (.c (.i .u64 0)))⟩])
    (.keep [3, 8]
    (.cond (.t 8) (.seq (.reg none [⟨some 9, none, .q (.mv (.t 3))⟩, ⟨some 10, none, .q (.bin .quo (.t 9) (.c (.i .u64 2)))⟩, ⟨some 11, none, .q (.cvi .i64 (.t 10))⟩, ⟨some 2, none, .q (.mv (.t 11))⟩])
      .ret)
    .skip)))
  (.seq (.reg none [⟨some 12, none, .q (.mv (.t 3))⟩, ⟨some 13, none, .q (.bin .quo (.t 12) (.c (.i .u64 2)))⟩, ⟨some 14, none, .q (.cvi .i64 (.t 13))⟩, ⟨some 15, none, .q (.bin .sub (.c (.i .i64 (-1))) (.t 14))⟩, ⟨some 2, none, .q (.mv (.t 15))⟩])
  .ret))))))
theorem r155 : (Try.f155.body.bind (resC Try.prog Try.f155.ntmps)) = some (strip c155) := by kernel_rfl
theorem s155 : Try.f155.results.toList.mapM (resRes Try.prog) = some [.t 2] := by kernel_rfl
def failR (s : St) (e bad : Int) : St := if s.e = 0 then ⟨s.pos, e, bad⟩ else s
theorem fail_d (bs : List UInt8) (s : St) (e bad : Int) : CallS Try.prog 161 [.pt 0 0 0 0, .v (.i .i64 e), .v (.i .i64 bad)] [.var (rrow bs s)] fun r K => K = [.var (rrow bs (failR s e bad))] := by
  refine fun_cut 1 hmx Try.func161 r161 s161 (by rw [Try.ntmps161]; simp) (by first | exact Nat.le_refl _ | decide | simp) ?_
  unfold c161
  simp [rrow, failR]
  by_cases h : s.e = 0 <;> simp [h]
def anyP : Pr Nat := fun l => if (getA 0 0 l).1 ≠ 0 then .err (getA 0 0 l).1 0 else .ok (getA 0 0 l).2.1 (getA 0 0 l).2.2
def AnyR (bs : List UInt8) (s : St) (r : RV) (K : List AObj) : Prop := ∃ (y : Nat) (s' : St), r = .v (.i .u64 (y : Int)) ∧ K = [.var (rrow bs s')] ∧ Step bs anyP s y s' ∧ y < 18446744073709551616 ∧ (s'.e ≠ 0 → y = 0)
theorem any_d (bs : List UInt8) (s : St) (hs : s.pos ≤ bs.length) (hb : bs.length < 1099511627776) : CallS Try.prog 160 [.pt 0 0 0 0] [.var (rrow bs s)] fun r K => AnyR bs s r K := by
  refine fun_cut 1 hmx Try.func160 r160 s160 (by rw [Try.ntmps160]; simp) (by first | exact Nat.le_refl _ | decide | simp) ?_
  unfold c160
  simp [rrow]
  refine ⟨fun he => ⟨0, s, rfl, rfl, .stay hs he 0, by omega, fun _ => rfl⟩, fun he => ?_⟩
  first
    | refine callk rfl Try.call164 (getRf bs s.pos hb) rfl ?_
    | refine callks rfl Try.call164 (getRf bs s.pos hb) rfl ?_
    | refine callq rfl Try.call164 (getRf bs s.pos hb) rfl ?_
  have hg : getR bs (s.pos : Int) = told3 (getA 0 0 (bs.drop s.pos)) s.pos := by rw [getR, if_neg (by omega)]; simp
  rw [hg]
  rcases hga : getA 0 0 (bs.drop s.pos) with ⟨e, x, n⟩
  by_cases he0 : e = 0
  · subst he0
    have hx := getA_lt' hga
    have hu := drop_used hga hs
    simp [told3]
    refine ⟨x, ⟨s.pos + n, s.e, s.bad⟩, rfl, by simp [rrow], ⟨hu, fun h => absurd he h, fun _ => ?_⟩, hx, fun h => absurd he h⟩
    simp only [anyP, hga]
    exact ⟨rfl, he, rfl, trivial⟩
  · simp [told3, he0]
    refine callf [0] rfl Try.call161 (fail_d bs s e s.pos) (by decide) rfl (by simp) (by simp [rrow]) (by simp) ?_
    rintro _ _ rfl
    simp [rrow]
    refine ⟨0, failR s e s.pos, rfl, rfl, ?_, by omega, fun _ => rfl⟩
    rw [failR, if_pos he]
    refine ⟨hs, fun h => absurd he h, fun _ => ?_⟩
    simp only [anyP, hga]
    rw [if_pos he0]
    exact ⟨rfl, he0, rfl⟩
theorem Step.small {bs : List UInt8} {s s1 : St} {y most : Nat} {above : Int} (h : Step bs anyP s y s1) (hy : y ≤ most) : Step bs (numP most above) s y s1 := by
  obtain ⟨a1, a2, a3⟩ := h
  refine ⟨a1, a2, fun he => ?_⟩
  have a3 := a3 he
  simp only [numP]
  simp only [anyP] at a3
  split at a3
  · rename_i x n hx
    split at hx
    · cases hx
    · rename_i h0
      cases hx
      obtain ⟨rfl, b⟩ := a3
      rw [if_neg h0, if_neg (by omega)]
      exact ⟨rfl, b⟩
  · rename_i er o hx
    split at hx
    · rename_i h0
      cases hx
      rw [if_pos h0]
      exact a3
    · cases hx
theorem Step.big {bs : List UInt8} {s s1 : St} {y most : Nat} {above : Int} (h : Step bs anyP s y s1) (he : s1.e = 0) (ha : above ≠ 0) (hy : most < y) (z : Nat) : Step bs (numP most above) s z ⟨s1.pos, above, (s.pos : Int)⟩ := by
  obtain ⟨a1, a2, a3⟩ := h
  have h0 : s.e = 0 := Classical.byContradiction fun h => h ((a2 h).1 ▸ he)
  refine ⟨a1, fun h => absurd h0 h, fun _ => ?_⟩
  have a3 := a3 h0
  simp only [numP]
  simp only [anyP] at a3
  split at a3
  · rename_i x n hx
    split at hx
    · cases hx
    · rename_i h0
      cases hx
      obtain ⟨rfl, b⟩ := a3
      rw [if_neg h0, if_pos hy]
      exact ⟨rfl, ha, by simp⟩
  · exact absurd (a3.1 ▸ he) a3.2.1
theorem Step.signed {bs : List UInt8} {s s1 : St} {y : Nat} (h : Step bs anyP s y s1) : Step bs signedP s (zagN y) s1 := by
  obtain ⟨a1, a2, a3⟩ := h
  refine ⟨a1, a2, fun he => ?_⟩
  have a3 := a3 he
  simp only [signedP]
  simp only [anyP] at a3
  split at a3
  · rename_i x n hx
    split at hx
    · cases hx
    · rename_i h0
      cases hx
      obtain ⟨rfl, b⟩ := a3
      rw [if_neg h0]
      exact ⟨rfl, b⟩
  · rename_i er o hx
    split at hx
    · rename_i h0
      cases hx
      rw [if_pos h0]
      exact a3
    · cases hx
theorem number_d (most : Nat) (hm : most ≤ 1000) : Rd Try.prog 153 [.v (.i .i64 (most : Int))] (fun y : Nat => .i .i64 (y : Int)) (numP most 30) := by
  intro bs s hs hb
  refine fun_cut 1 hmx Try.func153 r153 s153 (by rw [Try.ntmps153]; simp) (by first | exact Nat.le_refl _ | decide | simp) ?_
  unfold c153
  have hwm : IntKind.u64.wrap (most : Int) = (most : Int) := wrap_u64_lt (by omega)
  simp [rrow]
  refine callf [0] rfl Try.call160 (any_d bs s hs hb) (by decide) rfl (by simp) (by simp [rrow]) (by simp) ?_
  rintro _ _ ⟨y, s1, rfl, rfl, h1, hy, hz⟩
  by_cases hbig : most < y
  · have he1 : s1.e = 0 := Classical.byContradiction fun h => by have := hz h; omega
    have hbig' : ¬ y ≤ most := by omega
    simp [rrow, hwm, hbig, hbig']
    refine callf [0] rfl Try.call161 (fail_d bs s1 30 s.pos) (by decide) rfl (by simp) (by simp [rrow]) (by simp) ?_
    rintro _ _ rfl
    simp [rrow, failR, he1]
    refine ⟨fun h2 => ?_, fun h2 => ⟨0, ⟨s1.pos, 30, s.pos⟩, rfl, rfl, h1.big he1 (by decide) hbig 0⟩⟩
    refine callf [0] rfl Try.call161 (fail_d bs ⟨s1.pos, 30, s.pos⟩ 8 s.pos) (by decide) rfl (by simp) (by simp [rrow]) (by simp) ?_
    rintro _ _ rfl
    simp [rrow, failR]
    exact ⟨0, ⟨s1.pos, 30, s.pos⟩, rfl, rfl, h1.big he1 (by decide) hbig 0⟩
  · have hbig' : y ≤ most := by omega
    have hw : IntKind.i64.wrap (y : Int) = (y : Int) := wrap_in (by omega) (by omega)
    have hsm : ¬ (2147483647 : Int) < y := by omega
    have hsm' : (y : Int) ≤ 2147483647 := by omega
    simp [rrow, hwm, hbig, hbig', hw, hsm, hsm']
    exact ⟨fun he => ⟨0, s1, rfl, rfl, (h1.small hbig').junk he 0⟩, fun he => ⟨y, s1, rfl, rfl, h1.small hbig'⟩⟩
theorem plain_d : Rd Try.prog 153 [.v (.i .i64 (-1))] (fun y : Int => .i .i64 y) plainP := by
  intro bs s hs hb
  refine fun_cut 1 hmx Try.func153 r153 s153 (by rw [Try.ntmps153]; simp) (by first | exact Nat.le_refl _ | decide | simp) ?_
  unfold c153
  simp [rrow]
  refine callf [0] rfl Try.call160 (any_d bs s hs hb) (by decide) rfl (by simp) (by simp [rrow]) (by simp) ?_
  rintro _ _ ⟨y, s1, rfl, rfl, h1, hy, hz⟩
  by_cases hbig : 2147483647 < y
  · have he1 : s1.e = 0 := Classical.byContradiction fun h => by have := hz h; omega
    have hbig' : (2147483647 : Int) < y := by omega
    have hbig2 : ¬ (y : Int) ≤ 2147483647 := by omega
    simp [rrow, hbig', hbig2]
    refine callf [0] rfl Try.call161 (fail_d bs s1 8 s.pos) (by decide) rfl (by simp) (by simp [rrow]) (by simp) ?_
    rintro _ _ rfl
    simp [rrow, failR, he1]
    exact ⟨0, ⟨s1.pos, 8, s.pos⟩, rfl, rfl, (h1.big he1 (by decide) hbig 0).map (f := fun x : Nat => (x : Int))⟩
  · have hw : IntKind.i64.wrap (y : Int) = (y : Int) := wrap_in (by omega) (by omega)
    have hsm : ¬ (2147483647 : Int) < y := by omega
    have hsm' : (y : Int) ≤ 2147483647 := by omega
    simp [rrow, hw, hsm, hsm']
    exact ⟨fun he => ⟨0, s1, rfl, rfl, ((h1.small (by omega)).map (f := fun x : Nat => (x : Int))).junk he 0⟩, fun he => ⟨y, s1, rfl, rfl, (h1.small (by omega)).map (f := fun x : Nat => (x : Int))⟩⟩
theorem bool_d : Rd Try.prog 154 [] (fun y : Bool => .b y) truthP := by
  intro bs s hs hb
  refine fun_cut 1 hmx Try.func154 r154 s154 (by rw [Try.ntmps154]; simp) (by first | exact Nat.le_refl _ | decide | simp) ?_
  unfold c154
  simp [rrow]
  refine callf [0] rfl Try.call160 (any_d bs s hs hb) (by decide) rfl (by simp) (by simp [rrow]) (by simp) ?_
  rintro _ _ ⟨y, s1, rfl, rfl, h1, hy, hz⟩
  by_cases hbig : 1 < y
  · have he1 : s1.e = 0 := Classical.byContradiction fun h => by have := hz h; omega
    have hbig' : ¬ (y : Int) ≤ 1 := by omega
    have hbigI : (1 : Int) < y := by omega
    simp [rrow, hbigI, hbig']
    refine callf [0] rfl Try.call161 (fail_d bs s1 8 s.pos) (by decide) rfl (by simp) (by simp [rrow]) (by simp) ?_
    rintro _ _ rfl
    simp [rrow, failR, he1]
    exact ⟨false, ⟨s1.pos, 8, s.pos⟩, rfl, rfl, (h1.big he1 (by decide) hbig 0).map (f := fun x : Nat => x == 1)⟩
  · have hbig' : (y : Int) ≤ 1 := by omega
    have hbigI : ¬ (1 : Int) < y := by omega
    simp [rrow, hbigI, hbig']
    have h2 := (h1.small (most := 1) (above := 8) (by omega)).map (f := fun x : Nat => x == 1)
    refine ⟨decide (s1.e = 0) && ((y : Int) == 1), s1, rfl, rfl, ?_⟩
    by_cases he : s1.e = 0
    · have : (decide (s1.e = 0) && ((y : Int) == 1)) = (y == 1) := by rw [Bool.eq_iff_iff]; simp [he] <;> omega
      rw [this]; exact h2
    · exact h2.junk he _
theorem signed_d : Rd Try.prog 155 [] (fun y : Int => .i .i64 y) signedP := by
  intro bs s hs hb
  refine fun_cut 1 hmx Try.func155 r155 s155 (by rw [Try.ntmps155]; simp) (by first | exact Nat.le_refl _ | decide | simp) ?_
  unfold c155
  simp [rrow]
  refine callf [0] rfl Try.call160 (any_d bs s hs hb) (by decide) rfl (by simp) (by simp [rrow]) (by simp) ?_
  rintro _ _ ⟨y, s1, rfl, rfl, h1, hy, hz⟩
  have hr : (y : Int).tmod 2 = ((y % 2 : Nat) : Int) := by rw [Int.tmod_eq_emod_of_nonneg (by omega)]; omega
  have hq : (y : Int).tdiv 2 = ((y / 2 : Nat) : Int) := by rw [Int.tdiv_eq_ediv_of_nonneg (by omega)]; omega
  have hq2 : (y : Int) / 2 = ((y / 2 : Nat) : Int) := by omega
  have hw1 : IntKind.u64.wrap ((y / 2 : Nat) : Int) = ((y / 2 : Nat) : Int) := wrap_u64_lt (by omega)
  have hw2 : IntKind.i64.wrap ((y / 2 : Nat) : Int) = ((y / 2 : Nat) : Int) := wrap_in (by omega) (by omega)
  have hw3 : IntKind.i64.wrap (-1 - ((y / 2 : Nat) : Int)) = -1 - ((y / 2 : Nat) : Int) := wrap_in (by omega) (by omega)
  simp [rrow, hr]
  rw [hq2, hw1, hw2, hw3]
  refine ⟨fun h => ⟨zagN y, s1, ?_, rfl, h1.signed⟩, fun h => ⟨zagN y, s1, ?_, rfl, h1.signed⟩⟩
  · rw [zagN, if_neg (by omega)]
  · rw [zagN, if_pos (by omega)]; congr 2; omega
end Go.Sc.Cw
/- Chapter 04: selects read, by the document's text. No condition. -/
set_option linter.constructorNameAsVariable false
namespace Go.Sc.Cw
open Go Go.RowKit Go.Av Go.Proofs Go.Sc.Oct
set_option linter.unusedSimpArgs false
set_option linter.unusedVariables false
/-- (*scarab/scarabref04.reader).selects -/
def c162 : ACode :=
  (.seq (.reg none [⟨some 2, none, .q (.mv (.c .nil))⟩])
  (.gst (.letT 2 2)
  (.keep [0]
  (.seq (.reg none [⟨some 3, none, .q (.mv (.c .nil))⟩])
  (.gst (.nilT 3 2)
  (.keep [0, 3]
  (.seq (.reg none [⟨some 10, none, .q (.mv (.t 0))⟩, ⟨some 11, none, .call (.f 153) [(.t 10), (.c (.i .i64 4))]⟩, ⟨some 4, none, .q (.mv (.t 11))⟩])
  (.keep [0, 3, 4]
  (.seq (.seq (.reg none [⟨some 5, none, .q (.mv (.c (.i .i64 0)))⟩])
    (.keep [0, 3, 4, 5]
    (.blk 0 (.keep [0, 3, 4, 5]
    (.loop (.fin [0, 3, 4, 5]
      (.seq (.seq (.reg none [⟨some 12, none, .q (.mv (.t 5))⟩, ⟨some 13, none, .q (.mv (.t 4))⟩, ⟨some 14, none, .q (.bin .lss (.t 12) (.t 13))⟩, ⟨some 15, none, .q (.mv (.t 14))⟩, ⟨some 16, some (15, true), .q (.mv (.t 0))⟩, ⟨some 17, some (15, true), .q (.nck (.t 16))⟩, ⟨some 18, some (15, true), .q (.fa 2 (.t 17))⟩, ⟨some 19, some (15, true), .q (.ld none (.t 18))⟩, ⟨some 20, some (15, true), .q (.bin .eql (.t 19) (.c (.i .i64 0)))⟩, ⟨some 21, none, .pk (.t 15) (.t 20) (.c (.b false))⟩])
        (.keep [0, 3, 4, 5, 21]
        (.cond (.t 21) .skip
        (.exit 0))))
      (.seq (.blk 1 (.seq (.reg none [⟨some 24, none, .q (.bld [.nil, (.i .i64 0)] [])⟩, ⟨some 6, none, .m (.alloc (.g [.nil, (.i .i64 0)]))⟩, ⟨none, none, .m (.st 2 (.t 6) (.t 24))⟩])
        (.gst (.nilC 6 0 4)
        (.keep [0, 3, 4, 5, 6]
        (.seq (.reg none [⟨some 25, none, .q (.mv (.t 0))⟩, ⟨some 26, none, .call (.f 153) [(.t 25), (.c (.i .i64 4))]⟩, ⟨some 7, none, .q (.mv (.t 26))⟩])
        (.keep [0, 3, 4, 5, 6, 7]
        (.seq (.seq (.reg none [⟨some 8, none, .q (.mv (.c (.i .i64 0)))⟩])
          (.keep [0, 3, 4, 5, 6, 7, 8]
          (.blk 2 (.keep [0, 3, 4, 5, 6, 7, 8]
          (.loop (.fin [0, 3, 4, 5, 6, 7, 8]
            (.seq (.seq (.reg none [⟨some 27, none, .q (.mv (.t 8))⟩, ⟨some 28, none, .q (.mv (.t 7))⟩, ⟨some 29, none, .q (.bin .lss (.t 27) (.t 28))⟩, ⟨some 30, none, .q (.mv (.t 29))⟩, ⟨some 31, some (30, true), .q (.mv (.t 0))⟩, ⟨some 32, some (30, true), .q (.nck (.t 31))⟩, ⟨some 33, some (30, true), .q (.fa 2 (.t 32))⟩, ⟨some 34, some (30, true), .q (.ld none (.t 33))⟩, ⟨some 35, some (30, true), .q (.bin .eql (.t 34) (.c (.i .i64 0)))⟩, ⟨some 36, none, .pk (.t 30) (.t 35) (.c (.b false))⟩])
              (.keep [0, 3, 4, 5, 6, 7, 8, 36]
              (.cond (.t 36) .skip
              (.exit 2))))
            (.seq (.blk 3 (.seq (.reg none [⟨some 39, none, .q (.bld [(.b false), (.i .i64 0), (.i .i64 0), (.i .i64 0)] [])⟩, ⟨some 9, none, .m (.alloc (.g [(.b false), (.i .i64 0), (.i .i64 0), (.i .i64 0)]))⟩, ⟨none, none, .m (.st 4 (.t 9) (.t 39))⟩])
              (.keep [0, 3, 4, 5, 6, 7, 8, 9]
              (.seq (.reg none [⟨some 40, none, .q (.mv (.t 0))⟩, ⟨some 41, none, .call (.f 154) [(.t 40)]⟩, ⟨some 42, none, .q (.fa 0 (.t 9))⟩, ⟨none, none, .m (.st 1 (.t 42) (.t 41))⟩])
              (.keep [0, 3, 4, 5, 6, 7, 8, 9]
              (.seq (.reg none [⟨some 43, none, .q (.mv (.t 0))⟩, ⟨some 44, none, .call (.f 153) [(.t 43), (.c (.i .i64 (-1)))]⟩, ⟨some 45, none, .q (.fa 1 (.t 9))⟩, ⟨none, none, .m (.st 1 (.t 45) (.t 44))⟩])
              (.keep [0, 3, 4, 5, 6, 7, 8, 9]
              (.seq (.reg none [⟨some 46, none, .q (.mv (.t 0))⟩, ⟨some 47, none, .call (.f 153) [(.t 46), (.c (.i .i64 (-1)))]⟩, ⟨some 48, none, .q (.bin .sub (.t 47) (.c (.i .i64 1)))⟩, ⟨some 49, none, .q (.fa 2 (.t 9))⟩, ⟨none, none, .m (.st 1 (.t 49) (.t 48))⟩])
              (.keep [0, 3, 4, 5, 6, 7, 8, 9]
              (.seq (.reg none [⟨some 50, none, .q (.mv (.t 0))⟩, ⟨some 51, none, .call (.f 153) [(.t 50), (.c (.i .i64 (-1)))]⟩, ⟨some 52, none, .q (.fa 3 (.t 9))⟩, ⟨none, none, .m (.st 1 (.t 52) (.t 51))⟩])
              (.keep [0, 3, 4, 5, 6, 7, 8, 9]
              (.reg none [⟨some 53, none, .q (.fa 0 (.t 6))⟩, ⟨some 54, none, .q (.ld none (.t 53))⟩, ⟨some 55, none, .q (.ld (some 4) (.t 9))⟩, ⟨some 56, none, .m (.bsl 1 4 [(.b false), (.i .i64 0), (.i .i64 0), (.i .i64 0)] [(0, 4, .t 55)])⟩, ⟨some 57, none, .m (.app 4 32 (.t 54) (.t 56))⟩, ⟨some 58, none, .q (.fa 0 (.t 6))⟩, ⟨none, none, .m (.st 1 (.t 58) (.t 57))⟩]))))))))))))
            (.keep [0, 3, 4, 5, 6, 7, 8]
            (.reg none [⟨some 37, none, .q (.mv (.t 8))⟩, ⟨some 38, none, .q (.bin .add (.t 37) (.c (.i .i64 1)))⟩, ⟨some 8, none, .q (.mv (.t 38))⟩]))))))))))
        (.seq (.reg none [⟨some 59, none, .q (.mv (.t 0))⟩, ⟨some 60, none, .call (.f 153) [(.t 59), (.c (.i .i64 (-1)))]⟩, ⟨some 61, none, .q (.bin .sub (.t 60) (.c (.i .i64 1)))⟩, ⟨some 62, none, .q (.fa 1 (.t 6))⟩, ⟨none, none, .m (.st 1 (.t 62) (.t 61))⟩])
        (.keep [0, 3, 4, 5, 6]
        (.gst (.frzC 6 0)
        (.reg none [⟨some 63, none, .q (.mv (.t 3))⟩, ⟨some 64, none, .q (.ld (some 2) (.t 6))⟩, ⟨some 65, none, .m (.bsl 1 2 [.nil, (.i .i64 0)] [(0, 2, .t 64)])⟩, ⟨some 66, none, .m (.app 2 32 (.t 63) (.t 65))⟩, ⟨some 3, none, .q (.mv (.t 66))⟩])))))))))))
      (.keep [0, 3, 4, 5]
      (.reg none [⟨some 22, none, .q (.mv (.t 5))⟩, ⟨some 23, none, .q (.bin .add (.t 22) (.c (.i .i64 1)))⟩, ⟨some 5, none, .q (.mv (.t 23))⟩]))))))))))
  (.seq (.reg none [⟨some 67, none, .q (.mv (.t 3))⟩, ⟨some 2, none, .q (.mv (.t 67))⟩])
  (.gst (.letT 2 2)
  .ret)))))))))))
theorem r162 : (Try.f162.body.bind (resC Try.prog Try.f162.ntmps)) = some (strip c162) := by kernel_rfl
theorem s162 : Try.f162.results.toList.mapM (resRes Try.prog) = some [.t 2] := by kernel_rfl
theorem num_most {bs : List UInt8} {s s1 : St} {n most : Nat} (hst : Step bs (numP most 30) s n s1) (h1 : s1.e = 0) : n ≤ most := by
  have he : s.e = 0 := Classical.byContradiction fun h => h ((hst.2.1 h).1 ▸ h1)
  have := hst.2.2 he
  split at this
  · rename_i x k hx
    obtain ⟨rfl, _⟩ := this
    exact (num_ok hx).1
  · exact absurd (this.1 ▸ h1) this.2.1
theorem selects_d : Rd Try.prog 162 [] (fun l : List Select => .sl 2 (l.map Select.row)) (listP 4 selP) := by
  intro bs s hs hb
  refine fun_cut 1 hmx Try.func162 r162 s162 (by rw [Try.ntmps162]; simp) (by first | exact Nat.le_refl _ | decide | simp) ?_
  unfold c162
  simp [rrow]
  refine callf [0] rfl Try.call153 (number_d 4 (by omega) bs s hs hb) (by decide) rfl (by simp) (by simp [rrow]) (by simp) ?_
  rintro _ _ ⟨n, s1, rfl, rfl, hst⟩
  simp [rrow]
  refine go_while hmx 2 (fun (t : Nat × Nat × List Select × St) => [(5, .v (.i .i64 (t.1 : Int))), (3, .os 1 t.2.1)]) (fun t => [.var (rrow bs t.2.2.2), .arr t.2.1 2 (vrows (t.2.2.1.map Select.row))])
    (fun t => t.1 ≤ n ∧ t.2.2.1.length = t.1 ∧ (t.2.2.2.e = 0 → n ≤ 4) ∧ t.2.2.2.pos ≤ bs.length ∧ t.1 ≤ 4 ∧ ∀ zs sf, Step bs (repP selP (n - t.1)) t.2.2.2 zs sf → Step bs (repP selP n) s1 (t.2.2.1 ++ zs) sf) (fun t => n - t.1) (0, 0, [], s1) rfl (by simp) (by simp [rrow, vrows]) (by simp) (by simp) (by simp [rrow]) ⟨by omega, rfl, fun he => num_most hst he, hst.1, by omega, fun zs sf h => by simpa using h⟩ ?_
  rintro ⟨i, v, acc, t⟩ ⟨hi, hl, hmo, hp, hbig, hk⟩
  simp only at hi hl hmo hp hbig hk
  by_cases hlt : i < n
  · have hlt' : (i : Int) < n := by omega
    have hge : ¬ (n : Int) ≤ i := by omega
    by_cases he : t.e = 0
    · have hmo := hmo he
      have hw : IntKind.i64.wrap ((i : Int) + 1) = (i : Int) + 1 := wrap_in (by omega) (by omega)
      simp [hlt', hlt, hge, he, rrow]
      refine callf [0] rfl Try.call153 (number_d 4 (by omega) bs t hp hb) (by decide) rfl (by simp) (by simp [rrow, he]) (by simp) ?_
      rintro _ _ ⟨n2, t1, rfl, rfl, hst2⟩
      simp [rrow]
      refine go_while hmx 4 (fun (u : Nat × Nat × List Case × St) => [(8, .v (.i .i64 (u.1 : Int)))]) (fun u => [.var (rrow bs u.2.2.2), .arr v 2 (vrows (acc.map Select.row)), .var [.os 3 u.2.1, .v (.i .i64 0)], .arr u.2.1 4 (vrows (u.2.2.1.map Case.row))])
        (fun u => u.1 ≤ n2 ∧ u.2.2.1.length = u.1 ∧ (u.2.2.2.e = 0 → n2 ≤ 4) ∧ u.2.2.2.pos ≤ bs.length ∧ u.1 ≤ 4 ∧ ∀ zs sf, Step bs (repP caseP (n2 - u.1)) u.2.2.2 zs sf → Step bs (repP caseP n2) t1 (u.2.2.1 ++ zs) sf) (fun u => n2 - u.1) (0, 0, [], t1) rfl (by simp) (by simp [rrow, vrows]) (by simp) (by simp) (by simp [rrow]) ⟨by omega, rfl, fun he => num_most hst2 he, hst2.1, by omega, fun zs sf h => by simpa using h⟩ ?_
      rintro ⟨i2, w, cs, t2⟩ ⟨hi2, hl2, hmo2, hp2, hbig2, hk2⟩
      simp only at hi2 hl2 hmo2 hp2 hbig2 hk2
      by_cases hlt2 : i2 < n2
      · have hlt2' : (i2 : Int) < n2 := by omega
        have hge2 : ¬ (n2 : Int) ≤ i2 := by omega
        by_cases he2 : t2.e = 0
        · have hmo2 := hmo2 he2
          have hw2 : IntKind.i64.wrap ((i2 : Int) + 1) = (i2 : Int) + 1 := wrap_in (by omega) (by omega)
          simp [hlt2', hlt2, hge2, he2, rrow]
          refine callf [0] rfl Try.call154 (bool_d bs t2 hp2 hb) (by decide) rfl (by simp) (by simp [rrow, he2]) (by simp) ?_
          rintro _ _ ⟨y1, s1', rfl, rfl, h1⟩
          simp [rrow]
          refine callf [0] rfl Try.call153 (plain_d bs s1' h1.1 hb) (by decide) rfl (by simp) (by simp [rrow]) (by simp) ?_
          rintro _ _ ⟨y2, s2', rfl, rfl, h2⟩
          simp [rrow]
          refine callf [0] rfl Try.call153 (plain_d bs s2' h2.1 hb) (by decide) rfl (by simp) (by simp [rrow]) (by simp) ?_
          rintro _ _ ⟨y3, s3', rfl, rfl, h3⟩
          simp [rrow]
          refine callf [0] rfl Try.call153 (plain_d bs s3' h3.1 hb) (by decide) rfl (by simp) (by simp [rrow]) (by simp) ?_
          rintro _ _ ⟨y4, s4', rfl, rfl, h4⟩
          simp [rrow]
          have hc : Step bs caseP t2 ⟨y1, y2, IntKind.i64.wrap (y3 - 1), y4⟩ s4' := by
            rw [caseP_eq]
            exact h1.bind (h2.bind (h3.minus.bind (h4.bind (.ret h4.1 _))))
          refine ⟨⟨by omega, by omega⟩, i2 + 1, by simp [hw2], w + 1, cs ++ [⟨y1, y2, IntKind.i64.wrap (y3 - 1), y4⟩], s4', ⟨⟨rfl, rfl, rfl⟩, rfl, by simp [vrows, Case.row]⟩, ⟨by omega, by simp [hl2], fun _ => hmo2, h4.1, by omega, fun zs sf hz => ?_⟩, by omega⟩
          have := hk2 (⟨y1, y2, IntKind.i64.wrap (y3 - 1), y4⟩ :: zs) sf (by
            rw [show n2 - i2 = (n2 - (i2 + 1)) + 1 by omega]
            exact hc.bind (hz.map (f := fun ys => _ :: ys)))
          simpa using this
        · simp [hlt2', hlt2, hge2, he2, rrow]
          have := hk2 [] t2 (.stay hp2 he2 [])
          rw [List.append_nil] at this
          refine callf [0] rfl Try.call153 (plain_d bs t2 hp2 hb) (by decide) rfl (by simp) (by simp [rrow, he2]) (by simp) ?_
          rintro _ _ ⟨y5, t3, rfl, rfl, h5⟩
          simp [rrow]
          have hsel : Step bs selP t ⟨cs, IntKind.i64.wrap (y5 - 1)⟩ t3 := by
            rw [selP_eq]
            exact (hst2.bind this).bind (h5.minus.bind (.ret h5.1 _))
          refine ⟨⟨by omega, by omega⟩, i + 1, v + 1, ⟨rfl, by simp [hw]⟩, acc ++ [⟨cs, IntKind.i64.wrap (y5 - 1)⟩], t3, ⟨⟨rfl, rfl, rfl⟩, rfl, by simp [vrows, Select.row]⟩, ⟨by omega, by simp [hl], fun _ => hmo, h5.1, by omega, fun zs sf hz => ?_⟩, by omega⟩
          have := hk (⟨cs, IntKind.i64.wrap (y5 - 1)⟩ :: zs) sf (by
            rw [show n - i = (n - (i + 1)) + 1 by omega]
            exact hsel.bind (hz.map (f := fun ys => _ :: ys)))
          simpa using this
      · obtain rfl : i2 = n2 := by omega
        simp [rrow]
        have := hk2 [] t2 (by rw [Nat.sub_self]; exact .ret hp2 [])
        rw [List.append_nil] at this
        refine callf [0] rfl Try.call153 (plain_d bs t2 hp2 hb) (by decide) rfl (by simp) (by simp [rrow]) (by simp) ?_
        rintro _ _ ⟨y5, t3, rfl, rfl, h5⟩
        simp [rrow]
        have hsel : Step bs selP t ⟨cs, IntKind.i64.wrap (y5 - 1)⟩ t3 := by
          rw [selP_eq]
          exact (hst2.bind this).bind (h5.minus.bind (.ret h5.1 _))
        refine ⟨⟨by omega, by omega⟩, i + 1, v + 1, ⟨rfl, by simp [hw]⟩, acc ++ [⟨cs, IntKind.i64.wrap (y5 - 1)⟩], t3, ⟨⟨rfl, rfl, rfl⟩, rfl, by simp [vrows, Select.row]⟩, ⟨by omega, by simp [hl], fun _ => hmo, h5.1, by omega, fun zs sf hz => ?_⟩, by omega⟩
        have := hk (⟨cs, IntKind.i64.wrap (y5 - 1)⟩ :: zs) sf (by
          rw [show n - i = (n - (i + 1)) + 1 by omega]
          exact hsel.bind (hz.map (f := fun ys => _ :: ys)))
        simpa using this
    · simp [hlt', hlt, hge, he, rrow]
      have := hk [] t (.stay hp he [])
      exact ⟨acc, t, rfl, rfl, hst.bind (this.junk he acc)⟩
  · obtain rfl : i = n := by omega
    simp [rrow]
    have := hk [] t (by rw [Nat.sub_self]; exact .ret hp [])
    rw [List.append_nil] at this
    exact ⟨acc, t, rfl, rfl, hst.bind this⟩
end Go.Sc.Cw
/- Chapter 04: instructions read, by the document's text. No condition. -/
set_option linter.constructorNameAsVariable false
namespace Go.Sc.Cw
open Go Go.RowKit Go.Av Go.Proofs Go.Sc.Oct
set_option linter.unusedSimpArgs false
set_option linter.unusedVariables false
/-- (*scarab/scarabref04.reader).instr -/
def c163 : ACode :=
  (.seq (.reg none [⟨some 2, none, .m (.alloc (.g [(.i .i64 0), (.i .i64 0), (.i .i64 0), (.i .i64 0), (.i .i64 0)]))⟩])
  (.keep [0, 2]
  (.seq (.reg none [⟨some 9, none, .q (.mv (.t 0))⟩, ⟨some 10, none, .q (.nck (.t 9))⟩, ⟨some 11, none, .q (.fa 1 (.t 10))⟩, ⟨some 12, none, .q (.ld none (.t 11))⟩, ⟨some 3, none, .q (.mv (.t 12))⟩])
  (.keep [0, 2, 3]
  (.seq (.reg none [⟨some 13, none, .q (.bld [(.i .i64 0), (.i .i64 0), (.i .i64 0), (.i .i64 0), (.i .i64 0)] [])⟩, ⟨some 4, none, .m (.alloc (.g [(.i .i64 0), (.i .i64 0), (.i .i64 0), (.i .i64 0), (.i .i64 0)]))⟩, ⟨none, none, .m (.st 5 (.t 4) (.t 13))⟩])
  (.keep [0, 2, 3, 4]
  (.seq (.reg none [⟨some 14, none, .q (.mv (.t 0))⟩, ⟨some 15, none, .call (.f 153) [(.t 14), (.c (.i .i64 (-1)))]⟩, ⟨some 5, none, .q (.mv (.t 15))⟩])
  (.keep [0, 2, 3, 4, 5]
  (.seq (.seq (.reg none [⟨some 16, none, .q (.mv (.t 0))⟩, ⟨some 17, none, .q (.nck (.t 16))⟩, ⟨some 18, none, .q (.fa 2 (.t 17))⟩, ⟨some 19, none, .q (.ld none (.t 18))⟩, ⟨some 20, none, .q (.bin .neq (.t 19) (.c (.i .i64 0)))⟩])
    (.keep [0, 2, 3, 4, 5, 20]
    (.cond (.t 20) (.seq (.reg none [⟨some 21, none, .q (.ld (some 5) (.t 4))⟩, ⟨none, none, .m (.st 5 (.t 2) (.t 21))⟩])
      .ret)
    .skip)))
  (.seq (.seq (.reg none [⟨some 22, none, .q (.mv (.t 5))⟩, ⟨some 23, none, .q (.bin .gtr (.t 22) (.c (.i .i64 255)))⟩, ⟨some 24, none, .q (.mv (.t 23))⟩, ⟨some 25, some (24, false), .q (.mv (.t 5))⟩, ⟨some 26, some (24, false), .call (.f 141) [(.t 25)]⟩, ⟨some 27, some (24, false), .q (.bin .eql (.t 26) (.c (.s [])))⟩, ⟨some 28, none, .pk (.t 24) (.c (.b true)) (.t 27)⟩])
    (.keep [0, 2, 3, 4, 5, 28]
    (.cond (.t 28) (.seq (.reg none [⟨some 29, none, .q (.mv (.t 0))⟩, ⟨some 30, none, .q (.mv (.t 3))⟩, ⟨some 31, none, .call (.f 161) [(.t 29), (.c (.i .i64 33)), (.t 30)]⟩])
      (.keep [2, 4]
      (.seq (.reg none [⟨some 32, none, .q (.ld (some 5) (.t 4))⟩, ⟨none, none, .m (.st 5 (.t 2) (.t 32))⟩])
      .ret)))
    .skip)))
  (.seq (.reg none [⟨some 33, none, .q (.mv (.t 5))⟩, ⟨some 34, none, .q (.fa 0 (.t 4))⟩, ⟨none, none, .m (.st 1 (.t 34) (.t 33))⟩])
  (.keep [0, 2, 4]
  (.seq (.reg none [⟨some 35, none, .q (.fa 0 (.t 4))⟩, ⟨some 36, none, .q (.ld none (.t 35))⟩, ⟨some 37, none, .call (.f 141) [(.t 36)]⟩, ⟨some 6, none, .q (.mv (.t 37))⟩])
  (.keep [0, 2, 4, 6]
  (.seq (.seq (.reg none [⟨some 7, none, .q (.mv (.c (.i .i64 0)))⟩])
    (.keep [0, 2, 4, 6, 7]
    (.blk 0 (.keep [0, 2, 4, 6, 7]
    (.loop (.fin [0, 2, 4, 6, 7]
      (.seq (.seq (.reg none [⟨some 38, none, .q (.mv (.t 7))⟩, ⟨some 39, none, .q (.bin .lss (.t 38) (.c (.i .i64 4)))⟩])
        (.keep [0, 2, 4, 6, 7, 39]
        (.cond (.t 39) .skip
        (.exit 0))))
      (.seq (.blk 1 (.seq (.reg none [⟨some 8, none, .q (.mv (.c (.i .i64 0)))⟩])
        (.keep [0, 2, 4, 6, 7, 8]
        (.seq (.seq (.reg none [⟨some 42, none, .q (.mv (.t 6))⟩, ⟨some 43, none, .q (.mv (.t 7))⟩, ⟨some 44, none, .q (.sidx (.t 42) (.t 43))⟩])
          (.keep [0, 2, 4, 6, 7, 8, 44]
          (.blk 2 (.seq (.reg none [⟨some 48, none, .q (.bin .eql (.t 44) (.c (.i .u8 45)))⟩, ⟨some 47, none, .q (.mv (.t 48))⟩])
          (.keep [0, 2, 4, 6, 7, 8, 44, 47]
          (.cond (.t 47) .skip
          (.seq (.reg none [⟨some 50, none, .q (.bin .eql (.t 44) (.c (.i .u8 111)))⟩, ⟨some 49, none, .q (.mv (.t 50))⟩])
            (.keep [0, 2, 4, 6, 7, 44, 49]
            (.cond (.t 49) (.reg none [⟨some 51, none, .q (.mv (.t 0))⟩, ⟨some 52, none, .call (.f 153) [(.t 51), (.c (.i .i64 (-1)))]⟩, ⟨some 53, none, .q (.bin .sub (.t 52) (.c (.i .i64 1)))⟩, ⟨some 8, none, .q (.mv (.t 53))⟩])
            (.seq (.reg none [⟨some 55, none, .q (.bin .eql (.t 44) (.c (.i .u8 110)))⟩, ⟨some 54, none, .q (.mv (.t 55))⟩])
              (.keep [0, 2, 4, 6, 7, 54]
              (.cond (.t 54) (.reg none [⟨some 56, none, .q (.mv (.t 0))⟩, ⟨some 57, none, .call (.f 155) [(.t 56)]⟩, ⟨some 8, none, .q (.mv (.t 57))⟩])
              (.reg none [⟨some 45, none, .q (.mv (.t 0))⟩, ⟨some 46, none, .call (.f 153) [(.t 45), (.c (.i .i64 (-1)))]⟩, ⟨some 8, none, .q (.mv (.t 46))⟩])))))))))))))
        (.seq (.reg none [⟨some 58, none, .q (.mv (.t 7))⟩])
        (.keep [0, 2, 4, 6, 7, 8, 58]
        (.blk 3 (.seq (.reg none [⟨some 62, none, .q (.bin .eql (.t 58) (.c (.i .i64 0)))⟩, ⟨some 61, none, .q (.mv (.t 62))⟩])
        (.keep [0, 2, 4, 6, 7, 8, 58, 61]
        (.cond (.t 61) (.reg none [⟨some 63, none, .q (.mv (.t 8))⟩, ⟨some 64, none, .q (.fa 1 (.t 4))⟩, ⟨none, none, .m (.st 1 (.t 64) (.t 63))⟩])
        (.seq (.reg none [⟨some 66, none, .q (.bin .eql (.t 58) (.c (.i .i64 1)))⟩, ⟨some 65, none, .q (.mv (.t 66))⟩])
          (.keep [0, 2, 4, 6, 7, 8, 58, 65]
          (.cond (.t 65) (.reg none [⟨some 67, none, .q (.mv (.t 8))⟩, ⟨some 68, none, .q (.fa 2 (.t 4))⟩, ⟨none, none, .m (.st 1 (.t 68) (.t 67))⟩])
          (.seq (.reg none [⟨some 70, none, .q (.bin .eql (.t 58) (.c (.i .i64 2)))⟩, ⟨some 69, none, .q (.mv (.t 70))⟩])
            (.keep [0, 2, 4, 6, 7, 8, 69]
            (.cond (.t 69) (.reg none [⟨some 71, none, .q (.mv (.t 8))⟩, ⟨some 72, none, .q (.fa 3 (.t 4))⟩, ⟨none, none, .m (.st 1 (.t 72) (.t 71))⟩])
            (.reg none [⟨some 59, none, .q (.mv (.t 8))⟩, ⟨some 60, none, .q (.fa 4 (.t 4))⟩, ⟨none, none, .m (.st 1 (.t 60) (.t 59))⟩])))))))))))))))))
      (.keep [0, 2, 4, 6, 7]
      (.reg none [⟨some 40, none, .q (.mv (.t 7))⟩, ⟨some 41, none, .q (.bin .add (.t 40) (.c (.i .i64 1)))⟩, ⟨some 7, none, .q (.mv (.t 41))⟩]))))))))))
  (.seq (.reg none [⟨some 73, none, .q (.ld (some 5) (.t 4))⟩, ⟨none, none, .m (.st 5 (.t 2) (.t 73))⟩])
  .ret))))))))))))))))
theorem r163 : (Try.f163.body.bind (resC Try.prog Try.f163.ntmps)) = some (strip c163) := by kernel_rfl
theorem s163 : Try.f163.results.toList.mapM (resRes Try.prog) = some [.c 2 (some 5)] := by kernel_rfl
theorem instr_d : Rd Try.prog 163 [] (fun y : Instr => .g y.row) instrP := by
  intro bs s hs hb
  refine fun_cut 1 hmx Try.func163 r163 s163 (by rw [Try.ntmps163]; simp) (by first | exact Nat.le_refl _ | decide | simp) ?_
  unfold c163
  simp [rrow]
  refine callf [0] rfl Try.call153 (plain_d bs s hs hb) (by decide) rfl (by simp) (by simp [rrow]) (by simp) ?_
  rintro _ _ ⟨op, s1, rfl, rfl, h1⟩
  simp [rrow]
  refine ⟨fun he => ⟨⟨0, 0, 0, 0, 0⟩, s1, rfl, rfl, h1.op_early he _⟩, fun he => ?_⟩
  first
    | refine callkg rfl Try.call141 rfl (fun _ => (Q03.form16 op)) (fun hG => by first | (simp; done) | (simp at hG; done) | simpa using hG) rfl ?_
    | refine callksg rfl Try.call141 rfl (fun _ => (Q03.form16 op)) (fun hG => by first | (simp; done) | (simp at hG; done) | simpa using hG) rfl ?_
    | refine callqg rfl Try.call141 rfl (fun _ => (Q03.form16 op)) (fun hG => by first | (simp; done) | (simp at hG; done) | simpa using hG) rfl ?_
  simp
  refine ⟨fun hf => ?_, fun hbig hf => ?_⟩
  · have hf : form op = [] := by
      rcases hf with hf | hf
      · exact Classical.byContradiction fun h => by have := form_range h; omega
      · exact hf
    refine callf [0] rfl Try.call161 (fail_d bs s1 33 s.pos) (by decide) rfl (by simp) (by simp [rrow, he]) (by simp) ?_
    rintro _ _ rfl
    simp [rrow]
    refine ⟨⟨0, 0, 0, 0, 0⟩, failR s1 33 s.pos, rfl, rfl, ?_⟩
    rw [failR, if_pos he]
    exact h1.op_none he hf _
  · refine callk rfl Try.call141 (Q03.form16 op) rfl ?_
    simp
    obtain ⟨l0, l1, l2, l3, hl⟩ : ∃ l0 l1 l2 l3, form op = [l0, l1, l2, l3] := (form_four op).resolve_left hf
    rw [hl]
    refine go_while hmx 3 (fun (t : Nat × List Int × St) => [(7, .v (.i .i64 (t.1 : Int)))]) (fun t => [.var (rrow bs t.2.2), .var [.v (.i .i64 0), .v (.i .i64 0), .v (.i .i64 0), .v (.i .i64 0), .v (.i .i64 0)], .var (.v (.i .i64 op) :: padI t.2.1)])
      (fun t => t.1 ≤ 4 ∧ t.2.1.length = t.1 ∧ t.2.2.pos ≤ bs.length ∧ ∀ zs sf, Step bs (opsP ([l0, l1, l2, l3].drop t.1)) t.2.2 zs sf → Step bs (opsP [l0, l1, l2, l3]) s1 (t.2.1 ++ zs) sf) (fun t => 4 - t.1) (0, [], s1) rfl (by simp) (by simp [rrow, padI]) (by simp) (by simp) (by simp [rrow, padI_dom]) ⟨by omega, rfl, h1.1, fun zs sf h => by simpa using h⟩ ?_
    rintro ⟨i, xs, t⟩ ⟨hi, hl', hp, hk⟩
    simp only at hi hl' hp hk
    by_cases hi4 : i = 4
    · subst hi4
      obtain ⟨x0, x1, x2, x3, rfl⟩ : ∃ x0 x1 x2 x3, xs = [x0, x1, x2, x3] := by
        match xs, hl' with
        | [a, b, c, d], _ => exact ⟨a, b, c, d, rfl⟩
      simp [rrow, padI]
      have := hk [] t (by simpa [opsP] using Step.ret hp _)
      refine ⟨⟨op, x0, x1, x2, x3⟩, t, rfl, rfl, ?_⟩
      exact h1.op_some (xs := [x0, x1, x2, x3]) he hf (by rw [hl]; simpa using this)
    · have hstep : ∀ l x t1, ([l0, l1, l2, l3].drop i) = l :: ([l0, l1, l2, l3].drop (i + 1)) → Step bs (opP l) t x t1 → ∀ zs sf, Step bs (opsP ([l0, l1, l2, l3].drop (i + 1))) t1 zs sf → Step bs (opsP [l0, l1, l2, l3]) s1 (xs ++ x :: zs) sf := by
        intro l x t1 hd h2 zs sf hz
        refine hk (x :: zs) sf ?_
        rw [hd]
        exact h2.bind hz.map
      clear hk
      match i, xs, hl', hi4 with
      | 0, [], _, _ =>
        simp [rrow, padI, l45, l110, l111]
        have hstep := fun x t1 => hstep l0 x t1 rfl
        refine ⟨fun hl1 => ?_, fun hl1 => ⟨fun hl2 => ?_, fun hl2 => ⟨fun hl3 => ?_, fun hl3 => ?_⟩⟩⟩
        · refine ⟨1, by decide, [0], t, ?_⟩
          have := hstep 0 t (by rw [opP, if_pos hl1]; exact .ret hp 0)
          simpa [padI, rrow, hp] using this
        · have hl3 : ¬ l0 = 110 := by rw [hl2]; decide
          refine callf [0] rfl Try.call153 (plain_d bs t hp hb) (by decide) rfl (by simp) (by simp [rrow]) (by simp) ?_
          rintro _ _ ⟨y, t1, rfl, rfl, h2⟩
          simp [rrow, padI]
          refine ⟨1, by decide, [IntKind.i64.wrap (y - 1)], t1, ?_⟩
          have := hstep _ t1 (by rw [opP, if_neg hl1, if_neg hl3, if_pos hl2]; exact h2.minus)
          simpa [padI, rrow, h2.1] using this
        · refine callf [0] rfl Try.call155 (signed_d bs t hp hb) (by decide) rfl (by simp) (by simp [rrow]) (by simp) ?_
          rintro _ _ ⟨y, t1, rfl, rfl, h2⟩
          simp [rrow, padI]
          refine ⟨1, by decide, [y], t1, ?_⟩
          have := hstep y t1 (by rw [opP, if_neg hl1, if_pos hl3]; exact h2)
          simpa [padI, rrow, h2.1] using this
        · refine callf [0] rfl Try.call153 (plain_d bs t hp hb) (by decide) rfl (by simp) (by simp [rrow]) (by simp) ?_
          rintro _ _ ⟨y, t1, rfl, rfl, h2⟩
          simp [rrow, padI]
          refine ⟨1, by decide, [y], t1, ?_⟩
          have := hstep y t1 (by rw [opP, if_neg hl1, if_neg hl3, if_neg hl2]; exact h2)
          simpa [padI, rrow, h2.1] using this
      | 1, [x0], _, _ =>
        simp [rrow, padI, l45, l110, l111]
        have hstep := fun x t1 => hstep l1 x t1 rfl
        refine ⟨fun hl1 => ?_, fun hl1 => ⟨fun hl2 => ?_, fun hl2 => ⟨fun hl3 => ?_, fun hl3 => ?_⟩⟩⟩
        · refine ⟨2, by decide, [x0, 0], t, ?_⟩
          have := hstep 0 t (by rw [opP, if_pos hl1]; exact .ret hp 0)
          simpa [padI, rrow, hp] using this
        · have hl3 : ¬ l1 = 110 := by rw [hl2]; decide
          refine callf [0] rfl Try.call153 (plain_d bs t hp hb) (by decide) rfl (by simp) (by simp [rrow]) (by simp) ?_
          rintro _ _ ⟨y, t1, rfl, rfl, h2⟩
          simp [rrow, padI]
          refine ⟨2, by decide, [x0, IntKind.i64.wrap (y - 1)], t1, ?_⟩
          have := hstep _ t1 (by rw [opP, if_neg hl1, if_neg hl3, if_pos hl2]; exact h2.minus)
          simpa [padI, rrow, h2.1] using this
        · refine callf [0] rfl Try.call155 (signed_d bs t hp hb) (by decide) rfl (by simp) (by simp [rrow]) (by simp) ?_
          rintro _ _ ⟨y, t1, rfl, rfl, h2⟩
          simp [rrow, padI]
          refine ⟨2, by decide, [x0, y], t1, ?_⟩
          have := hstep y t1 (by rw [opP, if_neg hl1, if_pos hl3]; exact h2)
          simpa [padI, rrow, h2.1] using this
        · refine callf [0] rfl Try.call153 (plain_d bs t hp hb) (by decide) rfl (by simp) (by simp [rrow]) (by simp) ?_
          rintro _ _ ⟨y, t1, rfl, rfl, h2⟩
          simp [rrow, padI]
          refine ⟨2, by decide, [x0, y], t1, ?_⟩
          have := hstep y t1 (by rw [opP, if_neg hl1, if_neg hl3, if_neg hl2]; exact h2)
          simpa [padI, rrow, h2.1] using this
      | 2, [x0, x1], _, _ =>
        simp [rrow, padI, l45, l110, l111]
        have hstep := fun x t1 => hstep l2 x t1 rfl
        refine ⟨fun hl1 => ?_, fun hl1 => ⟨fun hl2 => ?_, fun hl2 => ⟨fun hl3 => ?_, fun hl3 => ?_⟩⟩⟩
        · refine ⟨3, by decide, [x0, x1, 0], t, ?_⟩
          have := hstep 0 t (by rw [opP, if_pos hl1]; exact .ret hp 0)
          simpa [padI, rrow, hp] using this
        · have hl3 : ¬ l2 = 110 := by rw [hl2]; decide
          refine callf [0] rfl Try.call153 (plain_d bs t hp hb) (by decide) rfl (by simp) (by simp [rrow]) (by simp) ?_
          rintro _ _ ⟨y, t1, rfl, rfl, h2⟩
          simp [rrow, padI]
          refine ⟨3, by decide, [x0, x1, IntKind.i64.wrap (y - 1)], t1, ?_⟩
          have := hstep _ t1 (by rw [opP, if_neg hl1, if_neg hl3, if_pos hl2]; exact h2.minus)
          simpa [padI, rrow, h2.1] using this
        · refine callf [0] rfl Try.call155 (signed_d bs t hp hb) (by decide) rfl (by simp) (by simp [rrow]) (by simp) ?_
          rintro _ _ ⟨y, t1, rfl, rfl, h2⟩
          simp [rrow, padI]
          refine ⟨3, by decide, [x0, x1, y], t1, ?_⟩
          have := hstep y t1 (by rw [opP, if_neg hl1, if_pos hl3]; exact h2)
          simpa [padI, rrow, h2.1] using this
        · refine callf [0] rfl Try.call153 (plain_d bs t hp hb) (by decide) rfl (by simp) (by simp [rrow]) (by simp) ?_
          rintro _ _ ⟨y, t1, rfl, rfl, h2⟩
          simp [rrow, padI]
          refine ⟨3, by decide, [x0, x1, y], t1, ?_⟩
          have := hstep y t1 (by rw [opP, if_neg hl1, if_neg hl3, if_neg hl2]; exact h2)
          simpa [padI, rrow, h2.1] using this
      | 3, [x0, x1, x2], _, _ =>
        simp [rrow, padI, l45, l110, l111]
        have hstep := fun x t1 => hstep l3 x t1 rfl
        refine ⟨fun hl1 => ?_, fun hl1 => ⟨fun hl2 => ?_, fun hl2 => ⟨fun hl3 => ?_, fun hl3 => ?_⟩⟩⟩
        · refine ⟨4, by decide, [x0, x1, x2, 0], t, ?_⟩
          have := hstep 0 t (by rw [opP, if_pos hl1]; exact .ret hp 0)
          simpa [padI, rrow, hp] using this
        · have hl3 : ¬ l3 = 110 := by rw [hl2]; decide
          refine callf [0] rfl Try.call153 (plain_d bs t hp hb) (by decide) rfl (by simp) (by simp [rrow]) (by simp) ?_
          rintro _ _ ⟨y, t1, rfl, rfl, h2⟩
          simp [rrow, padI]
          refine ⟨4, by decide, [x0, x1, x2, IntKind.i64.wrap (y - 1)], t1, ?_⟩
          have := hstep _ t1 (by rw [opP, if_neg hl1, if_neg hl3, if_pos hl2]; exact h2.minus)
          simpa [padI, rrow, h2.1] using this
        · refine callf [0] rfl Try.call155 (signed_d bs t hp hb) (by decide) rfl (by simp) (by simp [rrow]) (by simp) ?_
          rintro _ _ ⟨y, t1, rfl, rfl, h2⟩
          simp [rrow, padI]
          refine ⟨4, by decide, [x0, x1, x2, y], t1, ?_⟩
          have := hstep y t1 (by rw [opP, if_neg hl1, if_pos hl3]; exact h2)
          simpa [padI, rrow, h2.1] using this
        · refine callf [0] rfl Try.call153 (plain_d bs t hp hb) (by decide) rfl (by simp) (by simp [rrow]) (by simp) ?_
          rintro _ _ ⟨y, t1, rfl, rfl, h2⟩
          simp [rrow, padI]
          refine ⟨4, by decide, [x0, x1, x2, y], t1, ?_⟩
          have := hstep y t1 (by rw [opP, if_neg hl1, if_neg hl3, if_neg hl2]; exact h2)
          simpa [padI, rrow, h2.1] using this
      | n + 4, xs, hl', hi4 => omega
end Go.Sc.Cw
/- Chapter 04: functions and programs read, by the document's text. No condition. -/
set_option linter.constructorNameAsVariable false
namespace Go.Sc.Cw
open Go Go.RowKit Go.Av Go.Proofs Go.Sc.Oct
set_option linter.unusedSimpArgs false
set_option linter.unusedVariables false
/-- (*scarab/scarabref04.reader).function -/
def c156 : ACode :=
  (.seq (.reg none [⟨some 2, none, .m (.alloc (.g [(.i .i64 0), (.i .i64 0), .nil, .nil]))⟩])
  (.keep [0, 2]
  (.seq (.reg none [⟨some 6, none, .q (.bld [(.i .i64 0), (.i .i64 0), .nil, .nil] [])⟩, ⟨some 3, none, .m (.alloc (.g [(.i .i64 0), (.i .i64 0), .nil, .nil]))⟩, ⟨none, none, .m (.st 4 (.t 3) (.t 6))⟩])
  (.gst (.nilC 3 2 5)
  (.keep [0, 2, 3]
  (.seq (.reg none [⟨some 7, none, .q (.mv (.t 0))⟩, ⟨some 8, none, .call (.f 153) [(.t 7), (.c (.i .i64 (-1)))]⟩, ⟨some 9, none, .q (.fa 0 (.t 3))⟩, ⟨none, none, .m (.st 1 (.t 9) (.t 8))⟩])
  (.keep [0, 2, 3]
  (.seq (.reg none [⟨some 10, none, .q (.mv (.t 0))⟩, ⟨some 11, none, .call (.f 153) [(.t 10), (.c (.i .i64 (-1)))]⟩, ⟨some 12, none, .q (.fa 1 (.t 3))⟩, ⟨none, none, .m (.st 1 (.t 12) (.t 11))⟩])
  (.keep [0, 2, 3]
  (.seq (.reg none [⟨some 13, none, .q (.mv (.t 0))⟩, ⟨some 14, none, .call (.f 162) [(.t 13)]⟩, ⟨some 15, none, .q (.fa 3 (.t 3))⟩, ⟨none, none, .m (.st 1 (.t 15) (.t 14))⟩])
  (.keep [0, 2, 3]
  (.seq (.reg none [⟨some 16, none, .q (.mv (.t 0))⟩, ⟨some 17, none, .call (.f 153) [(.t 16), (.c (.i .i64 64))]⟩, ⟨some 4, none, .q (.mv (.t 17))⟩])
  (.keep [0, 2, 3, 4]
  (.seq (.seq (.reg none [⟨some 5, none, .q (.mv (.c (.i .i64 0)))⟩])
    (.keep [0, 2, 3, 4, 5]
    (.blk 0 (.keep [0, 2, 3, 4, 5]
    (.loop (.fin [0, 2, 3, 4, 5]
      (.seq (.seq (.reg none [⟨some 18, none, .q (.mv (.t 5))⟩, ⟨some 19, none, .q (.mv (.t 4))⟩, ⟨some 20, none, .q (.bin .lss (.t 18) (.t 19))⟩, ⟨some 21, none, .q (.mv (.t 20))⟩, ⟨some 22, some (21, true), .q (.mv (.t 0))⟩, ⟨some 23, some (21, true), .q (.nck (.t 22))⟩, ⟨some 24, some (21, true), .q (.fa 2 (.t 23))⟩, ⟨some 25, some (21, true), .q (.ld none (.t 24))⟩, ⟨some 26, some (21, true), .q (.bin .eql (.t 25) (.c (.i .i64 0)))⟩, ⟨some 27, none, .pk (.t 21) (.t 26) (.c (.b false))⟩])
        (.keep [0, 2, 3, 4, 5, 27]
        (.cond (.t 27) .skip
        (.exit 0))))
      (.seq (.blk 1 (.reg (some (3, [0, 1])) [⟨some 30, none, .q (.fa 2 (.t 3))⟩, ⟨some 31, none, .q (.ld none (.t 30))⟩, ⟨some 32, none, .q (.mv (.t 0))⟩, ⟨some 33, none, .call (.f 163) [(.t 32)]⟩, ⟨some 34, none, .m (.bsl 1 5 [(.i .i64 0), (.i .i64 0), (.i .i64 0), (.i .i64 0), (.i .i64 0)] [(0, 5, .t 33)])⟩, ⟨some 35, none, .m (.app 5 40 (.t 31) (.t 34))⟩, ⟨some 36, none, .q (.fa 2 (.t 3))⟩, ⟨none, none, .m (.st 1 (.t 36) (.t 35))⟩]))
      (.keep [0, 2, 3, 4, 5]
      (.reg none [⟨some 28, none, .q (.mv (.t 5))⟩, ⟨some 29, none, .q (.bin .add (.t 28) (.c (.i .i64 1)))⟩, ⟨some 5, none, .q (.mv (.t 29))⟩]))))))))))
  (.seq (.gst (.frzC 3 2)
    (.reg none [⟨some 37, none, .q (.ld (some 4) (.t 3))⟩, ⟨none, none, .m (.st 4 (.t 2) (.t 37))⟩]))
  .ret)))))))))))))))
theorem r156 : (Try.f156.body.bind (resC Try.prog Try.f156.ntmps)) = some (strip c156) := by kernel_rfl
theorem s156 : Try.f156.results.toList.mapM (resRes Try.prog) = some [.c 2 (some 4)] := by kernel_rfl
theorem function_d : Rd Try.prog 156 [] (fun y : Func => .g y.row) funP := by
  intro bs s hs hb
  refine fun_cut 1 hmx Try.func156 r156 s156 (by rw [Try.ntmps156]; simp) (by first | exact Nat.le_refl _ | decide | simp) ?_
  unfold c156
  simp [rrow]
  refine callf [0] rfl Try.call153 (plain_d bs s hs hb) (by decide) rfl (by simp) (by simp [rrow]) (by simp) ?_
  rintro _ _ ⟨y1, s1, rfl, rfl, h1⟩
  simp [rrow]
  refine callf [0] rfl Try.call153 (plain_d bs s1 h1.1 hb) (by decide) rfl (by simp) (by simp [rrow]) (by simp) ?_
  rintro _ _ ⟨y2, s2, rfl, rfl, h2⟩
  simp [rrow]
  refine callf [0] rfl Try.call162 (selects_d bs s2 h2.1 hb) (by decide) rfl (by simp) (by simp [rrow]) (by simp) ?_
  rintro _ _ ⟨y3, s3, rfl, rfl, h3⟩
  simp [rrow]
  refine callf [0] rfl Try.call153 (number_d 64 (by omega) bs s3 h3.1 hb) (by decide) rfl (by simp) (by simp [rrow]) (by simp) ?_
  rintro _ _ ⟨n, s4, rfl, rfl, hst⟩
  simp [rrow]
  refine go_while hmx 4 (fun (t : Nat × Nat × List Instr × St) => [(5, .v (.i .i64 (t.1 : Int)))]) (fun t => [.var (rrow bs t.2.2.2), .var [.v (.i .i64 0), .v (.i .i64 0), .v .nil, .v .nil], .var [.v (.i .i64 y1), .v (.i .i64 y2), .os 3 t.2.1, .v (.sl 2 (y3.map Select.row))], .arr t.2.1 5 (vrows (t.2.2.1.map Instr.row))])
    (fun t => t.1 ≤ n ∧ t.2.2.1.length = t.1 ∧ (t.2.2.2.e = 0 → n ≤ 64) ∧ t.2.2.2.pos ≤ bs.length ∧ t.1 ≤ 64 ∧ ∀ zs sf, Step bs (repP instrP (n - t.1)) t.2.2.2 zs sf → Step bs (repP instrP n) s4 (t.2.2.1 ++ zs) sf) (fun t => n - t.1) (0, 0, [], s4) rfl (by simp) (by simp [rrow, vrows]) (by simp) (by simp) (by simp [rrow]) ⟨by omega, rfl, fun he => num_most hst he, hst.1, by omega, fun zs sf h => by simpa using h⟩ ?_
  rintro ⟨i, v, acc, t⟩ ⟨hi, hl, hmo, hp, hbig, hk⟩
  simp only at hi hl hmo hp hbig hk
  by_cases hlt : i < n
  · have hlt' : (i : Int) < n := by omega
    have hge : ¬ (n : Int) ≤ i := by omega
    by_cases he : t.e = 0
    · have hmo := hmo he
      have hw : IntKind.i64.wrap ((i : Int) + 1) = (i : Int) + 1 := wrap_in (by omega) (by omega)
      simp [hlt', hlt, hge, he, rrow]
      refine callfs [0] rfl Try.call163 (instr_d bs t hp hb) (by decide) rfl (by simp) (by simp [rrow, he]) (by simp) ?_
      rintro _ _ ⟨y, t1, rfl, rfl, hs1⟩
      simp [rrow, Instr.row]
      refine ⟨⟨by omega, by omega⟩, i + 1, by simp [hw], v + 1, acc ++ [y], t1, ⟨⟨rfl, rfl, rfl⟩, rfl, by simp [vrows, Instr.row]⟩, ⟨by omega, by simp [hl], fun _ => hmo, hs1.1, by omega, fun zs sf hz => ?_⟩, by omega⟩
      have := hk (y :: zs) sf (by
        rw [show n - i = (n - (i + 1)) + 1 by omega]
        exact hs1.bind (hz.map (f := fun ys => y :: ys)))
      simpa using this
    · simp [hlt', hlt, hge, he, rrow]
      have := hk [] t (.stay hp he [])
      rw [List.append_nil] at this
      exact ⟨⟨y1, y2, acc, y3⟩, t, rfl, rfl, h1.bind (h2.bind (h3.bind ((hst.bind (this.junk he acc)).bind (.ret hp _))))⟩
  · obtain rfl : i = n := by omega
    simp [rrow]
    have := hk [] t (by rw [Nat.sub_self]; exact .ret hp [])
    rw [List.append_nil] at this
    exact ⟨⟨y1, y2, acc, y3⟩, t, rfl, rfl, h1.bind (h2.bind (h3.bind ((hst.bind this).bind (.ret hp _))))⟩

end Go.Sc.Cw
/- Chapter 04: functions and programs read, by the document's text. No condition. -/
set_option linter.constructorNameAsVariable false
namespace Go.Sc.Cw
open Go Go.RowKit Go.Av Go.Proofs Go.Sc.Oct
set_option linter.unusedSimpArgs false
set_option linter.unusedVariables false
/-- (*scarab/scarabref04.reader).program -/
def c135 : ACode :=
  (.seq (.reg none [⟨some 2, none, .m (.alloc (.g [.nil, (.i .i64 0), .nil, .nil]))⟩])
  (.keep [0, 2]
  (.seq (.reg none [⟨some 9, none, .q (.bld [.nil, (.i .i64 0), .nil, .nil] [])⟩, ⟨some 3, none, .m (.alloc (.g [.nil, (.i .i64 0), .nil, .nil]))⟩, ⟨none, none, .m (.st 4 (.t 3) (.t 9))⟩])
  (.gst (.nilC 3 0 2)
  (.gst (.nilC 3 2 1)
  (.gst (.nilC 3 3 4)
  (.keep [0, 2, 3]
  (.seq (.reg none [⟨some 10, none, .q (.mv (.t 0))⟩, ⟨some 11, none, .call (.f 153) [(.t 10), (.c (.i .i64 8))]⟩, ⟨some 4, none, .q (.mv (.t 11))⟩])
  (.keep [0, 2, 3, 4]
  (.seq (.seq (.reg none [⟨some 5, none, .q (.mv (.c (.i .i64 0)))⟩])
    (.keep [0, 2, 3, 4, 5]
    (.blk 0 (.keep [0, 2, 3, 4, 5]
    (.loop (.fin [0, 2, 3, 4, 5]
      (.seq (.seq (.reg none [⟨some 12, none, .q (.mv (.t 5))⟩, ⟨some 13, none, .q (.mv (.t 4))⟩, ⟨some 14, none, .q (.bin .lss (.t 12) (.t 13))⟩, ⟨some 15, none, .q (.mv (.t 14))⟩, ⟨some 16, some (15, true), .q (.mv (.t 0))⟩, ⟨some 17, some (15, true), .q (.nck (.t 16))⟩, ⟨some 18, some (15, true), .q (.fa 2 (.t 17))⟩, ⟨some 19, some (15, true), .q (.ld none (.t 18))⟩, ⟨some 20, some (15, true), .q (.bin .eql (.t 19) (.c (.i .i64 0)))⟩, ⟨some 21, none, .pk (.t 15) (.t 20) (.c (.b false))⟩])
        (.keep [0, 2, 3, 4, 5, 21]
        (.cond (.t 21) .skip
        (.exit 0))))
      (.seq (.blk 1 (.seq (.reg none [⟨some 24, none, .q (.bld [(.b false), (.i .i64 0)] [])⟩, ⟨some 6, none, .m (.alloc (.g [(.b false), (.i .i64 0)]))⟩, ⟨none, none, .m (.st 2 (.t 6) (.t 24))⟩])
        (.keep [0, 2, 3, 4, 5, 6]
        (.seq (.reg none [⟨some 25, none, .q (.mv (.t 0))⟩, ⟨some 26, none, .call (.f 154) [(.t 25)]⟩, ⟨some 27, none, .q (.fa 0 (.t 6))⟩, ⟨none, none, .m (.st 1 (.t 27) (.t 26))⟩])
        (.keep [0, 2, 3, 4, 5, 6]
        (.seq (.reg none [⟨some 28, none, .q (.mv (.t 0))⟩, ⟨some 29, none, .call (.f 155) [(.t 28)]⟩, ⟨some 30, none, .q (.fa 1 (.t 6))⟩, ⟨none, none, .m (.st 1 (.t 30) (.t 29))⟩])
        (.keep [0, 2, 3, 4, 5, 6]
        (.reg none [⟨some 31, none, .q (.fa 0 (.t 3))⟩, ⟨some 32, none, .q (.ld none (.t 31))⟩, ⟨some 33, none, .q (.ld (some 2) (.t 6))⟩, ⟨some 34, none, .m (.bsl 1 2 [(.b false), (.i .i64 0)] [(0, 2, .t 33)])⟩, ⟨some 35, none, .m (.app 2 16 (.t 32) (.t 34))⟩, ⟨some 36, none, .q (.fa 0 (.t 3))⟩, ⟨none, none, .m (.st 1 (.t 36) (.t 35))⟩]))))))))
      (.keep [0, 2, 3, 4, 5]
      (.reg none [⟨some 22, none, .q (.mv (.t 5))⟩, ⟨some 23, none, .q (.bin .add (.t 22) (.c (.i .i64 1)))⟩, ⟨some 5, none, .q (.mv (.t 23))⟩]))))))))))
  (.seq (.reg none [⟨some 37, none, .q (.mv (.t 0))⟩, ⟨some 38, none, .call (.f 153) [(.t 37), (.c (.i .i64 (-1)))]⟩, ⟨some 39, none, .q (.fa 1 (.t 3))⟩, ⟨none, none, .m (.st 1 (.t 39) (.t 38))⟩])
  (.keep [0, 2, 3]
  (.seq (.reg none [⟨some 40, none, .q (.mv (.t 0))⟩, ⟨some 41, none, .call (.f 153) [(.t 40), (.c (.i .i64 4))]⟩, ⟨some 4, none, .q (.mv (.t 41))⟩])
  (.keep [0, 2, 3, 4]
  (.seq (.seq (.reg none [⟨some 7, none, .q (.mv (.c (.i .i64 0)))⟩])
    (.keep [0, 2, 3, 4, 7]
    (.blk 2 (.keep [0, 2, 3, 4, 7]
    (.loop (.fin [0, 2, 3, 4, 7]
      (.seq (.seq (.reg none [⟨some 42, none, .q (.mv (.t 7))⟩, ⟨some 43, none, .q (.mv (.t 4))⟩, ⟨some 44, none, .q (.bin .lss (.t 42) (.t 43))⟩, ⟨some 45, none, .q (.mv (.t 44))⟩, ⟨some 46, some (45, true), .q (.mv (.t 0))⟩, ⟨some 47, some (45, true), .q (.nck (.t 46))⟩, ⟨some 48, some (45, true), .q (.fa 2 (.t 47))⟩, ⟨some 49, some (45, true), .q (.ld none (.t 48))⟩, ⟨some 50, some (45, true), .q (.bin .eql (.t 49) (.c (.i .i64 0)))⟩, ⟨some 51, none, .pk (.t 45) (.t 50) (.c (.b false))⟩])
        (.keep [0, 2, 3, 4, 7, 51]
        (.cond (.t 51) .skip
        (.exit 2))))
      (.seq (.blk 3 (.reg (some (3, [0, 1])) [⟨some 54, none, .q (.fa 2 (.t 3))⟩, ⟨some 55, none, .q (.ld none (.t 54))⟩, ⟨some 56, none, .q (.mv (.t 0))⟩, ⟨some 57, none, .call (.f 153) [(.t 56), (.c (.i .i64 (-1)))]⟩, ⟨some 58, none, .m (.bsl 1 1 [(.i .i64 0)] [(0, 1, .t 57)])⟩, ⟨some 59, none, .m (.app 1 8 (.t 55) (.t 58))⟩, ⟨some 60, none, .q (.fa 2 (.t 3))⟩, ⟨none, none, .m (.st 1 (.t 60) (.t 59))⟩]))
      (.keep [0, 2, 3, 4, 7]
      (.reg none [⟨some 52, none, .q (.mv (.t 7))⟩, ⟨some 53, none, .q (.bin .add (.t 52) (.c (.i .i64 1)))⟩, ⟨some 7, none, .q (.mv (.t 53))⟩]))))))))))
  (.seq (.reg none [⟨some 61, none, .q (.mv (.t 0))⟩, ⟨some 62, none, .call (.f 153) [(.t 61), (.c (.i .i64 8))]⟩, ⟨some 4, none, .q (.mv (.t 62))⟩])
  (.keep [0, 2, 3, 4]
  (.seq (.seq (.reg none [⟨some 8, none, .q (.mv (.c (.i .i64 0)))⟩])
    (.keep [0, 2, 3, 4, 8]
    (.blk 4 (.keep [0, 2, 3, 4, 8]
    (.loop (.fin [0, 2, 3, 4, 8]
      (.seq (.seq (.reg none [⟨some 63, none, .q (.mv (.t 8))⟩, ⟨some 64, none, .q (.mv (.t 4))⟩, ⟨some 65, none, .q (.bin .lss (.t 63) (.t 64))⟩, ⟨some 66, none, .q (.mv (.t 65))⟩, ⟨some 67, some (66, true), .q (.mv (.t 0))⟩, ⟨some 68, some (66, true), .q (.nck (.t 67))⟩, ⟨some 69, some (66, true), .q (.fa 2 (.t 68))⟩, ⟨some 70, some (66, true), .q (.ld none (.t 69))⟩, ⟨some 71, some (66, true), .q (.bin .eql (.t 70) (.c (.i .i64 0)))⟩, ⟨some 72, none, .pk (.t 66) (.t 71) (.c (.b false))⟩])
        (.keep [0, 2, 3, 4, 8, 72]
        (.cond (.t 72) .skip
        (.exit 4))))
      (.seq (.blk 5 (.reg (some (3, [0, 1])) [⟨some 75, none, .q (.fa 3 (.t 3))⟩, ⟨some 76, none, .q (.ld none (.t 75))⟩, ⟨some 77, none, .q (.mv (.t 0))⟩, ⟨some 78, none, .call (.f 156) [(.t 77)]⟩, ⟨some 79, none, .m (.bsl 1 4 [(.i .i64 0), (.i .i64 0), .nil, .nil] [(0, 4, .t 78)])⟩, ⟨some 80, none, .m (.app 4 64 (.t 76) (.t 79))⟩, ⟨some 81, none, .q (.fa 3 (.t 3))⟩, ⟨none, none, .m (.st 1 (.t 81) (.t 80))⟩]))
      (.keep [0, 2, 3, 4, 8]
      (.reg none [⟨some 73, none, .q (.mv (.t 8))⟩, ⟨some 74, none, .q (.bin .add (.t 73) (.c (.i .i64 1)))⟩, ⟨some 8, none, .q (.mv (.t 74))⟩]))))))))))
  (.seq (.gst (.frzC 3 3)
    (.gst (.frzC 3 2)
    (.gst (.frzC 3 0)
    (.reg none [⟨some 82, none, .q (.ld (some 4) (.t 3))⟩, ⟨none, none, .m (.st 4 (.t 2) (.t 82))⟩]))))
  .ret)))))))))))))))))))
theorem r135 : (Try.f135.body.bind (resC Try.prog Try.f135.ntmps)) = some (strip c135) := by kernel_rfl
theorem s135 : Try.f135.results.toList.mapM (resRes Try.prog) = some [.c 2 (some 4)] := by kernel_rfl
theorem program_d : Rd Try.prog 135 [] (fun y : Prog => .g y.row) bodyP := by
  intro bs s hs hb
  refine fun_cut 1 hmx Try.func135 r135 s135 (by rw [Try.ntmps135]; simp) (by first | exact Nat.le_refl _ | decide | simp) ?_
  unfold c135
  simp [rrow]
  refine callf [0] rfl Try.call153 (number_d 8 (by omega) bs s hs hb) (by decide) rfl (by simp) (by simp [rrow]) (by simp) ?_
  rintro _ _ ⟨n, s1, rfl, rfl, hst⟩
  simp [rrow]
  refine go_while hmx 6 (fun (t : Nat × Nat × List Var × St) => [(5, .v (.i .i64 (t.1 : Int)))]) (fun t => [.var (rrow bs t.2.2.2), .var [.v .nil, .v (.i .i64 0), .v .nil, .v .nil], .var [.os 3 t.2.1, .v (.i .i64 0), .os 4 0, .os 5 0], .arr t.2.1 2 (vrows (t.2.2.1.map Var.row)), .arr 0 1 [], .arr 0 4 []])
    (fun t => t.1 ≤ n ∧ t.2.2.1.length = t.1 ∧ (t.2.2.2.e = 0 → n ≤ 8) ∧ t.2.2.2.pos ≤ bs.length ∧ t.1 ≤ 8 ∧ ∀ zs sf, Step bs (repP varP (n - t.1)) t.2.2.2 zs sf → Step bs (repP varP n) s1 (t.2.2.1 ++ zs) sf) (fun t => n - t.1) (0, 0, [], s1) rfl (by simp) (by simp [rrow, vrows]) (by simp) (by simp) (by simp [rrow]) ⟨by omega, rfl, fun he => num_most hst he, hst.1, by omega, fun zs sf h => by simpa using h⟩ ?_
  rintro ⟨i, v, acc, t⟩ ⟨hi, hl, hmo, hp, hbig, hk⟩
  simp only at hi hl hmo hp hbig hk
  simp [rrow]
  refine ⟨fun hlt he => ?_, fun hout => ?_⟩
  · have hmo := hmo he
    have hw : IntKind.i64.wrap ((i : Int) + 1) = (i : Int) + 1 := wrap_in (by omega) (by omega)
    refine callf [0] rfl Try.call154 (bool_d bs t hp hb) (by decide) rfl (by simp) (by simp [rrow, he]) (by simp) ?_
    rintro _ _ ⟨y1, s1', rfl, rfl, h1⟩
    simp [rrow]
    refine callf [0] rfl Try.call155 (signed_d bs s1' h1.1 hb) (by decide) rfl (by simp) (by simp [rrow]) (by simp) ?_
    rintro _ _ ⟨y2, s2', rfl, rfl, h2⟩
    simp [rrow]
    have hc : Step bs varP t ⟨y1, y2⟩ s2' := h1.bind (h2.bind (.ret h2.1 _))
    refine ⟨⟨by omega, by omega⟩, i + 1, by simp [hw], v + 1, acc ++ [⟨y1, y2⟩], s2', ⟨⟨rfl, rfl, rfl⟩, rfl, by simp [vrows, Var.row]⟩, ⟨by omega, by simp [hl], fun _ => hmo, h2.1, by omega, fun zs sf hz => ?_⟩, by omega⟩
    have := hk (⟨y1, y2⟩ :: zs) sf (by
      rw [show n - i = (n - (i + 1)) + 1 by omega]
      exact hc.bind (hz.map (f := fun ys => _ :: ys)))
    simpa using this
  have hV : Step bs (listP 8 varP) s acc t := by
    refine hst.bind ?_
    by_cases h : i < n
    · have := hk [] t (.stay hp (hout h) [])
      rw [List.append_nil] at this; exact this
    · have := hk [] t (by rw [show n - i = 0 by omega]; exact .ret hp [])
      rw [List.append_nil] at this; exact this
  clear hk hmo hout hst hi hbig hl
  refine callf [0] rfl Try.call153 (plain_d bs t hp hb) (by decide) rfl (by simp) (by simp [rrow]) (by simp) ?_
  rintro _ _ ⟨y2, t2, rfl, rfl, hL⟩
  simp [rrow]
  refine callf [0] rfl Try.call153 (number_d 4 (by omega) bs t2 hL.1 hb) (by decide) rfl (by simp) (by simp [rrow]) (by simp) ?_
  rintro _ _ ⟨n2, t3, rfl, rfl, hst⟩
  simp [rrow]
  refine go_while hmx 6 (fun (u : Nat × Nat × List Int × St) => [(7, .v (.i .i64 (u.1 : Int)))]) (fun u => [.var (rrow bs u.2.2.2), .var [.v .nil, .v (.i .i64 0), .v .nil, .v .nil], .var [.os 3 v, .v (.i .i64 y2), .os 4 u.2.1, .os 5 0], .arr v 2 (vrows (acc.map Var.row)), .arr u.2.1 1 (vrows (u.2.2.1.map irow)), .arr 0 4 []])
    (fun u => u.1 ≤ n2 ∧ u.2.2.1.length = u.1 ∧ (u.2.2.2.e = 0 → n2 ≤ 4) ∧ u.2.2.2.pos ≤ bs.length ∧ u.1 ≤ 4 ∧ ∀ zs sf, Step bs (repP plainP (n2 - u.1)) u.2.2.2 zs sf → Step bs (repP plainP n2) t3 (u.2.2.1 ++ zs) sf) (fun u => n2 - u.1) (0, 0, [], t3) rfl (by simp) (by simp [rrow, vrows]) (by simp) (by simp) (by simp [rrow]) ⟨by omega, rfl, fun he => num_most hst he, hst.1, by omega, fun zs sf h => by simpa using h⟩ ?_
  rintro ⟨i2, v2, acc2, t4⟩ ⟨hi, hl, hmo, hp4, hbig, hk⟩
  simp only at hi hl hmo hp4 hbig hk
  simp [rrow]
  refine ⟨fun hlt he => ?_, fun hout => ?_⟩
  · have hmo := hmo he
    have hw : IntKind.i64.wrap ((i2 : Int) + 1) = (i2 : Int) + 1 := wrap_in (by omega) (by omega)
    refine callfs [0] rfl Try.call153 (plain_d bs t4 hp4 hb) (by decide) rfl (by simp) (by simp [rrow, he]) (by simp) ?_
    rintro _ _ ⟨y, s1', rfl, rfl, h1⟩
    simp [rrow]
    refine ⟨⟨by omega, by omega⟩, i2 + 1, by simp [hw], v2 + 1, acc2 ++ [y], s1', ⟨⟨rfl, rfl, rfl⟩, rfl, by simp [vrows, irow]⟩, ⟨by omega, by simp [hl], fun _ => hmo, h1.1, by omega, fun zs sf hz => ?_⟩, by omega⟩
    have := hk (y :: zs) sf (by
      rw [show n2 - i2 = (n2 - (i2 + 1)) + 1 by omega]
      exact h1.bind (hz.map (f := fun ys => _ :: ys)))
    simpa using this
  have hC : Step bs (listP 4 plainP) t2 acc2 t4 := by
    refine hst.bind ?_
    by_cases h : i2 < n2
    · have := hk [] t4 (.stay hp4 (hout h) [])
      rw [List.append_nil] at this; exact this
    · have := hk [] t4 (by rw [show n2 - i2 = 0 by omega]; exact .ret hp4 [])
      rw [List.append_nil] at this; exact this
  clear hk hmo hout hst hi hbig hl
  refine callf [0] rfl Try.call153 (number_d 8 (by omega) bs t4 hp4 hb) (by decide) rfl (by simp) (by simp [rrow]) (by simp) ?_
  rintro _ _ ⟨n3, t5, rfl, rfl, hst⟩
  simp [rrow]
  refine go_while hmx 6 (fun (u : Nat × Nat × List Func × St) => [(8, .v (.i .i64 (u.1 : Int)))]) (fun u => [.var (rrow bs u.2.2.2), .var [.v .nil, .v (.i .i64 0), .v .nil, .v .nil], .var [.os 3 v, .v (.i .i64 y2), .os 4 v2, .os 5 u.2.1], .arr v 2 (vrows (acc.map Var.row)), .arr v2 1 (vrows (acc2.map irow)), .arr u.2.1 4 (vrows (u.2.2.1.map Func.row))])
    (fun u => u.1 ≤ n3 ∧ u.2.2.1.length = u.1 ∧ (u.2.2.2.e = 0 → n3 ≤ 8) ∧ u.2.2.2.pos ≤ bs.length ∧ u.1 ≤ 8 ∧ ∀ zs sf, Step bs (repP funP (n3 - u.1)) u.2.2.2 zs sf → Step bs (repP funP n3) t5 (u.2.2.1 ++ zs) sf) (fun u => n3 - u.1) (0, 0, [], t5) rfl (by simp) (by simp [rrow, vrows]) (by simp) (by simp) (by simp [rrow]) ⟨by omega, rfl, fun he => num_most hst he, hst.1, by omega, fun zs sf h => by simpa using h⟩ ?_
  rintro ⟨i3, v3, acc3, t6⟩ ⟨hi, hl, hmo, hp6, hbig, hk⟩
  simp only at hi hl hmo hp6 hbig hk
  simp [rrow]
  refine ⟨fun hlt he => ?_, fun hout => ?_⟩
  · have hmo := hmo he
    have hw : IntKind.i64.wrap ((i3 : Int) + 1) = (i3 : Int) + 1 := wrap_in (by omega) (by omega)
    refine callfs [0] rfl Try.call156 (function_d bs t6 hp6 hb) (by decide) rfl (by simp) (by simp [rrow, he]) (by simp) ?_
    rintro _ _ ⟨y, s1', rfl, rfl, h1⟩
    simp [rrow, Func.row]
    refine ⟨⟨by omega, by omega⟩, i3 + 1, by simp [hw], v3 + 1, acc3 ++ [y], s1', ⟨⟨rfl, rfl, rfl⟩, rfl, by simp [vrows, Func.row]⟩, ⟨by omega, by simp [hl], fun _ => hmo, h1.1, by omega, fun zs sf hz => ?_⟩, by omega⟩
    have := hk (y :: zs) sf (by
      rw [show n3 - i3 = (n3 - (i3 + 1)) + 1 by omega]
      exact h1.bind (hz.map (f := fun ys => _ :: ys)))
    simpa using this
  have hF : Step bs (listP 8 funP) t4 acc3 t6 := by
    refine hst.bind ?_
    by_cases h : i3 < n3
    · have := hk [] t6 (.stay hp6 (hout h) [])
      rw [List.append_nil] at this; exact this
    · have := hk [] t6 (by rw [show n3 - i3 = 0 by omega]; exact .ret hp6 [])
      rw [List.append_nil] at this; exact this
  exact ⟨⟨acc, y2, acc2, acc3⟩, t6, rfl, rfl, hV.bind (hL.bind (hC.bind (hF.bind (.ret hp6 _))))⟩
end Go.Sc.Cw
/- Chapter 04: Decode, by the document's text. No condition. -/
set_option linter.constructorNameAsVariable false
namespace Go.Sc.Cw
open Go Go.RowKit Go.Av Go.Proofs Go.Sc.Oct
set_option linter.unusedSimpArgs false
set_option linter.unusedVariables false
/-- scarab/scarabref04.Decode -/
def c99 : ACode :=
  (.seq (.reg none [⟨some 2, none, .m (.alloc (.g [.nil, (.i .i64 0), .nil, .nil]))⟩, ⟨some 3, none, .q (.mv (.c (.i .i64 0)))⟩, ⟨some 4, none, .q (.mv (.c (.i .i64 0)))⟩])
  (.keep [0, 2]
  (.seq (.reg none [⟨some 14, none, .q (.bld [.nil, (.i .i64 0), .nil, .nil] [])⟩, ⟨some 5, none, .m (.alloc (.g [.nil, (.i .i64 0), .nil, .nil]))⟩, ⟨none, none, .m (.st 4 (.t 5) (.t 14))⟩])
  (.keep [0, 2, 5]
  (.seq (.seq (.reg none [⟨some 15, none, .q (.mv (.t 0))⟩, ⟨some 16, none, .q (.len false (.t 15))⟩, ⟨some 17, none, .q (.bin .gtr (.t 16) (.c (.i .i64 65536)))⟩])
    (.keep [0, 2, 5, 17]
    (.cond (.t 17) (.seq (.reg none [⟨some 18, none, .q (.ld (some 4) (.t 5))⟩, ⟨none, none, .m (.st 4 (.t 2) (.t 18))⟩, ⟨some 3, none, .q (.mv (.c (.i .i64 2)))⟩, ⟨some 4, none, .q (.mv (.c (.i .i64 0)))⟩])
      .ret)
    .skip)))
  (.seq (.reg none [⟨some 19, none, .call (.f 134) []⟩, ⟨some 6, none, .q (.mv (.t 19))⟩])
  (.keep [0, 2, 5, 6]
  (.seq (.seq (.reg none [⟨some 7, none, .q (.mv (.c (.i .i64 0)))⟩])
    (.keep [0, 2, 5, 6, 7]
    (.blk 0 (.keep [0, 2, 5, 6, 7]
    (.loop (.fin [0, 2, 5, 6, 7]
      (.seq (.seq (.reg none [⟨some 20, none, .q (.mv (.t 7))⟩, ⟨some 21, none, .q (.mv (.t 6))⟩, ⟨some 22, none, .q (.len false (.t 21))⟩, ⟨some 23, none, .q (.bin .lss (.t 20) (.t 22))⟩])
        (.keep [0, 2, 5, 6, 7, 23]
        (.cond (.t 23) .skip
        (.exit 0))))
      (.seq (.blk 1 (.seq (.reg (some (15, [])) [⟨some 26, none, .q (.mv (.t 7))⟩, ⟨some 27, none, .q (.mv (.t 0))⟩, ⟨some 28, none, .q (.len false (.t 27))⟩, ⟨some 29, none, .q (.bin .geq (.t 26) (.t 28))⟩, ⟨some 30, none, .q (.mv (.t 29))⟩, ⟨some 31, some (30, false), .q (.mv (.t 0))⟩, ⟨some 32, some (30, false), .q (.mv (.t 7))⟩, ⟨some 33, some (30, false), .q (.ias 1 (.t 31) (.t 32))⟩, ⟨some 34, some (30, false), .q (.ld none (.t 33))⟩, ⟨some 35, some (30, false), .q (.mv (.t 6))⟩, ⟨some 36, some (30, false), .q (.mv (.t 7))⟩, ⟨some 37, some (30, false), .q (.ias 1 (.t 35) (.t 36))⟩, ⟨some 38, some (30, false), .q (.ld none (.t 37))⟩, ⟨some 39, some (30, false), .q (.bin .neq (.t 34) (.t 38))⟩, ⟨some 40, none, .pk (.t 30) (.c (.b true)) (.t 39)⟩])
        (.keep [0, 2, 5, 6, 7, 40]
        (.cond (.t 40) (.seq (.reg none [⟨some 41, none, .q (.ld (some 4) (.t 5))⟩, ⟨none, none, .m (.st 4 (.t 2) (.t 41))⟩, ⟨some 3, none, .q (.mv (.c (.i .i64 40)))⟩, ⟨some 4, none, .q (.mv (.c (.i .i64 0)))⟩])
          .ret)
        .skip))))
      (.keep [0, 2, 5, 6, 7]
      (.reg none [⟨some 24, none, .q (.mv (.t 7))⟩, ⟨some 25, none, .q (.bin .add (.t 24) (.c (.i .i64 1)))⟩, ⟨some 7, none, .q (.mv (.t 25))⟩]))))))))))
  (.seq (.reg none [⟨some 42, none, .q (.mv (.t 0))⟩, ⟨some 43, none, .q (.mv (.t 6))⟩, ⟨some 44, none, .q (.len false (.t 43))⟩, ⟨some 45, none, .q (.bld [.nil, (.i .i64 0), (.i .i64 0), (.i .i64 0)] [(0, 1, .t 42), (1, 1, .t 44)])⟩, ⟨some 46, none, .m (.box (.t 45))⟩, ⟨some 8, none, .q (.mv (.t 46))⟩])
  (.keep [0, 2, 5, 8]
  (.seq (.reg none [⟨some 47, none, .q (.mv (.t 8))⟩, ⟨some 48, none, .call (.f 135) [(.t 47)]⟩, ⟨some 9, none, .m (.alloc (.g [.nil, (.i .i64 0), .nil, .nil]))⟩, ⟨none, none, .m (.st 4 (.t 9) (.t 48))⟩])
  (.keep [0, 2, 5, 8, 9]
  (.seq (.seq (.reg none [⟨some 49, none, .q (.mv (.t 8))⟩, ⟨some 50, none, .q (.nck (.t 49))⟩, ⟨some 51, none, .q (.fa 2 (.t 50))⟩, ⟨some 52, none, .q (.ld none (.t 51))⟩, ⟨some 53, none, .q (.bin .neq (.t 52) (.c (.i .i64 0)))⟩])
    (.keep [0, 2, 5, 8, 9, 53]
    (.cond (.t 53) (.seq (.reg (some (9, [2, 3, 4, 6, 7, 8])) [⟨some 54, none, .q (.ld (some 4) (.t 5))⟩, ⟨some 55, none, .q (.mv (.t 8))⟩, ⟨some 56, none, .q (.nck (.t 55))⟩, ⟨some 57, none, .q (.fa 2 (.t 56))⟩, ⟨some 58, none, .q (.ld none (.t 57))⟩, ⟨some 59, none, .q (.mv (.t 8))⟩, ⟨some 60, none, .q (.nck (.t 59))⟩, ⟨some 61, none, .q (.fa 3 (.t 60))⟩, ⟨some 62, none, .q (.ld none (.t 61))⟩, ⟨none, none, .m (.st 4 (.t 2) (.t 54))⟩, ⟨some 3, none, .q (.mv (.t 58))⟩, ⟨some 4, none, .q (.mv (.t 62))⟩])
      .ret)
    .skip)))
  (.seq (.seq (.reg none [⟨some 63, none, .q (.mv (.t 0))⟩, ⟨some 64, none, .q (.len false (.t 63))⟩, ⟨some 65, none, .q (.mv (.t 8))⟩, ⟨some 66, none, .q (.nck (.t 65))⟩, ⟨some 67, none, .q (.fa 1 (.t 66))⟩, ⟨some 68, none, .q (.ld none (.t 67))⟩, ⟨some 69, none, .q (.bin .sub (.t 64) (.t 68))⟩, ⟨some 70, none, .q (.bin .lss (.t 69) (.c (.i .i64 4)))⟩])
    (.keep [0, 2, 5, 8, 9, 70]
    (.cond (.t 70) (.seq (.reg (some (5, [2, 3, 4])) [⟨some 71, none, .q (.ld (some 4) (.t 5))⟩, ⟨some 72, none, .q (.mv (.t 8))⟩, ⟨some 73, none, .q (.nck (.t 72))⟩, ⟨some 74, none, .q (.fa 1 (.t 73))⟩, ⟨some 75, none, .q (.ld none (.t 74))⟩, ⟨none, none, .m (.st 4 (.t 2) (.t 71))⟩, ⟨some 3, none, .q (.mv (.c (.i .i64 10)))⟩, ⟨some 4, none, .q (.mv (.t 75))⟩])
      .ret)
    .skip)))
  (.seq (.reg none [⟨some 76, none, .q (.mv (.t 0))⟩, ⟨some 77, none, .q (.mv (.t 8))⟩, ⟨some 78, none, .q (.nck (.t 77))⟩, ⟨some 79, none, .q (.fa 1 (.t 78))⟩, ⟨some 80, none, .q (.ld none (.t 79))⟩, ⟨some 81, none, .q (.sls 1 (.t 76) none (some (.t 80)))⟩, ⟨some 82, none, .call (.f 104) [(.t 81)]⟩, ⟨some 83, none, .call (.f 136) [(.t 82)]⟩, ⟨some 10, none, .m (.alloc (.g [(.i .u8 0), (.i .u8 0), (.i .u8 0), (.i .u8 0)]))⟩, ⟨none, none, .m (.st 4 (.t 10) (.t 83))⟩])
  (.keep [0, 2, 5, 8, 9, 10]
  (.seq (.seq (.reg none [⟨some 11, none, .q (.mv (.c (.i .i64 0)))⟩])
    (.keep [0, 2, 5, 8, 9, 10, 11]
    (.blk 2 (.keep [0, 2, 5, 8, 9, 10, 11]
    (.loop (.fin [0, 2, 5, 8, 9, 10, 11]
      (.seq (.seq (.reg none [⟨some 84, none, .q (.mv (.t 11))⟩, ⟨some 85, none, .q (.bin .lss (.t 84) (.c (.i .i64 4)))⟩])
        (.keep [0, 2, 5, 8, 9, 10, 11, 85]
        (.cond (.t 85) .skip
        (.exit 2))))
      (.seq (.blk 3 (.seq (.reg (some (13, [])) [⟨some 88, none, .q (.mv (.t 0))⟩, ⟨some 89, none, .q (.mv (.t 8))⟩, ⟨some 90, none, .q (.nck (.t 89))⟩, ⟨some 91, none, .q (.fa 1 (.t 90))⟩, ⟨some 92, none, .q (.ld none (.t 91))⟩, ⟨some 93, none, .q (.mv (.t 11))⟩, ⟨some 94, none, .q (.bin .add (.t 92) (.t 93))⟩, ⟨some 95, none, .q (.ias 1 (.t 88) (.t 94))⟩, ⟨some 96, none, .q (.ld none (.t 95))⟩, ⟨some 97, none, .q (.mv (.t 11))⟩, ⟨some 98, none, .q (.iaa 4 1 (.t 10) (.t 97))⟩, ⟨some 99, none, .q (.ld none (.t 98))⟩, ⟨some 100, none, .q (.bin .neq (.t 96) (.t 99))⟩])
        (.keep [0, 2, 5, 8, 9, 10, 11, 100]
        (.cond (.t 100) (.seq (.reg (some (5, [2, 3, 4])) [⟨some 101, none, .q (.ld (some 4) (.t 5))⟩, ⟨some 102, none, .q (.mv (.t 8))⟩, ⟨some 103, none, .q (.nck (.t 102))⟩, ⟨some 104, none, .q (.fa 1 (.t 103))⟩, ⟨some 105, none, .q (.ld none (.t 104))⟩, ⟨none, none, .m (.st 4 (.t 2) (.t 101))⟩, ⟨some 3, none, .q (.mv (.c (.i .i64 41)))⟩, ⟨some 4, none, .q (.mv (.t 105))⟩])
          .ret)
        .skip))))
      (.keep [0, 2, 5, 8, 9, 10, 11]
      (.reg none [⟨some 86, none, .q (.mv (.t 11))⟩, ⟨some 87, none, .q (.bin .add (.t 86) (.c (.i .i64 1)))⟩, ⟨some 11, none, .q (.mv (.t 87))⟩]))))))))))
  (.seq (.seq (.reg none [⟨some 106, none, .q (.mv (.t 0))⟩, ⟨some 107, none, .q (.len false (.t 106))⟩, ⟨some 108, none, .q (.mv (.t 8))⟩, ⟨some 109, none, .q (.nck (.t 108))⟩, ⟨some 110, none, .q (.fa 1 (.t 109))⟩, ⟨some 111, none, .q (.ld none (.t 110))⟩, ⟨some 112, none, .q (.bin .add (.t 111) (.c (.i .i64 4)))⟩, ⟨some 113, none, .q (.bin .gtr (.t 107) (.t 112))⟩])
    (.keep [2, 5, 8, 9, 113]
    (.cond (.t 113) (.seq (.reg (some (6, [2, 3, 4])) [⟨some 114, none, .q (.ld (some 4) (.t 5))⟩, ⟨some 115, none, .q (.mv (.t 8))⟩, ⟨some 116, none, .q (.nck (.t 115))⟩, ⟨some 117, none, .q (.fa 1 (.t 116))⟩, ⟨some 118, none, .q (.ld none (.t 117))⟩, ⟨some 119, none, .q (.bin .add (.t 118) (.c (.i .i64 4)))⟩, ⟨none, none, .m (.st 4 (.t 2) (.t 114))⟩, ⟨some 3, none, .q (.mv (.c (.i .i64 13)))⟩, ⟨some 4, none, .q (.mv (.t 119))⟩])
      .ret)
    .skip)))
  (.seq (.reg none [⟨some 121, none, .q (.ld (some 4) (.t 9))⟩, ⟨some 122, none, .call (.f 72) [(.t 121)]⟩, ⟨some 120, none, .q (.mv (.t 122))⟩, ⟨some 123, none, .q (.ext 0 (.t 120))⟩, ⟨some 124, none, .q (.ext 1 (.t 120))⟩, ⟨some 13, none, .m (.alloc (.g [(.i .i64 0), (.i .i64 0)]))⟩, ⟨some 12, none, .q (.mv (.t 123))⟩, ⟨none, none, .m (.st 2 (.t 13) (.t 124))⟩])
  (.keep [2, 5, 9, 12]
  (.seq (.seq (.reg none [⟨some 125, none, .q (.mv (.t 12))⟩, ⟨some 126, none, .q (.bin .neq (.t 125) (.c (.i .i64 0)))⟩])
    (.keep [2, 5, 9, 12, 126]
    (.cond (.t 126) (.seq (.reg none [⟨some 127, none, .q (.ld (some 4) (.t 5))⟩, ⟨some 128, none, .q (.mv (.t 12))⟩, ⟨none, none, .m (.st 4 (.t 2) (.t 127))⟩, ⟨some 3, none, .q (.mv (.t 128))⟩, ⟨some 4, none, .q (.mv (.c (.i .i64 0)))⟩])
      .ret)
    .skip)))
  (.seq (.reg none [⟨some 129, none, .q (.ld (some 4) (.t 9))⟩, ⟨none, none, .m (.st 4 (.t 2) (.t 129))⟩, ⟨some 3, none, .q (.mv (.c (.i .i64 0)))⟩, ⟨some 4, none, .q (.mv (.c (.i .i64 0)))⟩])
  .ret))))))))))))))))))))))
theorem r99 : (Try.f99.body.bind (resC Try.prog Try.f99.ntmps)) = some (strip c99) := by kernel_rfl
theorem s99 : Try.f99.results.toList.mapM (resRes Try.prog) = some [.c 2 (some 4), .t 3, .t 4] := by kernel_rfl
theorem take_next {l : List UInt8} {i : Nat} {x : UInt8} (h : l[i]? = some x) : l.take (i + 1) = l.take i ++ [x] := by
  rw [List.take_add_one, h]; rfl
theorem decode_d (bs : List UInt8) : PureS Try.prog 99 [.sl 1 (bs.map brow)] (decV bs) := by
  refine fun_go hmx Try.func99 r99 s99 (by rw [Try.ntmps99]; simp) ?_
  unfold c99
  have hmag := magicR.pure
  have hml : magicB.length = 5 := rfl
  generalize hD : decV bs = D
  simp
  refine ⟨fun h1 => ?_, fun h1 => ?_⟩
  · have h1' : 65536 < bs.length := by omega
    simp [← hD, decV, decode, h1', noneV]
  have h1' : ¬ 65536 < bs.length := by omega
  have hb : bs.length < 1099511627776 := by omega
  refine callk rfl Try.call134 hmag rfl ?_
  simp
  have hbad : bs.take 5 ≠ magicB → D = .tup [.g [.nil, .i .i64 0, .nil, .nil], .i .i64 40, .i .i64 0] := fun hm => by
    simp [← hD, decV, decode, h1', hm, noneV]
  generalize hM : magicB = M at *
  refine go_each hmx 2 7 M (fun (_ : Unit) => []) (fun _ => [.var [.v .nil, .v (.i .i64 0), .v .nil, .v .nil], .var [.v .nil, .v (.i .i64 0), .v .nil, .v .nil]]) (fun i _ rest => i ≤ bs.length ∧ bs.take i = M.take i) () (by omega) rfl rfl rfl (by simp) (by simp) (by simp) ⟨by omega, by simp⟩ ?_ ?_
  · rintro i x rest _ hi hx hr ⟨hj1, hj2⟩ hw
    have hxM : M[i]? = some x := by rw [List.getElem?_eq_getElem hi, hx]
    by_cases hlen : i < bs.length
    · have hlen' : ¬ bs.length ≤ i := by omega
      have hget : bs[i]? = some bs[i] := List.getElem?_eq_getElem hlen
      generalize hy : bs[i] = y at hget
      simp [hi, hx, hw, hlen, hlen', hy, hget, brow]
      refine ⟨fun hne => ?_, fun heq => ⟨by omega, ?_⟩⟩
      · refine (hbad fun hm => hne ?_).symm
        have h5 : (bs.take 5)[i]? = M[i]? := by rw [hm]
        rw [List.getElem?_take, if_pos (by omega), hget, hxM] at h5
        cases h5; rfl
      · have hxy : y = x := UInt8.toNat_inj.1 (by omega)
        rw [take_next hget, take_next hxM, hj2, hxy]
    · have hlen' : bs.length ≤ i := by omega
      simp [hi, hx, hw, hlen, hlen', brow]
      try (refine (hbad fun hm => ?_).symm
           have := congrArg List.length hm
           simp [hml] at this; omega)
  rintro _ ⟨_, hj⟩
  rw [List.take_length, hml] at hj
  have h5len : (⟨5, 0, 0⟩ : St).pos ≤ bs.length := by
    have := congrArg List.length hj
    simp [hml] at this
    simp only; omega
  simp [hml]
  refine callf [2] rfl Try.call135 (program_d bs ⟨5, 0, 0⟩ h5len hb) (by decide) rfl (by simp) (by simp [rrow]) (by simp) ?_
  rintro _ _ ⟨p, s4, rfl, rfl, g⟩
  have hdec := dec_of h1' (by rw [hM]; exact hj) g
  rw [hD] at hdec
  simp [rrow, Prog.row]
  refine ⟨fun he => ?_, fun he => ?_⟩
  · exact (hdec.1 he).symm
  obtain ⟨hok, d1, d2⟩ := hdec.2 he
  have hp4 := g.1
  have hws : IntKind.i64.wrap ((bs.length : Int) - s4.pos) = (bs.length : Int) - s4.pos := wrap_in (by omega) (by omega)
  rw [hws]
  refine ⟨fun h4 => ?_, fun h4 => ⟨hp4, ?_⟩⟩
  · have h4' : bs.length < s4.pos + 4 := by omega
    have := d1 (by simp [endSt, h4'])
    rw [this]; simp [endSt, h4', noneV]
  have h4' : ¬ bs.length < s4.pos + 4 := by omega
  have hsum := sumR (bs.take s4.pos) (by simp; omega)
  rw [List.map_take] at hsum
  refine callk rfl Try.call104 hsum rfl ?_
  simp
  refine callk rfl Try.call136 (fixR (sumN (bs.take s4.pos)) (sumN_lt _)) rfl ?_
  obtain ⟨f0, f1, f2, f3, hF⟩ : ∃ a b c d, fixN (sumN (bs.take s4.pos)) = [a, b, c, d] := ⟨_, _, _, _, rfl⟩
  rw [hF]
  have hl4 := four_length (bs := bs) (a := s4.pos) (by omega)
  have hfd : four bs s4.pos = (bs.drop s4.pos).take 4 := by rw [four, List.drop_take]; simp
  have hfour : beN (four bs s4.pos) 0 = sumN (bs.take s4.pos) ↔ (bs.drop s4.pos).take 4 = [f0, f1, f2, f3] := by
    rw [← hfd]
    constructor
    · intro h; rw [← fix_be hl4, h, hF]
    · intro h; rw [h, ← hF, be_fix (sumN_lt _)]
  simp [bval]
  refine go_each hmx 5 11 [f0, f1, f2, f3] (fun (_ : Unit) => []) (fun _ => [.var [.v .nil, .v (.i .i64 0), .v .nil, .v .nil], .var [.v .nil, .v (.i .i64 0), .v .nil, .v .nil], .var (rrow bs s4), .var (p.row.map .v), .var [.v (.i .u8 (f0.toNat : Int)), .v (.i .u8 (f1.toNat : Int)), .v (.i .u8 (f2.toNat : Int)), .v (.i .u8 (f3.toNat : Int))]]) (fun i _ _ => (bs.drop s4.pos).take i = [f0, f1, f2, f3].take i) () (by simp) rfl rfl (by simp [rrow, Prog.row]) (by simp) (by simp) (by simp [rrow, Prog.row]) (by simp) ?_ ?_
  · rintro i x rest _ hi hx hr hj hw
    have hi4 : i < 4 := by simpa using hi
    have hpi : s4.pos + i < bs.length := by omega
    have hget : bs[s4.pos + i]? = some bs[s4.pos + i] := List.getElem?_eq_getElem hpi
    generalize hy : bs[s4.pos + i] = y at hget
    have hyx : y ≠ x → ¬ (bs.drop s4.pos).take 4 = [f0, f1, f2, f3] := fun hne h => hne (by
      have h5 : ((bs.drop s4.pos).take 4)[i]? = ([f0, f1, f2, f3] : List UInt8)[i]? := by rw [h]
      rw [List.getElem?_take, if_pos hi4, List.getElem?_drop, hget, List.getElem?_eq_getElem hi, hx] at h5
      cases h5; rfl)
    have hbadd : y ≠ x → D = .tup [.g [.nil, .i .i64 0, .nil, .nil], .i .i64 41, .i .i64 (s4.pos : Int)] := fun hne => by
      have h6 : ¬ beN (four bs s4.pos) 0 = sumN (bs.take s4.pos) := fun h => hyx hne (hfour.1 h)
      have := d1 (by simp [endSt, h4', h6])
      rw [this]; simp [endSt, h4', h6, noneV]
    have hnext : y = x → (bs.drop s4.pos).take (i + 1) = [f0, f1, f2, f3].take (i + 1) := fun h => by
      rw [take_next (x := y) (by rw [List.getElem?_drop]; exact hget), take_next (x := x) (by rw [List.getElem?_eq_getElem hi, hx]), hj, h]
    have hwi : IntKind.i64.wrap ((s4.pos : Int) + (i : Int)) = ((s4.pos + i : Nat) : Int) := by rw [wrap_in (by omega) (by omega)]; rfl
    obtain rfl | rfl | rfl | rfl : i = 0 ∨ i = 1 ∨ i = 2 ∨ i = 3 := by omega
    all_goals
      simp at hx
      subst hx
      simp at hwi hget hpi hy
      have t1 : ((s4.pos : Int) + 1).toNat = s4.pos + 1 := by omega
      have t2 : ((s4.pos : Int) + 2).toNat = s4.pos + 2 := by omega
      have t3 : ((s4.pos : Int) + 3).toNat = s4.pos + 3 := by omega
      simp [hwi, hget, hpi, hy, brow, rrow, t1, t2, t3]
      first
        | refine ⟨⟨by omega, by omega⟩, fun hne => (hbadd fun h => hne (by rw [h])).symm, fun heq => ⟨by decide, by simpa using hnext (UInt8.toNat_inj.1 (by omega))⟩⟩
        | refine ⟨fun hne => (hbadd fun h => hne (by rw [h])).symm, fun heq => ⟨by decide, by simpa using hnext (UInt8.toNat_inj.1 (by omega))⟩⟩
  · rintro _ hj
    have h6 := hfour.2 hj
    have hw4 : IntKind.i64.wrap ((s4.pos : Int) + 4) = (s4.pos : Int) + 4 := wrap_in (by omega) (by omega)
    simp [rrow, hw4]
    refine ⟨fun h7 => ?_, fun h7 => ?_⟩
    · have h7' : ¬ s4.pos + 4 = bs.length := by omega
      have := d1 (by simp [endSt, h4', h6, h7'])
      rw [this]; simp [endSt, h4', h6, h7', noneV]
    · have h7' : s4.pos + 4 = bs.length := by omega
      have h8 : endSt bs s4 = s4 := by simp [endSt, h4', h6, h7']
      rw [h8] at d2
      have hd2 := d2 he
      refine callk rfl Try.call72 (Q03.check46 p hok) rfl ?_
      simp [told]
      refine ⟨fun h9 => ?_, fun h9 => ?_⟩
      · rw [hd2, if_neg h9, noneV]
      · rw [hd2, if_pos h9]; simp [Prog.row]
end Go.Sc.Cw
