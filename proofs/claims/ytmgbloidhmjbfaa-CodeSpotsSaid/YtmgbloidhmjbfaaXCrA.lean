/- Chapter 04: bytes read, by the program. No condition. -/
import Derived.Test.YtmgbloidhmjbfaaXOctC
import Derived.Test.YtmgbloidhmjbfaaXScRd
set_option linter.constructorNameAsVariable false
namespace Go.Sc.Cw
open Go Go.RowKit Go.Av Go.Proofs Go.Sc.Oct
set_option linter.unusedSimpArgs false
set_option linter.unusedVariables false
/-- (*scarab/code.reader).fail -/
def c126 : ACode :=
  (.seq (.reg none [⟨some 6, none, .q (.mv (.t 0))⟩, ⟨some 7, none, .q (.nck (.t 6))⟩, ⟨some 8, none, .q (.fa 2 (.t 7))⟩, ⟨some 9, none, .q (.ld none (.t 8))⟩, ⟨some 10, none, .q (.bin .eql (.t 9) (.c (.i .i64 0)))⟩])
  (.keep [0, 1, 2, 10]
  (.cond (.t 10) (.reg none [⟨some 11, none, .q (.mv (.t 0))⟩, ⟨some 12, none, .q (.mv (.t 0))⟩, ⟨some 13, none, .q (.mv (.t 1))⟩, ⟨some 14, none, .q (.mv (.t 2))⟩, ⟨some 15, none, .q (.nck (.t 11))⟩, ⟨some 16, none, .q (.fa 2 (.t 15))⟩, ⟨none, none, .m (.st 1 (.t 16) (.t 13))⟩, ⟨some 17, none, .q (.nck (.t 12))⟩, ⟨some 18, none, .q (.fa 3 (.t 17))⟩, ⟨none, none, .m (.st 1 (.t 18) (.t 14))⟩])
  .skip)))
theorem r126 : (Try.f126.body.bind (resC Try.prog Try.f126.ntmps)) = some (strip c126) := by kernel_rfl
theorem s126 : Try.f126.results.toList.mapM (resRes Try.prog) = some [] := by kernel_rfl
/-- (*scarab/code.reader).num -/
def c119 : ACode :=
  (.seq (.reg none [⟨some 6, none, .q (.mv (.c (.i .i64 0)))⟩])
  (.keep [0, 1, 2]
  (.seq (.seq (.reg none [⟨some 10, none, .q (.mv (.t 0))⟩, ⟨some 11, none, .q (.nck (.t 10))⟩, ⟨some 12, none, .q (.fa 2 (.t 11))⟩, ⟨some 13, none, .q (.ld none (.t 12))⟩, ⟨some 14, none, .q (.bin .neq (.t 13) (.c (.i .i64 0)))⟩])
    (.keep [0, 1, 2, 14]
    (.cond (.t 14) (.seq (.reg none [⟨some 6, none, .q (.mv (.c (.i .i64 0)))⟩])
      .ret)
    .skip)))
  (.seq (.reg (some (16, [])) [⟨some 16, none, .q (.mv (.t 0))⟩, ⟨some 17, none, .q (.nck (.t 16))⟩, ⟨some 18, none, .q (.fa 0 (.t 17))⟩, ⟨some 19, none, .q (.ld none (.t 18))⟩, ⟨some 20, none, .q (.mv (.t 0))⟩, ⟨some 21, none, .q (.nck (.t 20))⟩, ⟨some 22, none, .q (.fa 1 (.t 21))⟩, ⟨some 23, none, .q (.ld none (.t 22))⟩, ⟨some 24, none, .call (.f 148) [(.t 19), (.t 23)]⟩, ⟨some 15, none, .q (.mv (.t 24))⟩, ⟨some 25, none, .q (.ext 0 (.t 15))⟩, ⟨some 26, none, .q (.ext 1 (.t 15))⟩, ⟨some 27, none, .q (.ext 2 (.t 15))⟩, ⟨some 7, none, .q (.mv (.t 25))⟩, ⟨some 8, none, .q (.mv (.t 26))⟩, ⟨some 9, none, .q (.mv (.t 27))⟩])
  (.keep [0, 1, 2, 7, 8, 9]
  (.seq (.seq (.reg none [⟨some 28, none, .q (.mv (.t 9))⟩, ⟨some 29, none, .q (.bin .neq (.t 28) (.c (.i .i64 0)))⟩])
    (.keep [0, 1, 2, 7, 8, 9, 29]
    (.cond (.t 29) (.seq (.reg none [⟨some 30, none, .q (.mv (.t 0))⟩, ⟨some 31, none, .q (.mv (.t 9))⟩, ⟨some 32, none, .q (.mv (.t 0))⟩, ⟨some 33, none, .q (.nck (.t 32))⟩, ⟨some 34, none, .q (.fa 1 (.t 33))⟩, ⟨some 35, none, .q (.ld none (.t 34))⟩, ⟨some 36, none, .call (.f 126) [(.t 30), (.t 31), (.t 35)]⟩])
      (.keep []
      (.seq (.reg none [⟨some 6, none, .q (.mv (.c (.i .i64 0)))⟩])
      .ret)))
    .skip)))
  (.seq (.seq (.reg none [⟨some 37, none, .q (.mv (.t 7))⟩, ⟨some 38, none, .q (.mv (.t 1))⟩, ⟨some 39, none, .q (.bin .gtr (.t 37) (.t 38))⟩])
    (.keep [0, 2, 7, 8, 39]
    (.cond (.t 39) (.seq (.reg none [⟨some 40, none, .q (.mv (.t 0))⟩, ⟨some 41, none, .q (.mv (.t 2))⟩, ⟨some 42, none, .q (.mv (.t 0))⟩, ⟨some 43, none, .q (.nck (.t 42))⟩, ⟨some 44, none, .q (.fa 1 (.t 43))⟩, ⟨some 45, none, .q (.ld none (.t 44))⟩, ⟨some 46, none, .call (.f 126) [(.t 40), (.t 41), (.t 45)]⟩])
      (.keep []
      (.seq (.reg none [⟨some 6, none, .q (.mv (.c (.i .i64 0)))⟩])
      .ret)))
    .skip)))
  (.seq (.reg none [⟨some 47, none, .q (.mv (.t 0))⟩, ⟨some 48, none, .q (.mv (.t 8))⟩, ⟨some 49, none, .q (.nck (.t 47))⟩, ⟨some 50, none, .q (.fa 1 (.t 49))⟩, ⟨none, none, .m (.st 1 (.t 50) (.t 48))⟩])
  (.keep [7]
  (.seq (.reg none [⟨some 51, none, .q (.mv (.t 7))⟩, ⟨some 52, none, .q (.cvi .i64 (.t 51))⟩, ⟨some 6, none, .q (.mv (.t 52))⟩])
  .ret))))))))))
theorem r119 : (Try.f119.body.bind (resC Try.prog Try.f119.ntmps)) = some (strip c119) := by kernel_rfl
theorem s119 : Try.f119.results.toList.mapM (resRes Try.prog) = some [.t 6] := by kernel_rfl
/-- (*scarab/code.reader).plain -/
def c87 : ACode :=
  (.seq (.reg none [⟨some 2, none, .q (.mv (.c (.i .i64 0)))⟩])
  (.keep [0]
  (.seq (.reg none [⟨some 3, none, .q (.mv (.t 0))⟩, ⟨some 4, none, .call (.f 119) [(.t 3), (.c (.i .u64 2147483647)), (.c (.i .i64 8))]⟩, ⟨some 2, none, .q (.mv (.t 4))⟩])
  .ret)))
theorem r87 : (Try.f87.body.bind (resC Try.prog Try.f87.ntmps)) = some (strip c87) := by kernel_rfl
theorem s87 : Try.f87.results.toList.mapM (resRes Try.prog) = some [.t 2] := by kernel_rfl
/-- (*scarab/code.reader).truth -/
def c120 : ACode :=
  (.seq (.reg none [⟨some 2, none, .q (.mv (.c (.b false)))⟩])
  (.keep [0]
  (.seq (.reg none [⟨some 3, none, .q (.mv (.t 0))⟩, ⟨some 4, none, .call (.f 119) [(.t 3), (.c (.i .u64 1)), (.c (.i .i64 8))]⟩, ⟨some 5, none, .q (.bin .eql (.t 4) (.c (.i .i64 1)))⟩, ⟨some 2, none, .q (.mv (.t 5))⟩])
  .ret)))
theorem r120 : (Try.f120.body.bind (resC Try.prog Try.f120.ntmps)) = some (strip c120) := by kernel_rfl
theorem s120 : Try.f120.results.toList.mapM (resRes Try.prog) = some [.t 2] := by kernel_rfl
/-- (*scarab/code.reader).signed -/
def c121 : ACode :=
  (.seq (.reg none [⟨some 2, none, .q (.mv (.c (.i .i64 0)))⟩])
  (.keep [0]
  (.seq (.seq (.reg none [⟨some 6, none, .q (.mv (.t 0))⟩, ⟨some 7, none, .q (.nck (.t 6))⟩, ⟨some 8, none, .q (.fa 2 (.t 7))⟩, ⟨some 9, none, .q (.ld none (.t 8))⟩, ⟨some 10, none, .q (.bin .neq (.t 9) (.c (.i .i64 0)))⟩])
    (.keep [0, 10]
    (.cond (.t 10) (.seq (.reg none [⟨some 2, none, .q (.mv (.c (.i .i64 0)))⟩])
      .ret)
    .skip)))
  (.seq (.reg (some (16, [])) [⟨some 12, none, .q (.mv (.t 0))⟩, ⟨some 13, none, .q (.nck (.t 12))⟩, ⟨some 14, none, .q (.fa 0 (.t 13))⟩, ⟨some 15, none, .q (.ld none (.t 14))⟩, ⟨some 16, none, .q (.mv (.t 0))⟩, ⟨some 17, none, .q (.nck (.t 16))⟩, ⟨some 18, none, .q (.fa 1 (.t 17))⟩, ⟨some 19, none, .q (.ld none (.t 18))⟩, ⟨some 20, none, .call (.f 149) [(.t 15), (.t 19)]⟩, ⟨some 11, none, .q (.mv (.t 20))⟩, ⟨some 21, none, .q (.ext 0 (.t 11))⟩, ⟨some 22, none, .q (.ext 1 (.t 11))⟩, ⟨some 23, none, .q (.ext 2 (.t 11))⟩, ⟨some 3, none, .q (.mv (.t 21))⟩, ⟨some 4, none, .q (.mv (.t 22))⟩, ⟨some 5, none, .q (.mv (.t 23))⟩])
  (.keep [0, 3, 4, 5]
  (.seq (.seq (.reg none [⟨some 24, none, .q (.mv (.t 5))⟩, ⟨some 25, none, .q (.bin .neq (.t 24) (.c (.i .i64 0)))⟩])
    (.keep [0, 3, 4, 5, 25]
    (.cond (.t 25) (.seq (.reg none [⟨some 26, none, .q (.mv (.t 0))⟩, ⟨some 27, none, .q (.mv (.t 5))⟩, ⟨some 28, none, .q (.mv (.t 0))⟩, ⟨some 29, none, .q (.nck (.t 28))⟩, ⟨some 30, none, .q (.fa 1 (.t 29))⟩, ⟨some 31, none, .q (.ld none (.t 30))⟩, ⟨some 32, none, .call (.f 126) [(.t 26), (.t 27), (.t 31)]⟩])
      (.keep []
      (.seq (.reg none [⟨some 2, none, .q (.mv (.c (.i .i64 0)))⟩])
      .ret)))
    .skip)))
  (.seq (.reg none [⟨some 33, none, .q (.mv (.t 0))⟩, ⟨some 34, none, .q (.mv (.t 4))⟩, ⟨some 35, none, .q (.nck (.t 33))⟩, ⟨some 36, none, .q (.fa 1 (.t 35))⟩, ⟨none, none, .m (.st 1 (.t 36) (.t 34))⟩])
  (.keep [3]
  (.seq (.reg none [⟨some 37, none, .q (.mv (.t 3))⟩, ⟨some 2, none, .q (.mv (.t 37))⟩])
  .ret)))))))))
theorem r121 : (Try.f121.body.bind (resC Try.prog Try.f121.ntmps)) = some (strip c121) := by kernel_rfl
theorem s121 : Try.f121.results.toList.mapM (resRes Try.prog) = some [.t 2] := by kernel_rfl
/-- scarab/octet.GetInt -/
def c149 : ACode :=
  (.seq (.reg none [⟨some 4, none, .q (.mv (.c (.i .i64 0)))⟩, ⟨some 5, none, .q (.mv (.c (.i .i64 0)))⟩, ⟨some 6, none, .q (.mv (.c (.i .i64 0)))⟩])
  (.keep [0, 1]
  (.seq (.reg none [⟨some 11, none, .q (.mv (.t 0))⟩, ⟨some 12, none, .q (.mv (.t 1))⟩, ⟨some 13, none, .call (.f 148) [(.t 11), (.t 12)]⟩, ⟨some 10, none, .q (.mv (.t 13))⟩, ⟨some 14, none, .q (.ext 0 (.t 10))⟩, ⟨some 15, none, .q (.ext 1 (.t 10))⟩, ⟨some 16, none, .q (.ext 2 (.t 10))⟩, ⟨some 7, none, .q (.mv (.t 14))⟩, ⟨some 8, none, .q (.mv (.t 15))⟩, ⟨some 9, none, .q (.mv (.t 16))⟩])
  (.keep [7, 8, 9]
  (.seq (.reg none [⟨some 17, none, .q (.mv (.t 7))⟩, ⟨some 18, none, .call (.f 159) [(.t 17)]⟩, ⟨some 19, none, .q (.mv (.t 8))⟩, ⟨some 20, none, .q (.mv (.t 9))⟩, ⟨some 4, none, .q (.mv (.t 18))⟩, ⟨some 5, none, .q (.mv (.t 19))⟩, ⟨some 6, none, .q (.mv (.t 20))⟩])
  .ret)))))
theorem r149 : (Try.f149.body.bind (resC Try.prog Try.f149.ntmps)) = some (strip c149) := by kernel_rfl
theorem s149 : Try.f149.results.toList.mapM (resRes Try.prog) = some [.t 4, .t 5, .t 6] := by kernel_rfl
def failSt (s : St) (e bad : Int) : St := if s.e = 0 then ⟨s.pos, e, bad⟩ else s
theorem fail_r (bs : List UInt8) (s : St) (e bad : Int) : CallS Try.prog 126 [.pt 0 0 0 0, .v (.i .i64 e), .v (.i .i64 bad)] [.var (rrow bs s)] fun r K => K = [.var (rrow bs (failSt s e bad))] := by
  refine fun_cut 1 hmx Try.func126 r126 s126 (by rw [Try.ntmps126]; simp) (by first | exact Nat.le_refl _ | decide | simp) ?_
  unfold c126
  simp [rrow, failSt]
  by_cases h : s.e = 0 <;> simp [h]

theorem getA_err : ∀ (l : List UInt8) (k acc : Nat), (getA k acc l).1 = 0 ∨ (getA k acc l).1 = 10 ∨ (getA k acc l).1 = 11 ∨ (getA k acc l).1 = 12
  | [], k, acc => by simp [getA]
  | c :: l, k, acc => by
    unfold getA
    split
    · simp
    · split
      · exact getA_err l _ _
      · split <;> simp

theorem num_r (most : Nat) (above : Int) (ha : above ≠ 0) (hm : most < 9223372036854775808) : Rd Try.prog 119 [.v (.i .u64 (most : Int)), .v (.i .i64 above)] (fun y : Nat => .i .i64 (y : Int)) (numP most above) := by
  intro bs s hs hb
  refine fun_cut 1 hmx Try.func119 r119 s119 (by rw [Try.ntmps119]; simp) (by first | exact Nat.le_refl _ | decide | simp) ?_
  unfold c119
  simp [rrow]
  refine ⟨fun he => ⟨0, s, rfl, rfl, .stay hs he 0⟩, fun he => ?_⟩
  first
    | refine callk rfl Try.call148 (getO bs s.pos hb) rfl ?_
    | refine callks rfl Try.call148 (getO bs s.pos hb) rfl ?_
    | refine callq rfl Try.call148 (getO bs s.pos hb) rfl ?_
  have hg : getR bs (s.pos : Int) = told3 (getA 0 0 (bs.drop s.pos)) s.pos := by rw [getR, if_neg (by omega)]; simp
  rw [hg]
  rcases hga : getA 0 0 (bs.drop s.pos) with ⟨e, x, n⟩
  by_cases he0 : e = 0
  · subst he0
    have hx := getA_lt' hga
    have hu := drop_used hga hs
    have hw : IntKind.i64.wrap (x : Int) = (x : Int) ∨ most < x := by
      by_cases h : x ≤ most
      · exact .inl (wrap_in (by omega) (by omega))
      · exact .inr (by omega)
    simp [told3]
    refine ⟨fun h1 => ?_, fun h1 => ?_⟩
    · refine callf [0] rfl Try.call126 (fail_r bs s above s.pos) (by decide) rfl (by simp) (by simp [rrow]) (by simp) ?_
      rintro _ _ rfl
      simp [rrow]
      refine ⟨0, failSt s above s.pos, rfl, rfl, ?_⟩
      rw [failSt, if_pos he]
      refine ⟨hs, fun h => absurd he h, fun _ => ?_⟩
      simp only [numP, hga]
      rw [if_neg (by simp), if_pos (by omega)]
      exact ⟨rfl, ha, rfl⟩
    · have hwx : IntKind.i64.wrap (x : Int) = (x : Int) := hw.resolve_right (by omega)
      refine ⟨x, ⟨s.pos + n, s.e, s.bad⟩, by rw [hwx], by simp [rrow], hu, fun h => absurd he h, fun _ => ?_⟩
      simp only [numP, hga]
      rw [if_neg (by simp), if_neg (by omega)]
      exact ⟨rfl, he, rfl, trivial⟩
  · simp [told3, he0]
    refine callf [0] rfl Try.call126 (fail_r bs s e s.pos) (by decide) rfl (by simp) (by simp [rrow]) (by simp) ?_
    rintro _ _ rfl
    simp [rrow]
    refine ⟨0, failSt s e s.pos, rfl, rfl, ?_⟩
    rw [failSt, if_pos he]
    refine ⟨hs, fun h => absurd he h, fun _ => ?_⟩
    simp only [numP, hga]
    rw [if_pos he0]
    exact ⟨rfl, he0, rfl⟩
theorem plain_r : Rd Try.prog 87 [] (fun y : Int => .i .i64 y) plainP := by
  intro bs s hs hb
  refine fun_cut 1 hmx Try.func87 r87 s87 (by rw [Try.ntmps87]; simp) (by first | exact Nat.le_refl _ | decide | simp) ?_
  unfold c87
  simp [rrow]
  refine callf [0] rfl Try.call119 (num_r 2147483647 8 (by decide) (by omega) bs s hs hb) (by decide) rfl (by simp) (by simp [rrow]) (by simp) ?_
  rintro _ _ ⟨y, s', rfl, rfl, hst⟩
  simp [rrow]
  exact ⟨y, s', rfl, rfl, hst.map⟩
theorem truth_r : Rd Try.prog 120 [] (fun y : Bool => .b y) truthP := by
  intro bs s hs hb
  refine fun_cut 1 hmx Try.func120 r120 s120 (by rw [Try.ntmps120]; simp) (by first | exact Nat.le_refl _ | decide | simp) ?_
  unfold c120
  simp [rrow]
  refine callf [0] rfl Try.call119 (num_r 1 8 (by decide) (by omega) bs s hs hb) (by decide) rfl (by simp) (by simp [rrow]) (by simp) ?_
  rintro _ _ ⟨y, s', rfl, rfl, hst⟩
  simp [rrow]
  refine ⟨y == 1, s', ?_, rfl, hst.map (f := fun y => y == 1)⟩
  congr 2
  rw [Bool.eq_iff_iff]; simp <;> omega
def intR (bs : List UInt8) (a : Nat) : AV := if (getA 0 0 (bs.drop a)).1 = 0 then .tup [.i .i64 (zagN (getA 0 0 (bs.drop a)).2.1), .i .i64 ((a : Int) + (getA 0 0 (bs.drop a)).2.2), .i .i64 0] else .tup [.i .i64 0, .i .i64 0, .i .i64 (getA 0 0 (bs.drop a)).1]
theorem getInt_r (bs : List UInt8) (a : Nat) (ha : a ≤ bs.length) (hb : bs.length < 1099511627776) : PureS Try.prog 149 [.sl 1 (bs.map brow), .i .i64 (a : Int)] (intR bs a) := by
  refine fun_go hmx Try.func149 r149 s149 (by rw [Try.ntmps149]; simp) ?_
  unfold c149
  simp
  first
    | refine callk rfl Try.call148 (getO bs a hb) rfl ?_
    | refine callks rfl Try.call148 (getO bs a hb) rfl ?_
    | refine callq rfl Try.call148 (getO bs a hb) rfl ?_
  have hg : getR bs (a : Int) = told3 (getA 0 0 (bs.drop a)) a := by rw [getR, if_neg (by omega)]; simp
  rw [hg]
  rcases hga : getA 0 0 (bs.drop a) with ⟨e, x, n⟩
  by_cases he0 : e = 0
  · subst he0
    have hx := getA_lt' hga
    simp [told3, intR, hga]
    first
      | refine callk rfl Try.call159 (zagO x hx) rfl ?_
      | refine callks rfl Try.call159 (zagO x hx) rfl ?_
      | refine callq rfl Try.call159 (zagO x hx) rfl ?_
    simp
  · simp [told3, he0, intR, hga]
    first
      | refine callk rfl Try.call159 (zagO 0 (by omega)) rfl ?_
      | refine callks rfl Try.call159 (zagO 0 (by omega)) rfl ?_
      | refine callq rfl Try.call159 (zagO 0 (by omega)) rfl ?_
    simp [zagN]
theorem signed_r : Rd Try.prog 121 [] (fun y : Int => .i .i64 y) signedP := by
  intro bs s hs hb
  refine fun_cut 1 hmx Try.func121 r121 s121 (by rw [Try.ntmps121]; simp) (by first | exact Nat.le_refl _ | decide | simp) ?_
  unfold c121
  simp [rrow]
  refine ⟨fun he => ⟨0, s, rfl, rfl, .stay hs he 0⟩, fun he => ?_⟩
  first
    | refine callk rfl Try.call149 (getInt_r bs s.pos hs hb) rfl ?_
    | refine callks rfl Try.call149 (getInt_r bs s.pos hs hb) rfl ?_
    | refine callq rfl Try.call149 (getInt_r bs s.pos hs hb) rfl ?_
  rcases hga : getA 0 0 (bs.drop s.pos) with ⟨e, x, n⟩
  by_cases he0 : e = 0
  · subst he0
    have hu := drop_used hga hs
    simp [intR, hga]
    refine ⟨zagN x, ⟨s.pos + n, s.e, s.bad⟩, rfl, by simp [rrow], hu, fun h => absurd he h, fun _ => ?_⟩
    simp only [signedP, hga]
    exact ⟨rfl, he, rfl, trivial⟩
  · simp [intR, hga, he0]
    refine callf [0] rfl Try.call126 (fail_r bs s e s.pos) (by decide) rfl (by simp) (by simp [rrow]) (by simp) ?_
    rintro _ _ rfl
    simp [rrow]
    refine ⟨0, failSt s e s.pos, rfl, rfl, ?_⟩
    rw [failSt, if_pos he]
    refine ⟨hs, fun h => absurd he h, fun _ => ?_⟩
    simp only [signedP, hga]
    rw [if_pos he0]
    exact ⟨rfl, he0, rfl⟩
end Go.Sc.Cw
