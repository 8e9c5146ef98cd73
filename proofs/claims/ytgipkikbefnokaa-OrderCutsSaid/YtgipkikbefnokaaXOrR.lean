/- Chapter 12: the law of heights. No condition. -/
import Derived.Test.YtgipkikbefnokaaXOrQ
set_option linter.constructorNameAsVariable false
namespace Go.Sc.Or
open Go Go.RowKit Go.Av Go.Proofs Go.Sc
set_option linter.unusedSimpArgs false
set_option linter.unusedVariables false
/-- How many events each goroutine has among the first. -/
def ownC (t : List Ev) (k : Nat) : Clk := (List.range 6).map fun g => rk t g k
theorem ownC_length (t : List Ev) (k : Nat) : (ownC t k).length = 6 := rfl
theorem ownC_get (t : List Ev) (k : Nat) {g : Nat} (h : g < (ownC t k).length) : (ownC t k)[g] = rk t g k := by simp [ownC]
theorem ownC_succ (t : List Ev) (k : Nat) : ownC t (k + 1) = (ownC t k).set (goN t k) (rk t (goN t k) k + 1) := by
  refine List.ext_getElem (by simp [ownC]) fun g h1 h2 => ?_
  rw [List.getElem_set, ownC_get, rk]
  split
  · rename_i h; subst h; rfl
  · rw [ownC_get]
theorem rk_le (t : List Ev) (g : Nat) : ∀ k, rk t g k ≤ (k : Int)
  | 0 => Int.le_refl _
  | k + 1 => by have := rk_le t g k; rw [rk]; split <;> omega
/-- scarab/scarablaw12.OrderHigh -/
def c5 : ACode :=
  (.seq (.reg none [⟨some 2, none, .q (.mv (.c (.b false)))⟩])
  (.keep [0]
  (.seq (.reg none [⟨some 14, none, .q (.mv (.t 0))⟩, ⟨some 15, none, .call (.f 24) [(.t 14)]⟩, ⟨some 13, none, .q (.mv (.t 15))⟩, ⟨some 16, none, .q (.ext 0 (.t 13))⟩, ⟨some 17, none, .q (.ext 1 (.t 13))⟩, ⟨some 3, none, .q (.mv (.t 16))⟩, ⟨some 4, none, .q (.mv (.t 17))⟩])
  (.keep [0, 3, 4]
  (.seq (.seq (.reg none [⟨some 18, none, .q (.mv (.t 0))⟩, ⟨some 19, none, .call (.f 22) [(.t 18)]⟩, ⟨some 20, none, .q (.bin .neq (.t 19) (.c (.i .i64 0)))⟩])
    (.keep [0, 3, 4, 20]
    (.cond (.t 20) (.seq (.reg none [⟨some 21, none, .q (.mv (.t 4))⟩, ⟨some 22, none, .q (.bin .neq (.t 21) (.c (.i .i64 0)))⟩, ⟨some 23, none, .q (.mv (.t 22))⟩, ⟨some 24, some (23, true), .q (.mv (.t 3))⟩, ⟨some 25, some (23, true), .q (.bin .eql (.t 24) (.c (.i .i64 0)))⟩, ⟨some 26, none, .pk (.t 23) (.t 25) (.c (.b false))⟩, ⟨some 27, none, .q (.mv (.t 26))⟩, ⟨some 28, some (27, true), .call (.f 20) []⟩, ⟨some 29, none, .pk (.t 27) (.t 28) (.c (.b false))⟩, ⟨some 2, none, .q (.mv (.t 29))⟩])
      .ret)
    .skip)))
  (.seq (.reg none [⟨some 31, none, .q (.mv (.t 0))⟩, ⟨some 32, none, .call (.f 21) [(.t 31)]⟩, ⟨some 30, none, .q (.mv (.t 32))⟩, ⟨some 33, none, .q (.ext 0 (.t 30))⟩, ⟨some 34, none, .q (.ext 1 (.t 30))⟩, ⟨some 5, none, .q (.mv (.t 33))⟩, ⟨some 6, none, .q (.mv (.t 34))⟩])
  (.keep [0, 3, 4, 5, 6]
  (.seq (.seq (.reg none [⟨some 35, none, .q (.mv (.t 4))⟩, ⟨some 36, none, .q (.bin .neq (.t 35) (.c (.i .i64 0)))⟩, ⟨some 37, none, .q (.mv (.t 36))⟩, ⟨some 38, some (37, false), .q (.mv (.t 6))⟩, ⟨some 39, some (37, false), .q (.bin .neq (.t 38) (.c (.i .i64 0)))⟩, ⟨some 40, none, .pk (.t 37) (.c (.b true)) (.t 39)⟩, ⟨some 41, none, .q (.mv (.t 40))⟩, ⟨some 42, some (41, false), .q (.mv (.t 3))⟩, ⟨some 43, some (41, false), .q (.mv (.t 0))⟩, ⟨some 44, some (41, false), .q (.len false (.t 43))⟩, ⟨some 45, some (41, false), .q (.bin .gtr (.t 42) (.t 44))⟩, ⟨some 46, none, .pk (.t 41) (.c (.b true)) (.t 45)⟩, ⟨some 47, none, .q (.mv (.t 46))⟩, ⟨some 48, some (47, false), .q (.mv (.t 3))⟩, ⟨some 49, some (47, false), .q (.bin .lss (.t 48) (.c (.i .i64 1)))⟩, ⟨some 50, some (47, false), .q (.mv (.t 49))⟩, ⟨some 51, some (50, true), .q (.mv (.t 0))⟩, ⟨some 52, some (50, true), .q (.len false (.t 51))⟩, ⟨some 53, some (50, true), .q (.bin .gtr (.t 52) (.c (.i .i64 0)))⟩, ⟨some 54, some (47, false), .pk (.t 50) (.t 53) (.c (.b false))⟩, ⟨some 55, none, .pk (.t 47) (.c (.b true)) (.t 54)⟩])
    (.keep [0, 3, 5, 55]
    (.cond (.t 55) (.seq (.reg none [⟨some 2, none, .q (.mv (.c (.b false)))⟩])
      .ret)
    .skip)))
  (.seq (.reg none [⟨some 7, none, .m (.alloc (.g (reps 6 (.i .i64 0))))⟩])
  (.keep [0, 3, 5, 7]
  (.seq (.reg none [⟨some 56, none, .q (.mv (.t 0))⟩, ⟨some 57, none, .q (.len false (.t 56))⟩, ⟨some 58, none, .m (.mks 1 8 [(.i .i64 0)] (.t 57) (.t 57))⟩, ⟨some 8, none, .q (.mv (.t 58))⟩])
  (.keep [0, 3, 5, 7, 8]
  (.seq (.reg none [⟨some 9, none, .q (.mv (.c (.i .i64 0)))⟩])
  (.keep [0, 3, 5, 7, 8, 9]
  (.seq (.seq (.reg none [⟨some 10, none, .q (.mv (.c (.i .i64 0)))⟩])
    (.keep [0, 3, 5, 7, 8, 9, 10]
    (.blk 0 (.keep [0, 3, 5, 7, 8, 9, 10]
    (.loop (.fin [0, 3, 5, 7, 8, 9, 10]
      (.seq (.seq (.reg none [⟨some 59, none, .q (.mv (.t 10))⟩, ⟨some 60, none, .q (.mv (.t 0))⟩, ⟨some 61, none, .q (.len false (.t 60))⟩, ⟨some 62, none, .q (.bin .lss (.t 59) (.t 61))⟩])
        (.keep [0, 3, 5, 7, 8, 9, 10, 62]
        (.cond (.t 62) .skip
        (.exit 0))))
      (.seq (.blk 1 (.seq (.reg none [⟨some 65, none, .q (.mv (.t 0))⟩, ⟨some 66, none, .q (.mv (.t 10))⟩, ⟨some 67, none, .q (.ias 26 (.t 65) (.t 66))⟩, ⟨some 68, none, .q (.fa 0 (.t 67))⟩, ⟨some 69, none, .q (.ld none (.t 68))⟩, ⟨some 70, none, .q (.iaa 6 1 (.t 7) (.t 69))⟩, ⟨some 71, none, .q (.ld none (.t 70))⟩, ⟨some 72, none, .q (.bin .add (.t 71) (.c (.i .i64 1)))⟩, ⟨some 73, none, .q (.iaa 6 1 (.t 7) (.t 69))⟩, ⟨none, none, .m (.st 1 (.t 73) (.t 72))⟩])
        (.keep [0, 3, 5, 7, 8, 9, 10]
        (.seq (.reg none [⟨some 74, none, .q (.mv (.t 8))⟩, ⟨some 75, none, .q (.mv (.t 10))⟩, ⟨some 76, none, .q (.ias 1 (.t 74) (.t 75))⟩, ⟨none, none, .m (.st 1 (.t 76) (.c (.i .i64 1)))⟩])
        (.keep [0, 3, 5, 7, 8, 9, 10]
        (.seq (.seq (.reg none [⟨some 11, none, .q (.mv (.c (.i .i64 0)))⟩])
          (.keep [0, 3, 5, 7, 8, 9, 10, 11]
          (.blk 2 (.keep [0, 3, 5, 7, 8, 9, 10, 11]
          (.loop (.fin [0, 3, 5, 7, 8, 9, 10, 11]
            (.seq (.seq (.reg none [⟨some 77, none, .q (.mv (.t 11))⟩, ⟨some 78, none, .q (.mv (.t 5))⟩, ⟨some 79, none, .q (.len false (.t 78))⟩, ⟨some 80, none, .q (.bin .lss (.t 77) (.t 79))⟩])
              (.keep [0, 3, 5, 7, 8, 9, 10, 11, 80]
              (.cond (.t 80) .skip
              (.exit 2))))
            (.seq (.blk 3 (.seq (.reg (some (40, [])) [⟨some 83, none, .q (.mv (.t 5))⟩, ⟨some 84, none, .q (.mv (.t 11))⟩, ⟨some 85, none, .q (.ias 2 (.t 83) (.t 84))⟩, ⟨some 86, none, .q (.iaa 2 1 (.t 85) (.c (.i .i64 1)))⟩, ⟨some 87, none, .q (.ld none (.t 86))⟩, ⟨some 88, none, .q (.mv (.t 10))⟩, ⟨some 89, none, .q (.bin .eql (.t 87) (.t 88))⟩, ⟨some 90, none, .q (.mv (.t 89))⟩, ⟨some 91, some (90, true), .q (.mv (.t 5))⟩, ⟨some 92, some (90, true), .q (.mv (.t 11))⟩, ⟨some 93, some (90, true), .q (.ias 2 (.t 91) (.t 92))⟩, ⟨some 94, some (90, true), .q (.iaa 2 1 (.t 93) (.c (.i .i64 0)))⟩, ⟨some 95, some (90, true), .q (.ld none (.t 94))⟩, ⟨some 96, some (90, true), .q (.bin .geq (.t 95) (.c (.i .i64 0)))⟩, ⟨some 97, none, .pk (.t 90) (.t 96) (.c (.b false))⟩, ⟨some 98, none, .q (.mv (.t 97))⟩, ⟨some 99, some (98, true), .q (.mv (.t 5))⟩, ⟨some 100, some (98, true), .q (.mv (.t 11))⟩, ⟨some 101, some (98, true), .q (.ias 2 (.t 99) (.t 100))⟩, ⟨some 102, some (98, true), .q (.iaa 2 1 (.t 101) (.c (.i .i64 0)))⟩, ⟨some 103, some (98, true), .q (.ld none (.t 102))⟩, ⟨some 104, some (98, true), .q (.mv (.t 10))⟩, ⟨some 105, some (98, true), .q (.bin .lss (.t 103) (.t 104))⟩, ⟨some 106, none, .pk (.t 98) (.t 105) (.c (.b false))⟩, ⟨some 107, none, .q (.mv (.t 106))⟩, ⟨some 108, some (107, true), .q (.mv (.t 8))⟩, ⟨some 109, some (107, true), .q (.mv (.t 5))⟩, ⟨some 110, some (107, true), .q (.mv (.t 11))⟩, ⟨some 111, some (107, true), .q (.ias 2 (.t 109) (.t 110))⟩, ⟨some 112, some (107, true), .q (.iaa 2 1 (.t 111) (.c (.i .i64 0)))⟩, ⟨some 113, some (107, true), .q (.ld none (.t 112))⟩, ⟨some 114, some (107, true), .q (.ias 1 (.t 108) (.t 113))⟩, ⟨some 115, some (107, true), .q (.ld none (.t 114))⟩, ⟨some 116, some (107, true), .q (.bin .add (.t 115) (.c (.i .i64 1)))⟩, ⟨some 117, some (107, true), .q (.mv (.t 8))⟩, ⟨some 118, some (107, true), .q (.mv (.t 10))⟩, ⟨some 119, some (107, true), .q (.ias 1 (.t 117) (.t 118))⟩, ⟨some 120, some (107, true), .q (.ld none (.t 119))⟩, ⟨some 121, some (107, true), .q (.bin .gtr (.t 116) (.t 120))⟩, ⟨some 122, none, .pk (.t 107) (.t 121) (.c (.b false))⟩])
              (.keep [0, 3, 5, 7, 8, 9, 10, 11, 122]
              (.cond (.t 122) (.reg none [⟨some 123, none, .q (.mv (.t 8))⟩, ⟨some 124, none, .q (.mv (.t 10))⟩, ⟨some 125, none, .q (.mv (.t 8))⟩, ⟨some 126, none, .q (.mv (.t 5))⟩, ⟨some 127, none, .q (.mv (.t 11))⟩, ⟨some 128, none, .q (.ias 2 (.t 126) (.t 127))⟩, ⟨some 129, none, .q (.iaa 2 1 (.t 128) (.c (.i .i64 0)))⟩, ⟨some 130, none, .q (.ld none (.t 129))⟩, ⟨some 131, none, .q (.ias 1 (.t 125) (.t 130))⟩, ⟨some 132, none, .q (.ld none (.t 131))⟩, ⟨some 133, none, .q (.bin .add (.t 132) (.c (.i .i64 1)))⟩, ⟨some 134, none, .q (.ias 1 (.t 123) (.t 124))⟩, ⟨none, none, .m (.st 1 (.t 134) (.t 133))⟩])
              .skip))))
            (.keep [0, 3, 5, 7, 8, 9, 10, 11]
            (.reg none [⟨some 81, none, .q (.mv (.t 11))⟩, ⟨some 82, none, .q (.bin .add (.t 81) (.c (.i .i64 1)))⟩, ⟨some 11, none, .q (.mv (.t 82))⟩]))))))))))
        (.seq (.reg none [⟨some 135, none, .q (.mv (.t 8))⟩, ⟨some 136, none, .q (.mv (.t 10))⟩, ⟨some 137, none, .q (.ias 1 (.t 135) (.t 136))⟩, ⟨some 138, none, .q (.ld none (.t 137))⟩, ⟨some 139, none, .q (.mv (.t 9))⟩, ⟨some 140, none, .q (.bin .gtr (.t 138) (.t 139))⟩])
        (.keep [0, 3, 5, 7, 8, 9, 10, 140]
        (.cond (.t 140) (.reg none [⟨some 141, none, .q (.mv (.t 8))⟩, ⟨some 142, none, .q (.mv (.t 10))⟩, ⟨some 143, none, .q (.ias 1 (.t 141) (.t 142))⟩, ⟨some 144, none, .q (.ld none (.t 143))⟩, ⟨some 9, none, .q (.mv (.t 144))⟩])
        .skip)))))))))
      (.keep [0, 3, 5, 7, 8, 9, 10]
      (.reg none [⟨some 63, none, .q (.mv (.t 10))⟩, ⟨some 64, none, .q (.bin .add (.t 63) (.c (.i .i64 1)))⟩, ⟨some 10, none, .q (.mv (.t 64))⟩]))))))))))
  (.seq (.seq (.reg none [⟨some 12, none, .q (.mv (.c (.i .i64 0)))⟩])
    (.keep [3, 7, 9, 12]
    (.blk 4 (.keep [3, 7, 9, 12]
    (.loop (.fin [3, 7, 9, 12]
      (.seq (.seq (.reg none [⟨some 145, none, .q (.mv (.t 12))⟩, ⟨some 146, none, .q (.bin .lss (.t 145) (.c (.i .i64 6)))⟩])
        (.keep [3, 7, 9, 12, 146]
        (.cond (.t 146) .skip
        (.exit 4))))
      (.seq (.blk 5 (.seq (.reg none [⟨some 149, none, .q (.mv (.t 12))⟩, ⟨some 150, none, .q (.iaa 6 1 (.t 7) (.t 149))⟩, ⟨some 151, none, .q (.ld none (.t 150))⟩, ⟨some 152, none, .q (.mv (.t 3))⟩, ⟨some 153, none, .q (.bin .gtr (.t 151) (.t 152))⟩])
        (.keep [3, 7, 9, 12, 153]
        (.cond (.t 153) (.seq (.reg none [⟨some 2, none, .q (.mv (.c (.b false)))⟩])
          .ret)
        .skip))))
      (.keep [3, 7, 9, 12]
      (.reg none [⟨some 147, none, .q (.mv (.t 12))⟩, ⟨some 148, none, .q (.bin .add (.t 147) (.c (.i .i64 1)))⟩, ⟨some 12, none, .q (.mv (.t 148))⟩]))))))))))
  (.seq (.reg none [⟨some 154, none, .q (.mv (.t 9))⟩, ⟨some 155, none, .q (.mv (.t 3))⟩, ⟨some 156, none, .q (.bin .eql (.t 154) (.t 155))⟩, ⟨some 157, none, .q (.mv (.t 156))⟩, ⟨some 158, some (157, true), .call (.f 20) []⟩, ⟨some 159, none, .pk (.t 157) (.t 158) (.c (.b false))⟩, ⟨some 2, none, .q (.mv (.t 159))⟩])
  .ret)))))))))))))))))
theorem r5 : (Try.f5.body.bind (resC Try.prog Try.f5.ntmps)) = some (strip c5) := by kernel_rfl
theorem s5 : Try.f5.results.toList.mapM (resRes Try.prog) = some [.t 2] := by kernel_rfl
theorem high_wrong (t : List Ev) (ht : t.length < 1000000000000) (h0 : ¬ checkT t = 0) : PureS Try.prog 5 [.sl 26 (t.map Ev.row)] (.b true) := by
  refine fun_go hmx Try.func5 r5 s5 (by rw [Try.ntmps5]; simp) ?_
  unfold c5
  simp
  first
    | refine callk rfl Try.call24 (height_all t (by omega)) rfl ?_
    | refine callks rfl Try.call24 (height_all t (by omega)) rfl ?_
    | refine callq rfl Try.call24 (height_all t (by omega)) rfl ?_
    | refine callqe rfl Try.call24 (height_all t (by omega)) rfl ?_
  simp [h0]
  first
    | refine callk rfl Try.call22 (checkR_p t (by omega)) rfl ?_
    | refine callks rfl Try.call22 (checkR_p t (by omega)) rfl ?_
    | refine callq rfl Try.call22 (checkR_p t (by omega)) rfl ?_
    | refine callqe rfl Try.call22 (checkR_p t (by omega)) rfl ?_
  simp [h0]
  first
    | refine callkg rfl Try.call20 rfl (fun _ => speaks_p) (fun hG => by first | (simp; done) | (simp at hG; done) | simpa using hG) rfl ?_
    | refine callksg rfl Try.call20 rfl (fun _ => speaks_p) (fun hG => by first | (simp; done) | (simp at hG; done) | simpa using hG) rfl ?_
    | refine callqg rfl Try.call20 rfl (fun _ => speaks_p) (fun hG => by first | (simp; done) | (simp at hG; done) | simpa using hG) rfl ?_
  simp
theorem high_ok (t : List Ev) (h0 : checkT t = 0) : PureS Try.prog 5 [.sl 26 (t.map Ev.row)] (.b true) := by
  have h := good_of h0
  have hl := h.len
  have hE0 := edR_len (befT t) t.length t.length
  have hnn : t.length * t.length ≤ 256 * 256 := Nat.mul_le_mul hl hl
  have hmn := mostT_nn t t.length
  have hms := mostT_small t t.length
  have hmp := most_pos (t := t) (n := t.length)
  refine fun_go hmx Try.func5 r5 s5 (by rw [Try.ntmps5]; simp) ?_
  unfold c5
  simp
  first
    | refine callk rfl Try.call24 (height_all t (by omega)) rfl ?_
    | refine callks rfl Try.call24 (height_all t (by omega)) rfl ?_
    | refine callq rfl Try.call24 (height_all t (by omega)) rfl ?_
    | refine callqe rfl Try.call24 (height_all t (by omega)) rfl ?_
  simp [h0]
  first
    | refine callk rfl Try.call22 (checkR_p t (by omega)) rfl ?_
    | refine callks rfl Try.call22 (checkR_p t (by omega)) rfl ?_
    | refine callq rfl Try.call22 (checkR_p t (by omega)) rfl ?_
    | refine callqe rfl Try.call22 (checkR_p t (by omega)) rfl ?_
  simp [h0]
  first
    | refine callk rfl Try.call21 (edges_q t (by omega)) rfl ?_
    | refine callks rfl Try.call21 (edges_q t (by omega)) rfl ?_
    | refine callq rfl Try.call21 (edges_q t (by omega)) rfl ?_
    | refine callqe rfl Try.call21 (edges_q t (by omega)) rfl ?_
  simp [h0]
  have hm1 : mostT t t.length < 1 → t = [] := fun h1 => by
    apply Classical.byContradiction; intro hn
    have : 0 < t.length := List.length_pos_iff.2 hn
    have := hmp this; omega
  refine ⟨fun _ => ⟨hms, fun h1 => ⟨hms, h1⟩⟩, ⟨hms, hm1⟩, fun _ _ => ⟨⟨by omega, by omega⟩, ?_⟩⟩
  have hEm : ∀ e ∈ edR (befT t) t.length t.length, e.1 < e.2 ∧ e.2 < t.length := fun e he => by
    obtain ⟨i, j⟩ := e
    have := edR_mem.1 he
    exact ⟨this.2.1, this.2.2.1⟩
  have hEj := fun (j : Nat) (hj : j < t.length) => hE_all h hj
  generalize edR (befT t) t.length t.length = E at *
  refine go_while hmx 2 (fun (j : Nat) => [(9, .v (.i .i64 (mostT t j))), (10, .v (.i .i64 (j : Int)))]) (fun j => [.var (avs (AV.i .i64) (ownC t j)), .arr 0 1 (vrows ((hstC t j).map irow))]) (fun j => j ≤ t.length) (fun j => t.length - j) 0 rfl (by simp [mostT]) ?_ (by simp) (by simp) (by simp) (Nat.zero_le _) ?_
  · simp [hstC, hvL, vrows, irow, ownC, rk, avs, List.range_succ, reps]
  intro j hj
  by_cases hjl : j < t.length
  rotate_left
  · obtain rfl : j = t.length := by omega
    simp
    refine go_while hmx 2 (fun (g : Nat) => [(12, .v (.i .i64 (g : Int)))]) (fun _ => [.var (avs (AV.i .i64) (ownC t t.length)), .arr 0 1 (vrows ((hstC t t.length).map irow))]) (fun g => g ≤ 6) (fun g => 6 - g) 0 rfl (by simp) (by simp) (by simp) (by simp) (by simp) (Nat.zero_le _) ?_
    intro g hg
    by_cases hgl : g < 6
    · have hG : (g : Int) < 6 := by omega
      have hw : IntKind.i64.wrap ((g : Int) + 1) = (g : Int) + 1 := wrap_in (by omega) (by omega)
      have hrm := rk_most h g t.length (Nat.le_refl _)
      simp [hG, hgl, ownC_length, ownC_get, hrm]
      exact ⟨g + 1, by rw [hw]; rfl, by omega, by omega⟩
    · obtain rfl : g = 6 := by omega
      simp
      first
        | refine callkg rfl Try.call20 rfl (fun _ => speaks_p) (fun hG => by first | (simp; done) | (simp at hG; done) | simpa using hG) rfl ?_
        | refine callksg rfl Try.call20 rfl (fun _ => speaks_p) (fun hG => by first | (simp; done) | (simp at hG; done) | simpa using hG) rfl ?_
        | refine callqg rfl Try.call20 rfl (fun _ => speaks_p) (fun hG => by first | (simp; done) | (simp at hG; done) | simpa using hG) rfl ?_
      simp
  have hJ : (j : Int) < (t.length : Int) := by omega
  have hw : IntKind.i64.wrap ((j : Int) + 1) = (j : Int) + 1 := wrap_in (by omega) (by omega)
  have hCl := hstC_length (t := t) (j := j) hj
  have hj' : j < (hstC t j).length := by omega
  have hgo := h.go hjl
  obtain ⟨g, hg⟩ : ∃ g : Nat, (t.getD j default).go = (g : Int) := ⟨(t.getD j default).go.toNat, by omega⟩
  have hgn : goN t j = g := by unfold goN; omega
  have hgk : t.getD j default = t[j] := by rw [List.getD_eq_getElem?_getD, List.getElem?_eq_getElem hjl]; rfl
  rw [hg] at hgo
  simp only [Int.toNat_natCast] at hgo
  rw [hgk] at hg
  have hg6 : (g : Int) < 6 := by omega
  have hrl := rk_le t g j
  have hrn := rk_nn t g j
  have hw3 : IntKind.i64.wrap (rk t g j + 1) = rk t g j + 1 := wrap_in (by omega) (by omega)
  have hos := ownC_succ t j
  rw [hgn] at hos
  simp [hJ, hjl, hj', vrows_at, irow, hg, hg6, hgo, ownC_length, ownC_get, hw3]
  refine ⟨by omega, ?_⟩
  refine go_while hmx 2 (fun (k : Nat) => [(11, .v (.i .i64 (k : Int)))]) (fun k => [.var (avs (AV.i .i64) (ownC t (j + 1))), .arr 0 1 (vrows (((hstC t j).set j (hE t j (E.take k))).map irow))]) (fun k => k ≤ E.length) (fun k => E.length - k) 0 rfl (by simp) ?_ (by simp) (by simp) (by simp) (Nat.zero_le _) ?_
  · simp [hE, vrows, List.map_set, irow, hos]
  intro k hk
  have hat : ((hstC t j).set j (hE t j (E.take k)))[j]? = some (hE t j (E.take k)) := List.getElem?_set_self hj'
  have hlow : ∀ k', k' < j → ((hstC t j).set j (hE t j (E.take k)))[k']? = some (hvAt t k') := fun k' hk' => by
    have := hstJ_low (t := t) (c := 0) hk' (by omega)
    rw [hstJ, List.getElem?_set_ne (by omega)] at this
    rw [List.getElem?_set_ne (by omega), this]
  have hSl : ((hstC t j).set j (hE t j (E.take k))).length = t.length := by rw [List.length_set, hCl]
  have hss : ∀ x, ((hstC t j).set j (hE t j (E.take k))).set j x = (hstC t j).set j x := fun x => List.set_set ..
  have hsm := hE_small (t := t) (j := j) (l := E.take k) fun e he => (hEm e (List.mem_of_mem_take he)).1
  have hps := hE_pos t j (E.take k)
  obtain ⟨S, hS⟩ : ∃ S, (hstC t j).set j (hE t j (E.take k)) = S := ⟨_, rfl⟩
  rw [hS] at hat hlow hSl hss ⊢
  have hjS : j < S.length := by omega
  have hat' : S[j] = hE t j (E.take k) := by rw [List.getElem?_eq_getElem hjS] at hat; exact Option.some.inj hat
  by_cases hkl : k < E.length
  · have hK : (k : Int) < (E.length : Int) := by omega
    have hw2 : IntKind.i64.wrap ((k : Int) + 1) = (k : Int) + 1 := wrap_in (by omega) (by omega)
    have hst := hE_step (t := t) (j := j) (List.getElem?_eq_getElem hkl)
    have hem := hEm _ (List.getElem_mem hkl)
    obtain ⟨⟨a, b⟩, he⟩ : ∃ e, E[k] = e := ⟨_, rfl⟩
    rw [he] at hst hem
    simp only at hst hem
    obtain ⟨hab, hbn⟩ := hem
    have hvs := hvAt_small t a
    have hvp := hvAt_pos t a
    have hw4 : IntKind.i64.wrap (hvAt t a + 1) = hvAt t a + 1 := wrap_in (by omega) (by omega)
    have hms : ∀ x : Int, (List.map irow (hstC t j)).set j [AV.i .i64 x] = ((hstC t j).set j x).map irow := fun x => by simp [List.map_set, irow]
    by_cases hbj : b = j
    · subst hbj
      have haS : a < S.length := by omega
      have hSa := hlow a hab
      have hatl : a < t.length := by omega
      have hA : (a : Int) < (b : Int) := by omega
      have hAt : (a : Int) < (t.length : Int) := by omega
      have ha' : S[a] = hvAt t a := by have := hlow a hab; rw [List.getElem?_eq_getElem haS] at this; exact Option.some.inj this
      simp [hK, hkl, he, pnatR, vrows_at, hA, hAt, haS, hjS, ha', hat', hSa, hat, hw4, irow, hSl, hJ, hatl]
      refine ⟨hjl, fun hc => ⟨hjl, k + 1, by rw [hw2]; rfl, ?_, by omega, by omega⟩, fun hc => ⟨k + 1, by rw [hw2]; rfl, ?_, by omega, by omega⟩⟩
      · rw [hms, hst, if_pos rfl, show max (hE t b (E.take k)) (hvAt t a + 1) = hvAt t a + 1 by omega, ← hss]
        simp [vrows, List.map_set, irow]
      · rw [hms, hst, if_pos rfl, show max (hE t b (E.take k)) (hvAt t a + 1) = hE t b (E.take k) by omega, hS]
    · have hbj' : ¬ (b : Int) = (j : Int) := by omega
      have hSa : S[a]? = some (S[a]'(by omega)) := List.getElem?_eq_getElem _
      simp [hK, hkl, he, pnatR, vrows_at, hbj', hSa, irow, hat]
      refine ⟨k + 1, by rw [hw2]; rfl, ?_, by omega, by omega⟩
      rw [hms, hst, if_neg hbj, hS]
  · obtain rfl : k = E.length := by omega
    rw [List.take_length, hEj j hjl] at hS
    have hSn : S = hstC t (j + 1) := by rw [← hS, hstC_succ hjl]
    rw [List.take_length, hEj j hjl] at hat'
    simp [hjS, vrows_at, hat', irow]
    refine ⟨fun hc => ⟨j + 1, ⟨?_, by rw [hw]; rfl⟩, ⟨rfl, by rw [hSn]⟩, by omega, by omega⟩, fun hc => ⟨j + 1, ⟨?_, by rw [hw]; rfl⟩, ⟨rfl, by rw [hSn]⟩, by omega, by omega⟩⟩
    · rw [mostT]; omega
    · rw [mostT]; omega
theorem orderHigh (t : List Ev) (ht : t.length < 1000000000000) : PureS Try.prog 5 [.sl 26 (t.map Ev.row)] (.b true) := by
  by_cases h0 : checkT t = 0
  · exact high_ok t h0
  · exact high_wrong t ht h0
end Go.Sc.Or
