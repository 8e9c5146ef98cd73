/- Chapter 12: the laws of clocks, of what is asked. No condition. -/
import Derived.Test.YtgipkikbefnokaaXOrM
set_option linter.constructorNameAsVariable false
namespace Go.Sc.Or
open Go Go.RowKit Go.Av Go.Proofs Go.Sc
set_option linter.unusedSimpArgs false
set_option linter.unusedVariables false
theorem fitA_i : ∀ {n : Nat} {a b : List Int}, a.length = n → b.length = n → fitA (reps n .i) (ags (AV.i .i64) a) (ags (AV.i .i64) b)
  | 0, a, b, ha, hb => by obtain rfl := List.eq_nil_of_length_eq_zero ha; obtain rfl := List.eq_nil_of_length_eq_zero hb; simp [reps, ags, fitA]
  | 1, [x], [y], _, _ => by simp [reps, ags, fitA, fitA1]
  | n + 2, x :: x2 :: a, y :: y2 :: b, ha, hb => by
    have := fitA_i (n := n + 1) (a := x2 :: a) (b := y2 :: b) (by simpa using ha) (by simpa using hb)
    simp only [reps, ags, List.replicate_succ, List.map_cons] at this ⊢
    simp only [fitA, fitA1, true_and]
    exact this
theorem eqA_i : ∀ {n : Nat} {a b : List Int}, a.length = n → b.length = n → eqA (reps n .i) (ags (AV.i .i64) a) (ags (AV.i .i64) b) = decide (a = b)
  | 0, a, b, ha, hb => by obtain rfl := List.eq_nil_of_length_eq_zero ha; obtain rfl := List.eq_nil_of_length_eq_zero hb; simp [reps, ags, eqA]
  | 1, [x], [y], _, _ => by simp [reps, ags, eqA, eqA1]; rfl
  | n + 2, x :: x2 :: a, y :: y2 :: b, ha, hb => by
    have := eqA_i (n := n + 1) (a := x2 :: a) (b := y2 :: b) (by simpa using ha) (by simpa using hb)
    simp only [reps, ags, List.replicate_succ, List.map_cons] at this ⊢
    simp only [eqA, eqA1, this]
    by_cases h : x = y <;> simp [h]
theorem take_ags {α : Type} {f : α → AV} {m : List α} {n : Nat} (h : m.length ≤ n) : (ags f m).take n = ags f m := List.take_of_length_le (by simpa using h)
theorem clk_list {t : List Ev} (h : Good t) : (List.range t.length).map (fun j => cntC t (befT t) j t.length) = clk t t.length := by
  apply List.ext_getElem (by simp)
  intro j h1 h2
  have hj : j < t.length := by simpa using h1
  simp only [List.getElem_map, List.getElem_range]
  rw [cnt_all h hj, ← clk_get t hj, List.getD_eq_getElem?_getD, List.getElem?_eq_getElem h2]; rfl
theorem clocksR_q (t : List Ev) (h : Good t) : PureS Try.prog 29 [.sl 26 (t.map Ev.row)] (.sl 6 ((clk t t.length).map crow)) := by
  have := clocksR_p t h
  rw [clk_list h] at this
  exact this
theorem edges_q (t : List Ev) (ht : t.length < 4611686018427387904) : PureS Try.prog 21 [.sl 26 (t.map Ev.row)] (.tup [if checkT t = 0 then .sl 2 ((edR (befT t) t.length t.length).map pnatR) else .nil, .i .i64 (checkT t)]) := by
  have h1 := edges_all t ht
  by_cases h0 : checkT t = 0
  · rw [if_pos h0] at h1 ⊢
    rw [edges_list (good_of h0), List.map_map] at h1
    exact h1
  · rw [if_neg h0] at h1 ⊢
    exact h1
theorem lasts_q (t : List Ev) (ht : t.length < 4611686018427387904) : PureS Try.prog 28 [.sl 26 (t.map Ev.row)] (.tup [if checkT t = 0 then .sl 1 (((selTo (fun i => noneTo (befT t) i t.length) t.length).map fun n : Nat => (n : Int)).map irow) else .nil, .i .i64 (checkT t)]) := by
  have := lasts_all t ht
  rw [lasts_eq] at this
  rw [List.map_map]
  exact this
theorem lastsR_q (t : List Ev) (h : Good t) : PureS Try.prog 32 [.sl 26 (t.map Ev.row)] (.sl 1 (((selTo (fun i => noneTo (befT t) i t.length) t.length).map fun n : Nat => (n : Int)).map irow)) := by
  have := lastsR_p t h
  rw [List.map_map]
  exact this
/-- scarab/scarablaw12.OrderClocks -/
def c8 : ACode :=
  (.seq (.reg none [⟨some 2, none, .q (.mv (.c (.b false)))⟩])
  (.keep [0]
  (.seq (.reg none [⟨some 17, none, .q (.mv (.t 0))⟩, ⟨some 18, none, .call (.f 25) [(.t 17)]⟩, ⟨some 16, none, .q (.mv (.t 18))⟩, ⟨some 19, none, .q (.ext 0 (.t 16))⟩, ⟨some 20, none, .q (.ext 1 (.t 16))⟩, ⟨some 3, none, .q (.mv (.t 19))⟩, ⟨some 4, none, .q (.mv (.t 20))⟩])
  (.keep [0, 3, 4]
  (.seq (.reg none [⟨some 22, none, .q (.mv (.t 0))⟩, ⟨some 23, none, .call (.f 21) [(.t 22)]⟩, ⟨some 21, none, .q (.mv (.t 23))⟩, ⟨some 24, none, .q (.ext 0 (.t 21))⟩, ⟨some 25, none, .q (.ext 1 (.t 21))⟩, ⟨some 5, none, .q (.mv (.t 24))⟩, ⟨some 6, none, .q (.mv (.t 25))⟩])
  (.keep [0, 3, 4, 5, 6]
  (.seq (.reg none [⟨some 27, none, .q (.mv (.t 0))⟩, ⟨some 28, none, .call (.f 28) [(.t 27)]⟩, ⟨some 26, none, .q (.mv (.t 28))⟩, ⟨some 29, none, .q (.ext 0 (.t 26))⟩, ⟨some 30, none, .q (.ext 1 (.t 26))⟩, ⟨some 7, none, .q (.mv (.t 29))⟩, ⟨some 8, none, .q (.mv (.t 30))⟩])
  (.keep [0, 3, 4, 5, 6, 7, 8]
  (.seq (.reg none [⟨some 32, none, .q (.mv (.t 0))⟩, ⟨some 33, none, .call (.f 24) [(.t 32)]⟩, ⟨some 31, none, .q (.mv (.t 33))⟩, ⟨some 34, none, .q (.ext 0 (.t 31))⟩, ⟨some 35, none, .q (.ext 1 (.t 31))⟩, ⟨some 9, none, .q (.mv (.t 34))⟩, ⟨some 10, none, .q (.mv (.t 35))⟩])
  (.keep [0, 3, 4, 5, 6, 7, 8, 9, 10]
  (.seq (.reg none [⟨some 36, none, .q (.mv (.t 0))⟩, ⟨some 37, none, .call (.f 22) [(.t 36)]⟩, ⟨some 11, none, .q (.mv (.t 37))⟩])
  (.keep [0, 3, 4, 5, 6, 7, 8, 9, 10, 11]
  (.seq (.seq (.reg none [⟨some 38, none, .q (.mv (.t 4))⟩, ⟨some 39, none, .q (.mv (.t 11))⟩, ⟨some 40, none, .q (.bin .neq (.t 38) (.t 39))⟩, ⟨some 41, none, .q (.mv (.t 40))⟩, ⟨some 42, some (41, false), .q (.mv (.t 6))⟩, ⟨some 43, some (41, false), .q (.mv (.t 11))⟩, ⟨some 44, some (41, false), .q (.bin .neq (.t 42) (.t 43))⟩, ⟨some 45, none, .pk (.t 41) (.c (.b true)) (.t 44)⟩, ⟨some 46, none, .q (.mv (.t 45))⟩, ⟨some 47, some (46, false), .q (.mv (.t 8))⟩, ⟨some 48, some (46, false), .q (.mv (.t 11))⟩, ⟨some 49, some (46, false), .q (.bin .neq (.t 47) (.t 48))⟩, ⟨some 50, none, .pk (.t 46) (.c (.b true)) (.t 49)⟩, ⟨some 51, none, .q (.mv (.t 50))⟩, ⟨some 52, some (51, false), .q (.mv (.t 10))⟩, ⟨some 53, some (51, false), .q (.mv (.t 11))⟩, ⟨some 54, some (51, false), .q (.bin .neq (.t 52) (.t 53))⟩, ⟨some 55, none, .pk (.t 51) (.c (.b true)) (.t 54)⟩, ⟨some 56, none, .q (.mv (.t 55))⟩, ⟨some 57, some (56, false), .call (.f 20) []⟩, ⟨some 58, some (56, false), .q (.un .not (.t 57))⟩, ⟨some 59, none, .pk (.t 56) (.c (.b true)) (.t 58)⟩])
    (.keep [0, 3, 5, 7, 9, 11, 59]
    (.cond (.t 59) (.seq (.reg none [⟨some 2, none, .q (.mv (.c (.b false)))⟩])
      .ret)
    .skip)))
  (.seq (.seq (.reg none [⟨some 60, none, .q (.mv (.t 11))⟩, ⟨some 61, none, .q (.bin .neq (.t 60) (.c (.i .i64 0)))⟩])
    (.keep [0, 3, 5, 7, 9, 61]
    (.cond (.t 61) (.seq (.reg none [⟨some 62, none, .q (.mv (.t 3))⟩, ⟨some 63, none, .q (.len false (.t 62))⟩, ⟨some 64, none, .q (.bin .eql (.t 63) (.c (.i .i64 0)))⟩, ⟨some 65, none, .q (.mv (.t 64))⟩, ⟨some 66, some (65, true), .q (.mv (.t 5))⟩, ⟨some 67, some (65, true), .q (.len false (.t 66))⟩, ⟨some 68, some (65, true), .q (.bin .eql (.t 67) (.c (.i .i64 0)))⟩, ⟨some 69, none, .pk (.t 65) (.t 68) (.c (.b false))⟩, ⟨some 70, none, .q (.mv (.t 69))⟩, ⟨some 71, some (70, true), .q (.mv (.t 7))⟩, ⟨some 72, some (70, true), .q (.len false (.t 71))⟩, ⟨some 73, some (70, true), .q (.bin .eql (.t 72) (.c (.i .i64 0)))⟩, ⟨some 74, none, .pk (.t 70) (.t 73) (.c (.b false))⟩, ⟨some 75, none, .q (.mv (.t 74))⟩, ⟨some 76, some (75, true), .q (.mv (.t 9))⟩, ⟨some 77, some (75, true), .q (.bin .eql (.t 76) (.c (.i .i64 0)))⟩, ⟨some 78, none, .pk (.t 75) (.t 77) (.c (.b false))⟩, ⟨some 2, none, .q (.mv (.t 78))⟩])
      .ret)
    .skip)))
  (.seq (.reg none [⟨some 79, none, .q (.mv (.t 0))⟩, ⟨some 80, none, .call (.f 29) [(.t 79)]⟩, ⟨some 81, none, .q (.mv (.t 0))⟩, ⟨some 82, none, .call (.f 30) [(.t 81)]⟩, ⟨some 12, none, .q (.mv (.t 80))⟩, ⟨some 13, none, .q (.mv (.t 82))⟩])
  (.keep [0, 3, 5, 7, 9, 12, 13]
  (.seq (.seq (.reg none [⟨some 83, none, .q (.mv (.t 3))⟩, ⟨some 84, none, .q (.len false (.t 83))⟩, ⟨some 85, none, .q (.mv (.t 12))⟩, ⟨some 86, none, .q (.len false (.t 85))⟩, ⟨some 87, none, .q (.bin .neq (.t 84) (.t 86))⟩, ⟨some 88, none, .q (.mv (.t 87))⟩, ⟨some 89, some (88, false), .q (.mv (.t 5))⟩, ⟨some 90, some (88, false), .q (.len false (.t 89))⟩, ⟨some 91, some (88, false), .q (.mv (.t 13))⟩, ⟨some 92, some (88, false), .q (.len false (.t 91))⟩, ⟨some 93, some (88, false), .q (.bin .neq (.t 90) (.t 92))⟩, ⟨some 94, none, .pk (.t 88) (.c (.b true)) (.t 93)⟩])
    (.keep [0, 3, 5, 7, 9, 12, 13, 94]
    (.cond (.t 94) (.seq (.reg none [⟨some 2, none, .q (.mv (.c (.b false)))⟩])
      .ret)
    .skip)))
  (.seq (.seq (.reg none [⟨some 14, none, .q (.mv (.c (.i .i64 0)))⟩])
    (.keep [0, 3, 5, 7, 9, 12, 13, 14]
    (.blk 0 (.keep [0, 3, 5, 7, 9, 12, 13, 14]
    (.loop (.fin [0, 3, 5, 7, 9, 12, 13, 14]
      (.seq (.seq (.reg none [⟨some 95, none, .q (.mv (.t 14))⟩, ⟨some 96, none, .q (.mv (.t 3))⟩, ⟨some 97, none, .q (.len false (.t 96))⟩, ⟨some 98, none, .q (.bin .lss (.t 95) (.t 97))⟩])
        (.keep [0, 3, 5, 7, 9, 12, 13, 14, 98]
        (.cond (.t 98) .skip
        (.exit 0))))
      (.seq (.blk 1 (.seq (.reg (some (9, [])) [⟨some 101, none, .q (.mv (.t 3))⟩, ⟨some 102, none, .q (.mv (.t 14))⟩, ⟨some 103, none, .q (.ias 6 (.t 101) (.t 102))⟩, ⟨some 104, none, .q (.ld (some 6) (.t 103))⟩, ⟨some 105, none, .q (.mv (.t 12))⟩, ⟨some 106, none, .q (.mv (.t 14))⟩, ⟨some 107, none, .q (.ias 6 (.t 105) (.t 106))⟩, ⟨some 108, none, .q (.ld (some 6) (.t 107))⟩, ⟨some 109, none, .q (.eqg true (reps 6 .i) (.t 104) (.t 108))⟩])
        (.keep [0, 3, 5, 7, 9, 12, 13, 14, 109]
        (.cond (.t 109) (.seq (.reg none [⟨some 2, none, .q (.mv (.c (.b false)))⟩])
          .ret)
        .skip))))
      (.keep [0, 3, 5, 7, 9, 12, 13, 14]
      (.reg none [⟨some 99, none, .q (.mv (.t 14))⟩, ⟨some 100, none, .q (.bin .add (.t 99) (.c (.i .i64 1)))⟩, ⟨some 14, none, .q (.mv (.t 100))⟩]))))))))))
  (.seq (.seq (.reg none [⟨some 15, none, .q (.mv (.c (.i .i64 0)))⟩])
    (.keep [0, 5, 7, 9, 13, 15]
    (.blk 2 (.keep [0, 5, 7, 9, 13, 15]
    (.loop (.fin [0, 5, 7, 9, 13, 15]
      (.seq (.seq (.reg none [⟨some 110, none, .q (.mv (.t 15))⟩, ⟨some 111, none, .q (.mv (.t 5))⟩, ⟨some 112, none, .q (.len false (.t 111))⟩, ⟨some 113, none, .q (.bin .lss (.t 110) (.t 112))⟩])
        (.keep [0, 5, 7, 9, 13, 15, 113]
        (.cond (.t 113) .skip
        (.exit 2))))
      (.seq (.blk 3 (.seq (.reg (some (9, [])) [⟨some 116, none, .q (.mv (.t 5))⟩, ⟨some 117, none, .q (.mv (.t 15))⟩, ⟨some 118, none, .q (.ias 2 (.t 116) (.t 117))⟩, ⟨some 119, none, .q (.ld (some 2) (.t 118))⟩, ⟨some 120, none, .q (.mv (.t 13))⟩, ⟨some 121, none, .q (.mv (.t 15))⟩, ⟨some 122, none, .q (.ias 2 (.t 120) (.t 121))⟩, ⟨some 123, none, .q (.ld (some 2) (.t 122))⟩, ⟨some 124, none, .q (.eqg true [.i, .i] (.t 119) (.t 123))⟩])
        (.keep [0, 5, 7, 9, 13, 15, 124]
        (.cond (.t 124) (.seq (.reg none [⟨some 2, none, .q (.mv (.c (.b false)))⟩])
          .ret)
        .skip))))
      (.keep [0, 5, 7, 9, 13, 15]
      (.reg none [⟨some 114, none, .q (.mv (.t 15))⟩, ⟨some 115, none, .q (.bin .add (.t 114) (.c (.i .i64 1)))⟩, ⟨some 15, none, .q (.mv (.t 115))⟩]))))))))))
  (.seq (.reg none [⟨some 125, none, .q (.mv (.t 7))⟩, ⟨some 126, none, .q (.mv (.t 0))⟩, ⟨some 127, none, .call (.f 32) [(.t 126)]⟩, ⟨some 128, none, .call (.f 31) [(.t 125), (.t 127)]⟩, ⟨some 129, none, .q (.mv (.t 128))⟩, ⟨some 130, some (129, true), .q (.mv (.t 9))⟩, ⟨some 131, some (129, true), .q (.mv (.t 0))⟩, ⟨some 132, some (129, true), .call (.f 33) [(.t 131)]⟩, ⟨some 133, some (129, true), .q (.bin .eql (.t 130) (.t 132))⟩, ⟨some 134, none, .pk (.t 129) (.t 133) (.c (.b false))⟩, ⟨some 2, none, .q (.mv (.t 134))⟩])
  .ret))))))))))))))))))))
theorem r8 : (Try.f8.body.bind (resC Try.prog Try.f8.ntmps)) = some (strip c8) := by kernel_rfl
theorem s8 : Try.f8.results.toList.mapM (resRes Try.prog) = some [.t 2] := by kernel_rfl
theorem orderClocks (t : List Ev) (ht : t.length < 1000000000000) : PureS Try.prog 8 [.sl 26 (t.map Ev.row)] (.b true) := by
  refine fun_go hmx Try.func8 r8 s8 (by rw [Try.ntmps8]; simp) ?_
  unfold c8
  simp
  first
    | refine callk rfl Try.call25 (clocks_all t (by omega)) rfl ?_
    | refine callks rfl Try.call25 (clocks_all t (by omega)) rfl ?_
    | refine callq rfl Try.call25 (clocks_all t (by omega)) rfl ?_
    | refine callqe rfl Try.call25 (clocks_all t (by omega)) rfl ?_
  simp
  first
    | refine callk rfl Try.call21 (edges_q t (by omega)) rfl ?_
    | refine callks rfl Try.call21 (edges_q t (by omega)) rfl ?_
    | refine callq rfl Try.call21 (edges_q t (by omega)) rfl ?_
    | refine callqe rfl Try.call21 (edges_q t (by omega)) rfl ?_
  simp
  first
    | refine callk rfl Try.call28 (lasts_q t (by omega)) rfl ?_
    | refine callks rfl Try.call28 (lasts_q t (by omega)) rfl ?_
    | refine callq rfl Try.call28 (lasts_q t (by omega)) rfl ?_
    | refine callqe rfl Try.call28 (lasts_q t (by omega)) rfl ?_
  simp [-List.map_map]
  first
    | refine callk rfl Try.call24 (height_all t (by omega)) rfl ?_
    | refine callks rfl Try.call24 (height_all t (by omega)) rfl ?_
    | refine callq rfl Try.call24 (height_all t (by omega)) rfl ?_
    | refine callqe rfl Try.call24 (height_all t (by omega)) rfl ?_
  simp [-List.map_map]
  first
    | refine callk rfl Try.call22 (checkR_p t (by omega)) rfl ?_
    | refine callks rfl Try.call22 (checkR_p t (by omega)) rfl ?_
    | refine callq rfl Try.call22 (checkR_p t (by omega)) rfl ?_
    | refine callqe rfl Try.call22 (checkR_p t (by omega)) rfl ?_
  simp [-List.map_map]
  first
    | refine callkg rfl Try.call20 rfl (fun _ => speaks_p) (fun hG => by first | (simp; done) | (simp at hG; done) | simpa using hG) rfl ?_
    | refine callksg rfl Try.call20 rfl (fun _ => speaks_p) (fun hG => by first | (simp; done) | (simp at hG; done) | simpa using hG) rfl ?_
    | refine callqg rfl Try.call20 rfl (fun _ => speaks_p) (fun hG => by first | (simp; done) | (simp at hG; done) | simpa using hG) rfl ?_
  simp [-List.map_map]
  by_cases h0 : checkT t = 0
  rotate_left
  · simp [h0]
  have h := good_of h0
  have hl := h.len
  simp [h0, -List.map_map]
  first
    | refine callk rfl Try.call29 (clocksR_q t h) rfl ?_
    | refine callks rfl Try.call29 (clocksR_q t h) rfl ?_
    | refine callq rfl Try.call29 (clocksR_q t h) rfl ?_
    | refine callqe rfl Try.call29 (clocksR_q t h) rfl ?_
  simp [-List.map_map]
  first
    | refine callk rfl Try.call30 (edgesR_p t h) rfl ?_
    | refine callks rfl Try.call30 (edgesR_p t h) rfl ?_
    | refine callq rfl Try.call30 (edgesR_p t h) rfl ?_
    | refine callqe rfl Try.call30 (edgesR_p t h) rfl ?_
  simp [-List.map_map]
  have hcl : (clk t t.length).length = t.length := by simp
  have hc6 : ∀ (i : Nat) (hi : i < (clk t t.length).length), ((clk t t.length)[i]).length = 6 := fun i hi => by
    have := clk_get t (n := t.length) (i := i) (by omega)
    rw [List.getD_eq_getElem?_getD, List.getElem?_eq_getElem hi] at this
    have h2 := clkAt_length t i
    rw [← this] at h2; exact h2
  have hel := edR_len (befT t) t.length t.length
  have hnn : t.length * t.length ≤ 256 * 256 := Nat.mul_le_mul hl hl
  generalize clk t t.length = C at *
  generalize edR (befT t) t.length t.length = E at *
  refine go_while hmx 0 (fun (k : Nat) => [(14, .v (.i .i64 (k : Int)))]) (fun _ => []) (fun k => k ≤ C.length) (fun k => C.length - k) 0 rfl (by simp) rfl (by simp) (by simp) (by simp) (Nat.zero_le _) ?_
  intro k hk
  by_cases hkl : k < C.length
  · have hI : (k : Int) < (C.length : Int) := by omega
    have hw : IntKind.i64.wrap ((k : Int) + 1) = (k : Int) + 1 := wrap_in (by omega) (by omega)
    have h6 := hc6 k hkl
    simp [hI, hkl, h6, crow, take_ags, eqA_i, fitA_i, -List.map_map]
    exact ⟨k + 1, by rw [hw]; rfl, by omega, by omega⟩
  · obtain rfl : k = C.length := by omega
    simp [-List.map_map]
    refine go_while hmx 0 (fun (k : Nat) => [(15, .v (.i .i64 (k : Int)))]) (fun _ => []) (fun k => k ≤ E.length) (fun k => E.length - k) 0 rfl (by simp) rfl (by simp) (by simp) (by simp) (Nat.zero_le _) ?_
    intro k hk
    by_cases hkl : k < E.length
    · have hI : (k : Int) < (E.length : Int) := by omega
      have hw : IntKind.i64.wrap ((k : Int) + 1) = (k : Int) + 1 := wrap_in (by omega) (by omega)
      simp [hI, hkl, pnatR, -List.map_map]
      exact ⟨k + 1, by rw [hw]; rfl, by omega, by omega⟩
    · obtain rfl : k = E.length := by omega
      simp [-List.map_map]
      first
        | refine callk rfl Try.call32 (lastsR_q t h) rfl ?_
        | refine callks rfl Try.call32 (lastsR_q t h) rfl ?_
        | refine callq rfl Try.call32 (lastsR_q t h) rfl ?_
        | refine callqe rfl Try.call32 (lastsR_q t h) rfl ?_
      simp [-List.map_map]
      first
        | refine callk rfl Try.call31 (same_ints ((selTo (fun i => noneTo (befT t) i t.length) t.length).map fun n : Nat => (n : Int)) _ (by have := selTo_len (fun i => noneTo (befT t) i t.length) t.length; rw [List.length_map]; omega)) rfl ?_
        | refine callks rfl Try.call31 (same_ints ((selTo (fun i => noneTo (befT t) i t.length) t.length).map fun n : Nat => (n : Int)) _ (by have := selTo_len (fun i => noneTo (befT t) i t.length) t.length; rw [List.length_map]; omega)) rfl ?_
        | refine callq rfl Try.call31 (same_ints ((selTo (fun i => noneTo (befT t) i t.length) t.length).map fun n : Nat => (n : Int)) _ (by have := selTo_len (fun i => noneTo (befT t) i t.length) t.length; rw [List.length_map]; omega)) rfl ?_
        | refine callqe rfl Try.call31 (same_ints ((selTo (fun i => noneTo (befT t) i t.length) t.length).map fun n : Nat => (n : Int)) _ (by have := selTo_len (fun i => noneTo (befT t) i t.length) t.length; rw [List.length_map]; omega)) rfl ?_
      simp [-List.map_map]
      first
        | refine callkg rfl Try.call33 rfl (fun _ => (heightR_p t h)) (fun hG => by first | (simp; done) | (simp at hG; done) | simpa using hG) rfl ?_
        | refine callksg rfl Try.call33 rfl (fun _ => (heightR_p t h)) (fun hG => by first | (simp; done) | (simp at hG; done) | simpa using hG) rfl ?_
        | refine callqg rfl Try.call33 rfl (fun _ => (heightR_p t h)) (fun hG => by first | (simp; done) | (simp at hG; done) | simpa using hG) rfl ?_
      simp
end Go.Sc.Or
