/- Chapter 13: Apply. No condition. -/
import Derived.Test.YtgipkikbefnokaaXCa
import Derived.Test.YtgipkikbefnokaaXOrU
set_option linter.constructorNameAsVariable false
namespace Go.Sc.Or
open Go Go.RowKit Go.Av Go.Proofs Go.Sc
set_option linter.unusedSimpArgs false
set_option linter.unusedVariables false
def c46 : ACode :=
  (.seq (.reg none [⟨some 4, none, .q (.mv (.c .nil))⟩, ⟨some 5, none, .q (.mv (.c (.i .i64 0)))⟩])
  (.keep [0, 1]
  (.seq (.seq (.reg none [⟨some 9, none, .q (.mv (.t 0))⟩, ⟨some 10, none, .call (.f 55) [(.t 9)]⟩, ⟨some 6, none, .q (.mv (.t 10))⟩])
    (.keep [0, 1, 6]
    (.seq (.reg none [⟨some 11, none, .q (.mv (.t 6))⟩, ⟨some 12, none, .q (.bin .neq (.t 11) (.c (.i .i64 0)))⟩])
    (.keep [0, 1, 6, 12]
    (.cond (.t 12) (.seq (.reg none [⟨some 13, none, .q (.mv (.t 6))⟩, ⟨some 4, none, .q (.mv (.c .nil))⟩, ⟨some 5, none, .q (.mv (.t 13))⟩])
      .ret)
    .skip)))))
  (.seq (.seq (.reg none [⟨some 15, none, .q (.mv (.t 0))⟩, ⟨some 16, none, .q (.mv (.t 1))⟩, ⟨some 17, none, .call (.f 48) [(.t 15), (.t 16)]⟩, ⟨some 14, none, .q (.mv (.t 17))⟩, ⟨some 18, none, .q (.ext 0 (.t 14))⟩, ⟨some 19, none, .q (.ext 1 (.t 14))⟩, ⟨some 7, none, .q (.mv (.t 18))⟩, ⟨some 8, none, .q (.mv (.t 19))⟩])
    (.keep [0, 1, 7, 8]
    (.seq (.reg none [⟨some 20, none, .q (.mv (.t 8))⟩, ⟨some 21, none, .q (.bin .neq (.t 20) (.c (.i .i64 0)))⟩, ⟨some 22, none, .q (.mv (.t 21))⟩, ⟨some 23, some (22, false), .q (.mv (.t 7))⟩, ⟨some 24, some (22, false), .q (.un .not (.t 23))⟩, ⟨some 25, none, .pk (.t 22) (.c (.b true)) (.t 24)⟩])
    (.keep [0, 1, 25]
    (.cond (.t 25) (.seq (.reg none [⟨some 4, none, .q (.mv (.c .nil))⟩, ⟨some 5, none, .q (.mv (.c (.i .i64 1)))⟩])
      .ret)
    .skip)))))
  (.seq (.reg none [⟨some 26, none, .q (.mv (.t 0))⟩, ⟨some 27, none, .q (.mv (.t 1))⟩, ⟨some 28, none, .call (.f 81) [(.t 26), (.t 27)]⟩, ⟨some 4, none, .q (.mv (.t 28))⟩, ⟨some 5, none, .q (.mv (.c (.i .i64 0)))⟩])
  .ret)))))
theorem r46 : (Try.f46.body.bind (resC Try.prog Try.f46.ntmps)) = some (strip c46) := by kernel_rfl
theorem s46 : Try.f46.results.toList.mapM (resRes Try.prog) = some [.t 4, .t 5] := by kernel_rfl
def linOk (t : List Ev) (l : List Int) : Bool := decide (listE t l = 0) && (decide (l.length = t.length ∧ l.Nodup) && linN t (l.map Int.toNat))
theorem linOk_iff {t : List Ev} (h0 : checkT t = 0) {l : List Int} : linOk t l = true ↔ l.length = t.length ∧ l.Nodup ∧ (∀ x ∈ l, 0 ≤ x ∧ x < (t.length : Int)) ∧ linN t (l.map Int.toNat) = true := by
  have hlen := (good_of h0).len
  unfold linOk
  rw [Bool.and_eq_true, Bool.and_eq_true, decide_eq_true_eq, decide_eq_true_eq]
  constructor
  · rintro ⟨h1, ⟨h2, h3⟩, h4⟩
    obtain ⟨_, _, _, m, rfl, hm⟩ := listE_ok h1
    refine ⟨h2, h3, fun x hx => ?_, h4⟩
    obtain ⟨n, rfl, hn⟩ := castL_of hx
    have := hm n hn
    omega
  · rintro ⟨h1, h2, h3, h4⟩
    refine ⟨?_, ⟨h1, h2⟩, h4⟩
    unfold listE
    rw [if_pos h0, if_neg (by omega)]
    exact ask_right h0 h3
def appE (t : List Ev) (l : List Int) : Int := if checkT t = 0 then (if linOk t l then 0 else 1) else checkT t
def appR (t : List Ev) (l : List Int) : AV := .tup [if appE t l = 0 then .sl 26 ((laidN t (l.map Int.toNat)).map Ev.row) else .nil, .i .i64 (appE t l)]
theorem apply_p (t : List Ev) (ht : t.length < 1000000000000) (l : List Int) (hl : l.length < 100000000000000) : PureS Try.prog 46 [.sl 26 (t.map Ev.row), .sl 1 (l.map irow)] (appR t l) := by
  unfold appR appE
  refine fun_go hmx Try.func46 r46 s46 (by rw [Try.ntmps46]; simp) ?_
  unfold c46
  simp
  first
    | refine callk rfl Try.call55 (check_p t (by omega)) rfl ?_
    | refine callks rfl Try.call55 (check_p t (by omega)) rfl ?_
    | refine callq rfl Try.call55 (check_p t (by omega)) rfl ?_
    | refine callqe rfl Try.call55 (check_p t (by omega)) rfl ?_
  by_cases h0 : checkT t = 0
  rotate_left
  · simp [h0]
  have hlen := (good_of h0).len
  simp [h0]
  first
    | refine callk rfl Try.call48 (linear_all t (by omega) l hl) rfl ?_
    | refine callks rfl Try.call48 (linear_all t (by omega) l hl) rfl ?_
    | refine callq rfl Try.call48 (linear_all t (by omega) l hl) rfl ?_
    | refine callqe rfl Try.call48 (linear_all t (by omega) l hl) rfl ?_
  by_cases hok : linOk t l = true
  · obtain ⟨h1, h2, h3, h4⟩ := (linOk_iff h0).1 hok
    have hE : listE t l = 0 := by
      unfold linOk at hok
      rw [Bool.and_eq_true, decide_eq_true_eq] at hok
      exact hok.1
    obtain ⟨_, _, _, m, rfl, hm⟩ := listE_ok hE
    have hcl : (castL m).length = m.length := by simp [castL]
    have hml : m.length = t.length := by omega
    have hrow : (castL m).map irow = m.map nrow := by simp [castL, List.map_map, Function.comp_def]
    rw [castL_nat] at h4
    simp [hok, hE, hcl, hml, h2, castL_nat, h4]
    rw [hrow]
    first
      | refine callk rfl Try.call81 (laid_p t m (by omega) hm) rfl ?_
      | refine callks rfl Try.call81 (laid_p t m (by omega) hm) rfl ?_
      | refine callq rfl Try.call81 (laid_p t m (by omega) hm) rfl ?_
      | refine callqe rfl Try.call81 (laid_p t m (by omega) hm) rfl ?_
    simp
  · have hokf : linOk t l = false := by simpa using hok
    unfold linOk at hokf
    by_cases hE : listE t l = 0
    · by_cases hp : l.length = t.length ∧ l.Nodup
      · have hl4 : linN t (l.map Int.toNat) = false := by simpa [hE, hp] using hokf
        simp [hok, hE, hp.1, hp.2, hl4]
      · have hp2 : (decide (l.length = t.length) && decide l.Nodup) = false := by rw [← Bool.decide_and]; exact decide_eq_false hp
        simp [hok, hE, hp, hp2]
    · simp [hok, hE]
end Go.Sc.Or
