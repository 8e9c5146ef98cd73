/- Chapter 12: the laws of lists of places. No condition. -/
import Derived.Test.YtgipkikbefnokaaXOrW
set_option linter.constructorNameAsVariable false
namespace Go.Sc.Or
open Go Go.RowKit Go.Av Go.Proofs Go.Sc Go.Shelf Go.Sort Go.Sc.Srt
set_option linter.unusedSimpArgs false
set_option linter.unusedVariables false
/-- scarab/scarablaw12.OrderLists -/
def c15 : ACode :=
  (.seq (.reg none [⟨some 4, none, .q (.mv (.c (.b false)))⟩])
  (.keep [0, 1]
  (.seq (.reg none [⟨some 19, none, .q (.mv (.t 0))⟩, ⟨some 20, none, .q (.mv (.t 1))⟩, ⟨some 21, none, .call (.f 48) [(.t 19), (.t 20)]⟩, ⟨some 18, none, .q (.mv (.t 21))⟩, ⟨some 22, none, .q (.ext 0 (.t 18))⟩, ⟨some 23, none, .q (.ext 1 (.t 18))⟩, ⟨some 5, none, .q (.mv (.t 22))⟩, ⟨some 6, none, .q (.mv (.t 23))⟩])
  (.keep [0, 1, 5, 6]
  (.seq (.reg none [⟨some 25, none, .q (.mv (.t 0))⟩, ⟨some 26, none, .q (.mv (.t 1))⟩, ⟨some 27, none, .call (.f 50) [(.t 25), (.t 26)]⟩, ⟨some 24, none, .q (.mv (.t 27))⟩, ⟨some 28, none, .q (.ext 0 (.t 24))⟩, ⟨some 29, none, .q (.ext 1 (.t 24))⟩, ⟨some 7, none, .q (.mv (.t 28))⟩, ⟨some 8, none, .q (.mv (.t 29))⟩])
  (.keep [0, 1, 5, 6, 7, 8]
  (.seq (.reg none [⟨some 31, none, .q (.mv (.t 0))⟩, ⟨some 32, none, .q (.mv (.t 1))⟩, ⟨some 33, none, .call (.f 51) [(.t 31), (.t 32)]⟩, ⟨some 30, none, .q (.mv (.t 33))⟩, ⟨some 34, none, .q (.ext 0 (.t 30))⟩, ⟨some 35, none, .q (.ext 1 (.t 30))⟩, ⟨some 9, none, .q (.mv (.t 34))⟩, ⟨some 10, none, .q (.mv (.t 35))⟩])
  (.keep [0, 1, 5, 6, 7, 8, 9, 10]
  (.seq (.reg none [⟨some 36, none, .q (.mv (.t 0))⟩, ⟨some 37, none, .call (.f 22) [(.t 36)]⟩, ⟨some 11, none, .q (.mv (.t 37))⟩])
  (.keep [0, 1, 5, 6, 7, 8, 9, 10, 11]
  (.seq (.seq (.reg none [⟨some 38, none, .call (.f 20) []⟩, ⟨some 39, none, .q (.un .not (.t 38))⟩])
    (.keep [0, 1, 5, 6, 7, 8, 9, 10, 11, 39]
    (.cond (.t 39) (.seq (.reg none [⟨some 4, none, .q (.mv (.c (.b false)))⟩])
      .ret)
    .skip)))
  (.seq (.seq (.reg none [⟨some 40, none, .q (.mv (.t 11))⟩, ⟨some 41, none, .q (.bin .neq (.t 40) (.c (.i .i64 0)))⟩])
    (.keep [0, 1, 5, 6, 7, 8, 9, 10, 11, 41]
    (.cond (.t 41) (.seq (.reg none [⟨some 42, none, .q (.mv (.t 6))⟩, ⟨some 43, none, .q (.mv (.t 11))⟩, ⟨some 44, none, .q (.bin .eql (.t 42) (.t 43))⟩, ⟨some 45, none, .q (.mv (.t 44))⟩, ⟨some 46, some (45, true), .q (.mv (.t 8))⟩, ⟨some 47, some (45, true), .q (.mv (.t 11))⟩, ⟨some 48, some (45, true), .q (.bin .eql (.t 46) (.t 47))⟩, ⟨some 49, none, .pk (.t 45) (.t 48) (.c (.b false))⟩, ⟨some 50, none, .q (.mv (.t 49))⟩, ⟨some 51, some (50, true), .q (.mv (.t 10))⟩, ⟨some 52, some (50, true), .q (.mv (.t 11))⟩, ⟨some 53, some (50, true), .q (.bin .eql (.t 51) (.t 52))⟩, ⟨some 54, none, .pk (.t 50) (.t 53) (.c (.b false))⟩, ⟨some 55, none, .q (.mv (.t 54))⟩, ⟨some 56, some (55, true), .q (.mv (.t 5))⟩, ⟨some 57, some (55, true), .q (.un .not (.t 56))⟩, ⟨some 58, none, .pk (.t 55) (.t 57) (.c (.b false))⟩, ⟨some 59, none, .q (.mv (.t 58))⟩, ⟨some 60, some (59, true), .q (.mv (.t 7))⟩, ⟨some 61, some (59, true), .q (.un .not (.t 60))⟩, ⟨some 62, none, .pk (.t 59) (.t 61) (.c (.b false))⟩, ⟨some 63, none, .q (.mv (.t 62))⟩, ⟨some 64, some (63, true), .q (.mv (.t 9))⟩, ⟨some 65, some (63, true), .q (.len false (.t 64))⟩, ⟨some 66, some (63, true), .q (.bin .eql (.t 65) (.c (.i .i64 0)))⟩, ⟨some 67, none, .pk (.t 63) (.t 66) (.c (.b false))⟩, ⟨some 4, none, .q (.mv (.t 67))⟩])
      .ret)
    .skip)))
  (.seq (.reg none [⟨some 69, none, .q (.mv (.t 0))⟩, ⟨some 70, none, .q (.mv (.t 1))⟩, ⟨some 71, none, .call (.f 52) [(.t 69), (.t 70)]⟩, ⟨some 68, none, .q (.mv (.t 71))⟩, ⟨some 72, none, .q (.ext 0 (.t 68))⟩, ⟨some 73, none, .q (.ext 1 (.t 68))⟩, ⟨some 12, none, .q (.mv (.t 72))⟩, ⟨some 13, none, .q (.mv (.t 73))⟩])
  (.keep [0, 1, 5, 6, 7, 8, 9, 10, 12, 13]
  (.seq (.reg none [⟨some 75, none, .q (.mv (.t 0))⟩, ⟨some 76, none, .q (.mv (.t 1))⟩, ⟨some 77, none, .call (.f 53) [(.t 75), (.t 76)]⟩, ⟨some 74, none, .q (.mv (.t 77))⟩, ⟨some 78, none, .q (.ext 0 (.t 74))⟩, ⟨some 79, none, .q (.ext 1 (.t 74))⟩, ⟨some 14, none, .q (.mv (.t 78))⟩, ⟨some 15, none, .q (.mv (.t 79))⟩])
  (.keep [0, 1, 5, 6, 7, 8, 9, 10, 12, 13, 14, 15]
  (.seq (.reg none [⟨some 81, none, .q (.mv (.t 0))⟩, ⟨some 82, none, .q (.mv (.t 1))⟩, ⟨some 83, none, .call (.f 54) [(.t 81), (.t 82)]⟩, ⟨some 80, none, .q (.mv (.t 83))⟩, ⟨some 84, none, .q (.ext 0 (.t 80))⟩, ⟨some 85, none, .q (.ext 1 (.t 80))⟩, ⟨some 16, none, .q (.mv (.t 84))⟩, ⟨some 17, none, .q (.mv (.t 85))⟩])
  (.keep [5, 6, 7, 8, 9, 10, 12, 13, 14, 15, 16, 17]
  (.seq (.reg none [⟨some 86, none, .q (.mv (.t 5))⟩, ⟨some 87, none, .q (.mv (.t 12))⟩, ⟨some 88, none, .q (.eqb false (.t 86) (.t 87))⟩, ⟨some 89, none, .q (.mv (.t 88))⟩, ⟨some 90, some (89, true), .q (.mv (.t 6))⟩, ⟨some 91, some (89, true), .q (.mv (.t 13))⟩, ⟨some 92, some (89, true), .q (.bin .eql (.t 90) (.t 91))⟩, ⟨some 93, none, .pk (.t 89) (.t 92) (.c (.b false))⟩, ⟨some 94, none, .q (.mv (.t 93))⟩, ⟨some 95, some (94, true), .q (.mv (.t 7))⟩, ⟨some 96, some (94, true), .q (.mv (.t 14))⟩, ⟨some 97, some (94, true), .q (.eqb false (.t 95) (.t 96))⟩, ⟨some 98, none, .pk (.t 94) (.t 97) (.c (.b false))⟩, ⟨some 99, none, .q (.mv (.t 98))⟩, ⟨some 100, some (99, true), .q (.mv (.t 8))⟩, ⟨some 101, some (99, true), .q (.mv (.t 15))⟩, ⟨some 102, some (99, true), .q (.bin .eql (.t 100) (.t 101))⟩, ⟨some 103, none, .pk (.t 99) (.t 102) (.c (.b false))⟩, ⟨some 104, none, .q (.mv (.t 103))⟩, ⟨some 105, some (104, true), .q (.mv (.t 9))⟩, ⟨some 106, some (104, true), .q (.mv (.t 16))⟩, ⟨some 107, some (104, true), .call (.f 31) [(.t 105), (.t 106)]⟩, ⟨some 108, none, .pk (.t 104) (.t 107) (.c (.b false))⟩, ⟨some 109, none, .q (.mv (.t 108))⟩, ⟨some 110, some (109, true), .q (.mv (.t 10))⟩, ⟨some 111, some (109, true), .q (.mv (.t 17))⟩, ⟨some 112, some (109, true), .q (.bin .eql (.t 110) (.t 111))⟩, ⟨some 113, none, .pk (.t 109) (.t 112) (.c (.b false))⟩, ⟨some 4, none, .q (.mv (.t 113))⟩])
  .ret)))))))))))))))))))
theorem r15 : (Try.f15.body.bind (resC Try.prog Try.f15.ntmps)) = some (strip c15) := by kernel_rfl
theorem s15 : Try.f15.results.toList.mapM (resRes Try.prog) = some [.t 4] := by kernel_rfl
theorem ok_range {n : Nat} {l : List Int} : (List.range l.length).all (okAt n false l) = true ↔ ∀ x ∈ l, 0 ≤ x ∧ x < (n : Int) := by
  rw [List.all_eq_true]
  constructor
  · intro h x hx
    obtain ⟨k, hk, rfl⟩ := List.getElem_of_mem hx
    have := h k (by simpa using hk)
    unfold okAt at this
    rw [Bool.and_eq_true, decide_eq_true_eq, List.getD_eq_getElem?_getD, List.getElem?_eq_getElem hk] at this
    exact this.1
  · intro h k hk
    have hkl : k < l.length := by simpa using hk
    have := h l[k] (List.getElem_mem hkl)
    unfold okAt
    rw [List.getD_eq_getElem?_getD, List.getElem?_eq_getElem hkl, Bool.and_eq_true, decide_eq_true_eq]
    exact ⟨this, rfl⟩
theorem ok_all {n : Nat} {l : List Int} : (List.range l.length).all (okAt n true l) = true ↔ (∀ x ∈ l, 0 ≤ x ∧ x < (n : Int)) ∧ l.Nodup := by
  rw [← ok_range, List.all_eq_true, List.all_eq_true, List.Nodup, List.pairwise_iff_getElem]
  constructor
  · intro h
    refine ⟨fun k hk => ?_, fun i j hi hj hij hc => ?_⟩
    · have := h k hk
      unfold okAt at this ⊢
      rw [Bool.and_eq_true] at this ⊢
      exact ⟨this.1, rfl⟩
    · have := h j (by simpa using hj)
      unfold okAt at this
      rw [Bool.and_eq_true, Bool.not_eq_true', Bool.true_and, List.getD_eq_getElem?_getD, List.getElem?_eq_getElem hj, Option.getD_some] at this
      have h2 := this.2
      rw [← hc, Bool.eq_false_iff, Ne, List.contains_iff_mem] at h2
      exact h2 (List.mem_take_iff_getElem.2 ⟨i, by omega, rfl⟩)
  · rintro ⟨h1, h2⟩ k hk
    have hkl : k < l.length := by simpa using hk
    have := h1 k hk
    unfold okAt at this ⊢
    rw [Bool.and_eq_true] at this ⊢
    refine ⟨this.1, ?_⟩
    rw [Bool.not_eq_true', Bool.true_and, Bool.eq_false_iff, Ne, List.contains_iff_mem, List.getD_eq_getElem?_getD, List.getElem?_eq_getElem hkl]
    intro hm
    obtain ⟨i, hi, he⟩ := List.mem_take_iff_getElem.1 hm
    exact h2 i k (by omega) hkl (by omega) he
theorem bad_range {t : List Ev} {l : List Int} : l.any (badP t) = false ↔ ∀ x ∈ l, 0 ≤ x ∧ x < (t.length : Int) := by
  rw [Bool.eq_false_iff, Ne, List.any_eq_true]
  unfold badP
  constructor
  · intro h x hx
    apply Classical.byContradiction
    intro hc
    exact h ⟨x, hx, by simp; omega⟩
  · rintro h ⟨x, hx, hb⟩
    have := h x hx
    simp at hb; omega
theorem places_false {t : List Ev} (h0 : checkT t = 0) (l : List Int) : placesE t.length false l = listE t l := by
  unfold placesE listE askT
  rw [if_pos h0, if_pos h0]
  split
  · rfl
  · cases hb : l.any (badP t) with
    | false =>
      rw [if_pos, if_neg (by simp)]
      rw [ok_range.2 (bad_range.1 hb)]; rfl
    | true =>
      rw [if_neg, if_pos rfl]
      intro h
      rw [Bool.and_eq_true, ok_range, ← bad_range, hb] at h
      cases h.1
theorem places_true {t : List Ev} (h0 : checkT t = 0) (l : List Int) : placesE t.length true l = if listE t l = 0 then (if l.length = t.length ∧ l.Nodup then 0 else 1) else listE t l := by
  rw [← places_false h0]
  unfold placesE
  by_cases h2 : 256 < l.length
  · rw [if_pos h2, if_pos h2]; rfl
  rw [if_neg h2, if_neg h2]
  by_cases hr : ∀ x ∈ l, 0 ≤ x ∧ x < (t.length : Int)
  · have h3 : ((List.range l.length).all (okAt t.length false l) && !(false && decide (l.length ≠ t.length))) = true := by
      rw [ok_range.2 hr]; rfl
    rw [if_pos h3, if_pos rfl]
    by_cases hn : l.length = t.length ∧ l.Nodup
    · rw [if_pos hn, if_pos]
      rw [ok_all.2 ⟨hr, hn.2⟩]; simp [hn.1]
    · rw [if_neg hn, if_neg]
      intro hc
      rw [Bool.and_eq_true, ok_all] at hc
      exact hn ⟨by simpa using hc.2, hc.1.2⟩
  · have h3 : ¬ ((List.range l.length).all (okAt t.length false l) && !(false && decide (l.length ≠ t.length))) = true := by
      rw [Bool.and_eq_true, ok_range]; exact fun h => hr h.1
    have h4 : ¬ ((List.range l.length).all (okAt t.length true l) && !(true && decide (l.length ≠ t.length))) = true := by
      rw [Bool.and_eq_true, ok_all]; exact fun h => hr h.1.1
    rw [if_neg h3, if_neg h4]; rfl
theorem same_nil : PureS Try.prog 31 [.nil, .nil] (.b true) := (same_ints [] [] (by simp)).weak (by simp [WkL, Wk])
theorem orderLists (t : List Ev) (ht : t.length < 1000000000000) (l : List Int) (hl : l.length < 100000000000000) : PureS Try.prog 15 [.sl 26 (t.map Ev.row), .sl 1 (l.map irow)] (.b true) := by
  refine fun_go hmx Try.func15 r15 s15 (by rw [Try.ntmps15]; simp) ?_
  unfold c15
  simp
  first
    | refine callk rfl Try.call48 (linear_all t (by omega) l hl) rfl ?_
    | refine callks rfl Try.call48 (linear_all t (by omega) l hl) rfl ?_
    | refine callq rfl Try.call48 (linear_all t (by omega) l hl) rfl ?_
    | refine callqe rfl Try.call48 (linear_all t (by omega) l hl) rfl ?_
  simp
  first
    | refine callk rfl Try.call50 (cut_all t (by omega) l hl) rfl ?_
    | refine callks rfl Try.call50 (cut_all t (by omega) l hl) rfl ?_
    | refine callq rfl Try.call50 (cut_all t (by omega) l hl) rfl ?_
    | refine callqe rfl Try.call50 (cut_all t (by omega) l hl) rfl ?_
  simp
  first
    | refine callk rfl Try.call51 (closed_all t (by omega) l hl) rfl ?_
    | refine callks rfl Try.call51 (closed_all t (by omega) l hl) rfl ?_
    | refine callq rfl Try.call51 (closed_all t (by omega) l hl) rfl ?_
    | refine callqe rfl Try.call51 (closed_all t (by omega) l hl) rfl ?_
  simp
  first
    | refine callk rfl Try.call22 (checkR_p t (by omega)) rfl ?_
    | refine callks rfl Try.call22 (checkR_p t (by omega)) rfl ?_
    | refine callq rfl Try.call22 (checkR_p t (by omega)) rfl ?_
    | refine callqe rfl Try.call22 (checkR_p t (by omega)) rfl ?_
  simp
  first
    | refine callk rfl Try.call20 speaks_p rfl ?_
    | refine callks rfl Try.call20 speaks_p rfl ?_
    | refine callq rfl Try.call20 speaks_p rfl ?_
    | refine callqe rfl Try.call20 speaks_p rfl ?_
  simp
  by_cases h0 : checkT t = 0
  rotate_left
  · have hw := listE_wrong h0 l
    simp [h0, hw]
  have h := good_of h0
  have hL := linearR_p t h l hl
  rw [places_true h0] at hL
  have hC := cutR_p t h l hl
  have hD := closedR_p t h l hl
  rw [places_false h0] at hC hD
  by_cases hE : listE t l = 0
  rotate_left
  · simp [hE] at hL hC hD
    simp [h0, hE]
    first
      | refine callk rfl Try.call52 hL rfl ?_
      | refine callks rfl Try.call52 hL rfl ?_
      | refine callq rfl Try.call52 hL rfl ?_
      | refine callqe rfl Try.call52 hL rfl ?_
    simp
    first
      | refine callk rfl Try.call53 hC rfl ?_
      | refine callks rfl Try.call53 hC rfl ?_
      | refine callq rfl Try.call53 hC rfl ?_
      | refine callqe rfl Try.call53 hC rfl ?_
    simp
    first
      | refine callk rfl Try.call54 hD rfl ?_
      | refine callks rfl Try.call54 hD rfl ?_
      | refine callq rfl Try.call54 hD rfl ?_
      | refine callqe rfl Try.call54 hD rfl ?_
    simp
    first
      | refine callkg rfl Try.call31 rfl (fun _ => same_nil) (fun hG => by first | (simp; done) | (simp at hG; done) | simpa using hG) rfl ?_
      | refine callksg rfl Try.call31 rfl (fun _ => same_nil) (fun hG => by first | (simp; done) | (simp at hG; done) | simpa using hG) rfl ?_
      | refine callqg rfl Try.call31 rfl (fun _ => same_nil) (fun hG => by first | (simp; done) | (simp at hG; done) | simpa using hG) rfl ?_
    simp
  obtain ⟨_, _, hll, m, hlm, hm⟩ := listE_ok hE
  have hCl : (castL (closN t (l.map Int.toNat))).length < 1000000 := by
    have := selTo_len (fun i => (l.map Int.toNat).any fun q => decide (i = q) || befT t i q) t.length
    have := h.len
    unfold castL closN; rw [List.length_map]; omega
  by_cases hn : l.length = t.length ∧ l.Nodup
  · simp [hE, hn.1, hn.2] at hL hC hD
    simp [h0, hE, hn.1, hn.2]
    first
      | refine callk rfl Try.call52 hL rfl ?_
      | refine callks rfl Try.call52 hL rfl ?_
      | refine callq rfl Try.call52 hL rfl ?_
      | refine callqe rfl Try.call52 hL rfl ?_
    simp
    first
      | refine callk rfl Try.call53 hC rfl ?_
      | refine callks rfl Try.call53 hC rfl ?_
      | refine callq rfl Try.call53 hC rfl ?_
      | refine callqe rfl Try.call53 hC rfl ?_
    simp
    first
      | refine callk rfl Try.call54 hD rfl ?_
      | refine callks rfl Try.call54 hD rfl ?_
      | refine callq rfl Try.call54 hD rfl ?_
      | refine callqe rfl Try.call54 hD rfl ?_
    simp
    first
      | refine callkg rfl Try.call31 rfl (fun _ => (same_ints (castL (closN t (l.map Int.toNat))) (castL (closN t (l.map Int.toNat))) hCl)) (fun hG => by first | (simp; done) | (simp at hG; done) | simpa using hG) rfl ?_
      | refine callksg rfl Try.call31 rfl (fun _ => (same_ints (castL (closN t (l.map Int.toNat))) (castL (closN t (l.map Int.toNat))) hCl)) (fun hG => by first | (simp; done) | (simp at hG; done) | simpa using hG) rfl ?_
      | refine callqg rfl Try.call31 rfl (fun _ => (same_ints (castL (closN t (l.map Int.toNat))) (castL (closN t (l.map Int.toNat))) hCl)) (fun hG => by first | (simp; done) | (simp at hG; done) | simpa using hG) rfl ?_
    simp
  · simp [hE, hn] at hL hC hD
    have hn' : (decide (l.length = t.length) && decide l.Nodup) = false := by rw [← Bool.decide_and]; exact decide_eq_false hn
    simp [h0, hE, hn, hn']
    first
      | refine callk rfl Try.call52 hL rfl ?_
      | refine callks rfl Try.call52 hL rfl ?_
      | refine callq rfl Try.call52 hL rfl ?_
      | refine callqe rfl Try.call52 hL rfl ?_
    simp
    first
      | refine callk rfl Try.call53 hC rfl ?_
      | refine callks rfl Try.call53 hC rfl ?_
      | refine callq rfl Try.call53 hC rfl ?_
      | refine callqe rfl Try.call53 hC rfl ?_
    simp
    first
      | refine callk rfl Try.call54 hD rfl ?_
      | refine callks rfl Try.call54 hD rfl ?_
      | refine callq rfl Try.call54 hD rfl ?_
      | refine callqe rfl Try.call54 hD rfl ?_
    simp
    first
      | refine callkg rfl Try.call31 rfl (fun _ => (same_ints (castL (closN t (l.map Int.toNat))) (castL (closN t (l.map Int.toNat))) hCl)) (fun hG => by first | (simp; done) | (simp at hG; done) | simpa using hG) rfl ?_
      | refine callksg rfl Try.call31 rfl (fun _ => (same_ints (castL (closN t (l.map Int.toNat))) (castL (closN t (l.map Int.toNat))) hCl)) (fun hG => by first | (simp; done) | (simp at hG; done) | simpa using hG) rfl ?_
      | refine callqg rfl Try.call31 rfl (fun _ => (same_ints (castL (closN t (l.map Int.toNat))) (castL (closN t (l.map Int.toNat))) hCl)) (fun hG => by first | (simp; done) | (simp at hG; done) | simpa using hG) rfl ?_
    simp
end Go.Sc.Or
