/- Chapter 13: every Apply. No condition. -/
import Derived.Test.YtgipkikbefnokaaXCb
import Derived.Test.YtgipkikbefnokaaXCaP
import Derived.Test.YtgipkikbefnokaaXCaR
import Derived.Test.YtgipkikbefnokaaXEv6
set_option linter.constructorNameAsVariable false
namespace Go.Sc.Or
open Go Go.RowKit Go.Av Go.Proofs Go.Sc
set_option linter.unusedSimpArgs false
set_option linter.unusedVariables false
def c82 : ACode :=
  (.seq (.reg none [⟨some 4, none, .q (.mv (.c (.b false)))⟩])
  (.keep [0, 1]
  (.seq (.seq (.reg none [⟨some 12, none, .q (.mv (.t 1))⟩, ⟨some 13, none, .q (.len false (.t 12))⟩, ⟨some 14, none, .q (.mv (.t 0))⟩, ⟨some 15, none, .q (.len false (.t 14))⟩, ⟨some 16, none, .q (.bin .neq (.t 13) (.t 15))⟩])
    (.keep [0, 1, 16]
    (.cond (.t 16) (.seq (.reg none [⟨some 4, none, .q (.mv (.c (.b false)))⟩])
      .ret)
    .skip)))
  (.seq (.reg none [⟨some 17, none, .q (.mv (.t 0))⟩, ⟨some 18, none, .q (.len false (.t 17))⟩, ⟨some 19, none, .m (.mks 1 8 [(.i .i64 0)] (.t 18) (.t 18))⟩, ⟨some 5, none, .q (.mv (.t 19))⟩])
  (.keep [0, 1, 5]
  (.seq (.seq (.reg none [⟨some 20, none, .q (.mv (.t 5))⟩, ⟨some 21, none, .q (.len false (.t 20))⟩, ⟨some 22, none, .q (.mv (.c (.i .i64 0)))⟩])
    (.keep [0, 1, 5, 21, 22]
    (.blk 0 (.keep [0, 1, 5, 21, 22]
    (.loop (.fin [0, 1, 5, 21, 22]
      (.seq (.reg none [⟨some 23, none, .q (.bin .lss (.t 22) (.t 21))⟩])
      (.keep [0, 1, 5, 21, 22, 23]
      (.seq (.cond (.t 23) .skip
        (.exit 0))
      (.seq (.blk 1 (.seq (.reg none [⟨some 24, none, .q (.mv (.t 22))⟩, ⟨some 6, none, .q (.mv (.t 24))⟩])
        (.keep [0, 1, 5, 6, 21, 22]
        (.reg none [⟨some 25, none, .q (.mv (.t 5))⟩, ⟨some 26, none, .q (.mv (.t 6))⟩, ⟨some 27, none, .q (.ias 1 (.t 25) (.t 26))⟩, ⟨none, none, .m (.st 1 (.t 27) (.c (.i .i64 (-1))))⟩]))))
      (.keep [0, 1, 5, 21, 22]
      (.reg none [⟨some 28, none, .q (.bin .add (.t 22) (.c (.i .i64 1)))⟩, ⟨some 22, none, .q (.mv (.t 28))⟩]))))))))))))
  (.seq (.seq (.reg none [⟨some 29, none, .q (.mv (.t 1))⟩, ⟨some 30, none, .q (.len false (.t 29))⟩, ⟨some 31, none, .q (.mv (.c (.i .i64 0)))⟩])
    (.keep [0, 5, 29, 30, 31]
    (.blk 2 (.keep [0, 5, 29, 30, 31]
    (.loop (.fin [0, 5, 29, 30, 31]
      (.seq (.reg none [⟨some 32, none, .q (.bin .lss (.t 31) (.t 30))⟩])
      (.keep [0, 5, 29, 30, 31, 32]
      (.seq (.cond (.t 32) .skip
        (.exit 2))
      (.seq (.blk 3 (.seq (.reg none [⟨some 33, none, .q (.mv (.t 31))⟩, ⟨some 34, none, .q (.ias 1 (.t 29) (.t 31))⟩, ⟨some 35, none, .q (.ld none (.t 34))⟩, ⟨some 7, none, .q (.mv (.t 33))⟩, ⟨some 8, none, .q (.mv (.t 35))⟩])
        (.keep [0, 5, 7, 8, 29, 30, 31]
        (.seq (.seq (.reg none [⟨some 36, none, .q (.mv (.t 8))⟩, ⟨some 37, none, .q (.bin .lss (.t 36) (.c (.i .i64 0)))⟩, ⟨some 38, none, .q (.mv (.t 37))⟩, ⟨some 39, some (38, false), .q (.mv (.t 8))⟩, ⟨some 40, some (38, false), .q (.mv (.t 0))⟩, ⟨some 41, some (38, false), .q (.len false (.t 40))⟩, ⟨some 42, some (38, false), .q (.bin .geq (.t 39) (.t 41))⟩, ⟨some 43, none, .pk (.t 38) (.c (.b true)) (.t 42)⟩, ⟨some 44, none, .q (.mv (.t 43))⟩, ⟨some 45, some (44, false), .q (.mv (.t 5))⟩, ⟨some 46, some (44, false), .q (.mv (.t 8))⟩, ⟨some 47, some (44, false), .q (.ias 1 (.t 45) (.t 46))⟩, ⟨some 48, some (44, false), .q (.ld none (.t 47))⟩, ⟨some 49, some (44, false), .q (.bin .geq (.t 48) (.c (.i .i64 0)))⟩, ⟨some 50, none, .pk (.t 44) (.c (.b true)) (.t 49)⟩])
          (.keep [0, 5, 7, 8, 29, 30, 31, 50]
          (.cond (.t 50) (.seq (.reg none [⟨some 4, none, .q (.mv (.c (.b false)))⟩])
            .ret)
          .skip)))
        (.reg none [⟨some 51, none, .q (.mv (.t 5))⟩, ⟨some 52, none, .q (.mv (.t 8))⟩, ⟨some 53, none, .q (.mv (.t 7))⟩, ⟨some 54, none, .q (.ias 1 (.t 51) (.t 52))⟩, ⟨none, none, .m (.st 1 (.t 54) (.t 53))⟩])))))
      (.keep [0, 5, 29, 30, 31]
      (.reg none [⟨some 55, none, .q (.bin .add (.t 31) (.c (.i .i64 1)))⟩, ⟨some 31, none, .q (.mv (.t 55))⟩]))))))))))))
  (.seq (.reg none [⟨some 56, none, .q (.mv (.t 0))⟩, ⟨some 57, none, .call (.f 36) [(.t 56)]⟩, ⟨some 9, none, .q (.mv (.t 57))⟩])
  (.keep [0, 5, 9]
  (.seq (.seq (.reg none [⟨some 58, none, .q (.mv (.t 0))⟩, ⟨some 59, none, .q (.len false (.t 58))⟩, ⟨some 60, none, .q (.mv (.c (.i .i64 0)))⟩])
    (.keep [0, 5, 9, 59, 60]
    (.blk 4 (.keep [0, 5, 9, 59, 60]
    (.loop (.fin [0, 5, 9, 59, 60]
      (.seq (.reg none [⟨some 61, none, .q (.bin .lss (.t 60) (.t 59))⟩])
      (.keep [0, 5, 9, 59, 60, 61]
      (.seq (.cond (.t 61) .skip
        (.exit 4))
      (.seq (.blk 5 (.seq (.reg none [⟨some 62, none, .q (.mv (.t 60))⟩, ⟨some 10, none, .q (.mv (.t 62))⟩])
        (.keep [0, 5, 9, 10, 59, 60]
        (.seq (.reg none [⟨some 63, none, .q (.mv (.t 0))⟩, ⟨some 64, none, .q (.len false (.t 63))⟩, ⟨some 65, none, .q (.mv (.c (.i .i64 0)))⟩])
        (.keep [0, 5, 9, 10, 59, 60, 64, 65]
        (.blk 6 (.keep [0, 5, 9, 10, 59, 60, 64, 65]
        (.loop (.fin [0, 5, 9, 10, 59, 60, 64, 65]
          (.seq (.reg none [⟨some 66, none, .q (.bin .lss (.t 65) (.t 64))⟩])
          (.keep [0, 5, 9, 10, 59, 60, 64, 65, 66]
          (.seq (.cond (.t 66) .skip
            (.exit 6))
          (.seq (.blk 7 (.seq (.reg none [⟨some 67, none, .q (.mv (.t 65))⟩, ⟨some 11, none, .q (.mv (.t 67))⟩])
            (.keep [0, 5, 9, 10, 11, 59, 60, 64, 65]
            (.seq (.reg (some (23, [])) [⟨some 68, none, .q (.mv (.t 10))⟩, ⟨some 69, none, .q (.mv (.t 11))⟩, ⟨some 70, none, .q (.bin .lss (.t 68) (.t 69))⟩, ⟨some 71, none, .q (.mv (.t 70))⟩, ⟨some 72, some (71, true), .q (.mv (.t 9))⟩, ⟨some 73, some (71, true), .q (.mv (.t 10))⟩, ⟨some 74, some (71, true), .q (.ias 1 (.t 72) (.t 73))⟩, ⟨some 75, some (71, true), .q (.ld none (.t 74))⟩, ⟨some 76, some (71, true), .q (.mv (.t 11))⟩, ⟨some 77, some (71, true), .q (.ias 1 (.t 75) (.t 76))⟩, ⟨some 78, some (71, true), .q (.ld none (.t 77))⟩, ⟨some 79, none, .pk (.t 71) (.t 78) (.c (.b false))⟩, ⟨some 80, none, .q (.mv (.t 79))⟩, ⟨some 81, some (80, true), .q (.mv (.t 5))⟩, ⟨some 82, some (80, true), .q (.mv (.t 10))⟩, ⟨some 83, some (80, true), .q (.ias 1 (.t 81) (.t 82))⟩, ⟨some 84, some (80, true), .q (.ld none (.t 83))⟩, ⟨some 85, some (80, true), .q (.mv (.t 5))⟩, ⟨some 86, some (80, true), .q (.mv (.t 11))⟩, ⟨some 87, some (80, true), .q (.ias 1 (.t 85) (.t 86))⟩, ⟨some 88, some (80, true), .q (.ld none (.t 87))⟩, ⟨some 89, some (80, true), .q (.bin .gtr (.t 84) (.t 88))⟩, ⟨some 90, none, .pk (.t 80) (.t 89) (.c (.b false))⟩])
            (.keep [0, 5, 9, 10, 59, 60, 64, 65, 90]
            (.cond (.t 90) (.seq (.reg none [⟨some 4, none, .q (.mv (.c (.b false)))⟩])
              .ret)
            .skip))))))
          (.keep [0, 5, 9, 10, 59, 60, 64, 65]
          (.reg none [⟨some 91, none, .q (.bin .add (.t 65) (.c (.i .i64 1)))⟩, ⟨some 65, none, .q (.mv (.t 91))⟩])))))))))))))))
      (.keep [0, 5, 9, 59, 60]
      (.reg none [⟨some 92, none, .q (.bin .add (.t 60) (.c (.i .i64 1)))⟩, ⟨some 60, none, .q (.mv (.t 92))⟩]))))))))))))
  (.seq (.reg none [⟨some 4, none, .q (.mv (.c (.b true)))⟩])
  .ret)))))))))))
theorem r82 : (Try.f82.body.bind (resC Try.prog Try.f82.ntmps)) = some (strip c82) := by kernel_rfl
theorem s82 : Try.f82.results.toList.mapM (resRes Try.prog) = some [.t 4] := by kernel_rfl
def c47 : ACode :=
  (.seq (.reg none [⟨some 4, none, .q (.mv (.c .nil))⟩, ⟨some 5, none, .q (.mv (.c (.i .i64 0)))⟩])
  (.keep [0, 1]
  (.seq (.reg none [⟨some 7, none, .q (.mv (.t 0))⟩, ⟨some 8, none, .call (.f 22) [(.t 7)]⟩, ⟨some 6, none, .q (.mv (.t 8))⟩])
  (.keep [0, 1, 6]
  (.seq (.seq (.reg none [⟨some 9, none, .q (.mv (.t 6))⟩, ⟨some 10, none, .q (.bin .neq (.t 9) (.c (.i .i64 0)))⟩])
    (.keep [0, 1, 6, 10]
    (.cond (.t 10) (.seq (.reg none [⟨some 11, none, .q (.mv (.t 6))⟩, ⟨some 4, none, .q (.mv (.c .nil))⟩, ⟨some 5, none, .q (.mv (.t 11))⟩])
      .ret)
    .skip)))
  (.seq (.seq (.reg none [⟨some 12, none, .q (.mv (.t 0))⟩, ⟨some 13, none, .q (.mv (.t 1))⟩, ⟨some 14, none, .call (.f 82) [(.t 12), (.t 13)]⟩, ⟨some 15, none, .q (.un .not (.t 14))⟩])
    (.keep [0, 1, 15]
    (.cond (.t 15) (.seq (.reg none [⟨some 4, none, .q (.mv (.c .nil))⟩, ⟨some 5, none, .q (.mv (.c (.i .i64 1)))⟩])
      .ret)
    .skip)))
  (.seq (.reg none [⟨some 16, none, .q (.mv (.t 0))⟩, ⟨some 17, none, .q (.mv (.t 1))⟩, ⟨some 18, none, .call (.f 83) [(.t 16), (.t 17)]⟩, ⟨some 4, none, .q (.mv (.t 18))⟩, ⟨some 5, none, .q (.mv (.c (.i .i64 0)))⟩])
  .ret)))))))
theorem r47 : (Try.f47.body.bind (resC Try.prog Try.f47.ntmps)) = some (strip c47) := by kernel_rfl
theorem s47 : Try.f47.results.toList.mapM (resRes Try.prog) = some [.t 4, .t 5] := by kernel_rfl
def c13 : ACode :=
  (.seq (.reg none [⟨some 4, none, .q (.mv (.c (.b false)))⟩])
  (.keep [0, 1]
  (.seq (.reg none [⟨some 10, none, .q (.mv (.t 0))⟩, ⟨some 11, none, .q (.mv (.t 1))⟩, ⟨some 12, none, .call (.f 46) [(.t 10), (.t 11)]⟩, ⟨some 9, none, .q (.mv (.t 12))⟩, ⟨some 13, none, .q (.ext 0 (.t 9))⟩, ⟨some 14, none, .q (.ext 1 (.t 9))⟩, ⟨some 5, none, .q (.mv (.t 13))⟩, ⟨some 6, none, .q (.mv (.t 14))⟩])
  (.keep [0, 1, 5, 6]
  (.seq (.reg none [⟨some 16, none, .q (.mv (.t 0))⟩, ⟨some 17, none, .q (.mv (.t 1))⟩, ⟨some 18, none, .call (.f 47) [(.t 16), (.t 17)]⟩, ⟨some 15, none, .q (.mv (.t 18))⟩, ⟨some 19, none, .q (.ext 0 (.t 15))⟩, ⟨some 20, none, .q (.ext 1 (.t 15))⟩, ⟨some 7, none, .q (.mv (.t 19))⟩, ⟨some 8, none, .q (.mv (.t 20))⟩])
  (.keep [5, 6, 7, 8]
  (.seq (.reg none [⟨some 21, none, .q (.mv (.t 5))⟩, ⟨some 22, none, .q (.mv (.t 7))⟩, ⟨some 23, none, .call (.f 44) [(.t 21), (.t 22)]⟩, ⟨some 24, none, .q (.mv (.t 23))⟩, ⟨some 25, some (24, true), .q (.mv (.t 6))⟩, ⟨some 26, some (24, true), .q (.mv (.t 8))⟩, ⟨some 27, some (24, true), .q (.bin .eql (.t 25) (.t 26))⟩, ⟨some 28, none, .pk (.t 24) (.t 27) (.c (.b false))⟩, ⟨some 29, none, .q (.mv (.t 28))⟩, ⟨some 30, some (29, true), .call (.f 19) []⟩, ⟨some 31, none, .pk (.t 29) (.t 30) (.c (.b false))⟩, ⟨some 4, none, .q (.mv (.t 31))⟩])
  .ret)))))))
theorem r13 : (Try.f13.body.bind (resC Try.prog Try.f13.ntmps)) = some (strip c13) := by kernel_rfl
theorem s13 : Try.f13.results.toList.mapM (resRes Try.prog) = some [.t 4] := by kernel_rfl
def atI (n : Nat) (l : List Int) (k : Nat) : List Int := (List.range n).map fun x => if ((x : Nat) : Int) ∈ l.take k then (l.idxOf ((x : Nat) : Int) : Int) else -1
@[simp] theorem atI_length (n : Nat) (l : List Int) (k : Nat) : (atI n l k).length = n := by simp [atI]
theorem atI_get {n : Nat} {l : List Int} {k q : Nat} (h : q < (atI n l k).length) : (atI n l k)[q] = if ((q : Nat) : Int) ∈ l.take k then (l.idxOf ((q : Nat) : Int) : Int) else -1 := by simp [atI]
theorem atI_zero (n : Nat) (l : List Int) : atI n l 0 = List.replicate n (-1) := by
  unfold atI; simp [List.map_const']
theorem idx_take {l : List Int} {k : Nat} (hk : k < l.length) (hn : l[k] ∉ l.take k) : l.idxOf l[k] = k := by
  have h1 := List.idxOf_lt_length_of_mem (List.getElem_mem hk)
  have h2 := List.getElem_idxOf h1
  rcases Nat.lt_trichotomy (l.idxOf l[k]) k with h | h | h
  · exfalso
    apply hn
    rw [List.mem_iff_getElem]
    exact ⟨l.idxOf l[k], by rw [List.length_take]; omega, by rw [List.getElem_take]; exact h2⟩
  · exact h
  · exfalso
    have h3 : l.idxOf l[k] = l.findIdx (· == l[k]) := rfl
    have := List.not_of_lt_findIdx (xs := l) (p := (· == l[k])) (i := k) (by rw [← h3]; exact h)
    simp at this
theorem atI_succ {n : Nat} {l : List Int} {k q : Nat} (hk : k < l.length) (hq : l[k] = (q : Int)) (hn : (q : Int) ∉ l.take k) : (atI n l k).set q (k : Int) = atI n l (k + 1) := by
  have hid := idx_take hk (by rw [hq]; exact hn)
  rw [hq] at hid
  refine List.ext_getElem (by simp) fun p h1 h2 => ?_
  rw [List.getElem_set, atI_get, atI_get, List.take_succ_eq_append_getElem hk, hq]
  by_cases e : q = p
  · subst e; simp [hid]
  · rw [if_neg e]
    have : ¬ (p : Int) = (q : Int) := by omega
    simp [this]
theorem linN_at {t : List Ev} {m : List Nat} (hl : m.length = t.length) (hn : m.Nodup) (hp : ∀ i ∈ m, i < t.length) : linN t m = true ↔ ∀ i j, i < t.length → j < t.length → befT t i j = true → m.idxOf i ≤ m.idxOf j := by
  have r := ren_list hl hn hp
  rw [linN_iff]
  constructor
  · intro h i j hi hj hb
    apply Classical.byContradiction
    intro hc
    have h1 := h (m.idxOf i) (by rw [hl]; exact r.gl i hi) (m.idxOf j) (by omega)
    have e1 : m.getD (m.idxOf i) 0 = i := r.fg i hi
    have e2 : m.getD (m.idxOf j) 0 = j := r.fg j hj
    rw [e1, e2, hb] at h1
    cases h1
  · intro h b hb a hab
    rw [Bool.eq_false_iff]
    intro hc
    have hb' : b < t.length := by omega
    have ha' : a < t.length := by omega
    have := h _ _ (r.fl b hb') (r.fl a ha') hc
    have e1 : m.idxOf (m.getD b 0) = b := r.gf b hb'
    have e2 : m.idxOf (m.getD a 0) = a := r.gf a ha'
    rw [e1, e2] at this
    omega
theorem idx_cast {m : List Nat} {i : Nat} : (castL m).idxOf (i : Int) = m.idxOf i := by
  induction m with
  | nil => rfl
  | cons x m ih =>
    show List.idxOf (i : Int) ((x : Int) :: castL m) = _
    rw [List.idxOf_cons, List.idxOf_cons, ih]
    by_cases e : x = i
    · subst e; simp
    · have b1 : ((x : Int) == (i : Int)) = false := beq_eq_false_iff_ne.2 (by omega)
      have b2 : (x == i) = false := beq_eq_false_iff_ne.2 e
      rw [b1, b2]
def negT (n i : Nat) : List Int := (List.range n).map fun x => if x < i then -1 else 0
@[simp] theorem negT_length (n i : Nat) : (negT n i).length = n := by simp [negT]
theorem negT_zero (n : Nat) : negT n 0 = List.replicate n 0 := by unfold negT; simp [List.map_const']
theorem negT_all (n : Nat) : negT n n = List.replicate n (-1) := by
  apply List.ext_getElem (by simp)
  intro i h1 h2
  have : i < n := by simpa using h1
  simp [negT, this]
theorem negT_set {n i : Nat} : (negT n i).set i (-1) = negT n (i + 1) := by
  refine List.ext_getElem (by simp) fun p h1 h2 => ?_
  rw [List.getElem_set]
  simp only [negT, List.getElem_map, List.getElem_range]
  by_cases e : i = p
  · subst e; simp
  · rw [if_neg e]
    by_cases h : p < i
    · rw [if_pos h, if_pos (by omega)]
    · rw [if_neg h, if_neg (by omega)]
def idxT (t : List Ev) (m : List Nat) : List Int := (List.range t.length).map fun x => (m.idxOf x : Int)
@[simp] theorem idxT_length (t : List Ev) (m : List Nat) : (idxT t m).length = t.length := by simp [idxT]
theorem idxT_get {t : List Ev} {m : List Nat} {i : Nat} (h : i < (idxT t m).length) : (idxT t m)[i] = (m.idxOf i : Int) := by simp [idxT]
theorem atI_all {t : List Ev} {m : List Nat} (hl : m.length = t.length) (hn : m.Nodup) (hp : ∀ i ∈ m, i < t.length) : atI t.length (castL m) m.length = idxT t m := by
  have r := ren_list hl hn hp
  have hcl : (castL m).length = m.length := by simp [castL]
  unfold atI idxT
  refine List.map_congr_left fun x hx => ?_
  have hx := List.mem_range.1 hx
  rw [idx_cast, if_pos]
  rw [← hcl, List.take_length, mem_castL]
  have : m.getD (m.idxOf x) 0 = x := r.fg x hx
  have hlt : m.idxOf x < m.length := by rw [hl]; exact r.gl x hx
  rw [List.getD_eq_getElem?_getD, List.getElem?_eq_getElem hlt] at this
  rw [← this]
  exact List.getElem_mem hlt
theorem keeps_p (t : List Ev) (h0 : checkT t = 0) (l : List Int) (hl : l.length < 100000000000000) : PureS Try.prog 82 [.sl 26 (t.map Ev.row), .sl 1 (l.map irow)] (.b (linOk t l)) := by
  have h := good_of h0
  have hlen := h.len
  refine fun_go hmx Try.func82 r82 s82 (by rw [Try.ntmps82]; simp) ?_
  unfold c82
  simp
  by_cases hne : l.length = t.length
  rotate_left
  · have hf : linOk t l = false := by rw [Bool.eq_false_iff, Ne, linOk_iff h0]; exact fun hc => hne hc.1
    have hneI : ¬ (l.length : Int) = (t.length : Int) := by omega
    simp [hneI, hne, hf]
  have hneI : (l.length : Int) = (t.length : Int) := by omega
  simp [hneI, hne]
  refine ⟨⟨by omega, by omega⟩, ?_⟩
  refine go_while hmx 1 (fun (i : Nat) => [(22, .v (.i .i64 (i : Int)))]) (fun i => [.arr 0 1 (vrows ((negT t.length i).map irow))]) (fun i => i ≤ t.length) (fun i => t.length - i) 0 rfl (by simp) (by simp [negT_zero, vrows, irow]) (by simp) (by simp) (by simp) (Nat.zero_le _) ?_
  intro i hi
  by_cases hil : i < t.length
  · have hI : (i : Int) < (t.length : Int) := by omega
    have hw : IntKind.i64.wrap ((i : Int) + 1) = (i : Int) + 1 := wrap_in (by omega) (by omega)
    simp [hI, hil, vrows_at, irow]
    refine ⟨i + 1, hw, ?_, by omega, by omega⟩
    rw [← negT_set]; simp [vrows, List.map_set, irow]
  obtain rfl : i = t.length := by omega
  simp
  refine go_while hmx 1 (fun (k : Nat) => [(31, .v (.i .i64 (k : Int)))]) (fun k => [.arr 0 1 (vrows ((atI t.length l k).map irow))]) (fun k => k ≤ l.length ∧ (∀ x ∈ l.take k, 0 ≤ x ∧ x < (t.length : Int)) ∧ (l.take k).Nodup) (fun k => l.length - k) 0 rfl (by simp) (by rw [atI_zero, negT_all]) (by simp) (by simp) (by simp) ⟨Nat.zero_le _, by simp, by simp⟩ ?_
  rintro k ⟨hk, hr, hnd⟩
  by_cases hkl : k < l.length
  · have hI : (k : Int) < (t.length : Int) := by omega
    have hw : IntKind.i64.wrap ((k : Int) + 1) = (k : Int) + 1 := wrap_in (by omega) (by omega)
    have hbad : ¬ ((0 ≤ l[k] ∧ l[k] < (t.length : Int)) ∧ l[k] ∉ l.take k) → linOk t l = false := fun hb => by
      rw [Bool.eq_false_iff, Ne, linOk_iff h0]
      rintro ⟨_, c2, c3, _⟩
      refine hb ⟨c3 _ (List.getElem_mem hkl), fun hc => ?_⟩
      have := List.take_append_drop k l
      rw [← this, List.nodup_append] at c2
      exact c2.2.2 _ hc _ (by rw [List.drop_eq_getElem_cons hkl]; exact List.mem_cons_self) rfl
    by_cases hx : 0 ≤ l[k] ∧ l[k] < (t.length : Int)
    · obtain ⟨q, hq⟩ : ∃ q : Nat, l[k] = (q : Int) := ⟨l[k].toNat, by omega⟩
      have hqn : q < t.length := by omega
      have hqI : (q : Int) < (t.length : Int) := by omega
      have hr1 : ¬ (q : Int) < 0 := by omega
      have hr2 : ¬ (t.length : Int) ≤ (q : Int) := by omega
      by_cases hin : (q : Int) ∈ l.take k
      · have hb := hbad fun hc => hc.2 (by rw [hq]; exact hin)
        simp [hI, hkl, irow, hq, hr1, hr2, hqI, hqn, atI_get, vrows_at, hin, hb]
        all_goals omega
      · have hnx : (∀ x ∈ l.take (k + 1), 0 ≤ x ∧ x < (t.length : Int)) ∧ (l.take (k + 1)).Nodup := by
          rw [List.take_succ_eq_append_getElem hkl, hq]
          refine ⟨fun x hx => ?_, ?_⟩
          · rcases List.mem_append.1 hx with hx | hx
            · exact hr x hx
            · rw [List.mem_singleton.1 hx]; omega
          · rw [List.nodup_append]
            refine ⟨hnd, by simp, fun a ha b hb => ?_⟩
            rw [List.mem_singleton.1 hb]
            exact fun he => hin (he ▸ ha)
        have hss := atI_succ (n := t.length) hkl hq hin
        simp [hI, hkl, irow, hq, hr1, hr2, hqI, hqn, atI_get, vrows_at, hin]
        refine ⟨k + 1, hw, ?_, ⟨by omega, hnx⟩, by omega⟩
        rw [← hss]; simp [vrows, List.map_set, irow]
    · have hb := hbad fun hc => hx hc.1
      cases ha : (atI t.length l k)[l[k].toNat]? with
      | none =>
        by_cases hlt : l[k] < 0
        · simp [hI, hkl, irow, hlt, ha, hb]
        · have hge : (t.length : Int) ≤ l[k] := by omega
          simp [hI, hkl, irow, hlt, hge, ha, hb]
      | some b =>
        by_cases hlt : l[k] < 0
        · simp [hI, hkl, irow, hlt, ha, hb]
        · have hge : (t.length : Int) ≤ l[k] := by omega
          simp [hI, hkl, irow, hlt, hge, ha, hb]
  obtain rfl : k = l.length := by omega
  rw [List.take_length] at hr hnd
  obtain ⟨m, rfl, hm⟩ : ∃ m : List Nat, l = castL m ∧ ∀ i ∈ m, i < t.length := by
    refine ⟨l.map Int.toNat, ?_, fun i hi => ?_⟩
    · unfold castL
      rw [List.map_map]
      refine (List.map_id l).symm.trans (List.map_congr_left fun x hx => ?_)
      have := hr x hx
      simp only [id, Function.comp]
      omega
    · obtain ⟨x, hx, rfl⟩ := List.mem_map.1 hi
      have := hr x hx
      omega
  have hcl : (castL m).length = m.length := by simp [castL]
  have hml : m.length = t.length := by omega
  have hmn : m.Nodup := by
    have : (castL m).map Int.toNat = m := castL_nat m
    rw [← this]
    unfold castL at hnd ⊢
    rw [List.Nodup, List.pairwise_map]
    rw [List.Nodup, List.pairwise_map] at hnd
    rw [List.pairwise_map]
    exact hnd.imp fun {a b} h hc => h (by omega)
  have hok : linOk t (castL m) = linN t m := by
    rw [Bool.eq_iff_iff, linOk_iff h0, castL_nat]
    exact ⟨fun h => h.2.2.2, fun h => ⟨hne, hnd, hr, h⟩⟩
  have hfin : atI t.length (castL m) (castL m).length = idxT t m := by rw [hcl]; exact atI_all hml hmn hm
  simp [hneI]
  rw [hok, hfin]
  first
    | refine callk rfl Try.call36 (befM_p t h) rfl ?_
    | refine callks rfl Try.call36 (befM_p t h) rfl ?_
    | refine callq rfl Try.call36 (befM_p t h) rfl ?_
    | refine callqe rfl Try.call36 (befM_p t h) rfl ?_
  simp
  refine go_while hmx 1 (fun (i : Nat) => [(60, .v (.i .i64 (i : Int)))]) (fun _ => [.arr 0 1 (vrows ((idxT t m).map irow))]) (fun i => i ≤ t.length ∧ ∀ i', i' < i → ∀ j, j < t.length → befT t i' j = true → m.idxOf i' ≤ m.idxOf j) (fun i => t.length - i) 0 rfl (by simp) rfl (by simp) (by simp) (by simp) ⟨Nat.zero_le _, fun i' h => by omega⟩ ?_
  rintro i ⟨hi, hai⟩
  by_cases hil : i < t.length
  · have hI : (i : Int) < (t.length : Int) := by omega
    have hw : IntKind.i64.wrap ((i : Int) + 1) = (i : Int) + 1 := wrap_in (by omega) (by omega)
    simp [hI]
    refine go_while hmx 1 (fun (j : Nat) => [(65, .v (.i .i64 (j : Int)))]) (fun _ => [.arr 0 1 (vrows ((idxT t m).map irow))]) (fun j => j ≤ t.length ∧ ∀ j', j' < j → befT t i j' = true → m.idxOf i ≤ m.idxOf j') (fun j => t.length - j) 0 rfl (by simp) rfl (by simp) (by simp) (by simp) ⟨Nat.zero_le _, fun j' h => by omega⟩ ?_
    rintro j ⟨hj, haj⟩
    by_cases hjl : j < t.length
    · have hJ : (j : Int) < (t.length : Int) := by omega
      have hwj : IntKind.i64.wrap ((j : Int) + 1) = (j : Int) + 1 := wrap_in (by omega) (by omega)
      have hnext : (befT t i j = true → m.idxOf i ≤ m.idxOf j) → ∀ j', j' < j + 1 → befT t i j' = true → m.idxOf i ≤ m.idxOf j' := fun hh j' hj' => by
        by_cases e : j' = j
        · subst e; exact hh
        · exact haj j' (by omega)
      by_cases hb : befT t i j = true
      · have hij := bef_lt hb
        have hIJ : (i : Int) < (j : Int) := by omega
        simp [hJ, hI, hIJ, hil, hjl, matV, mat_at, mrow, brow, hb, idxT_get, vrows_at, irow]
        refine ⟨fun hgt => ?_, fun hle => ⟨j + 1, hwj, ⟨by omega, hnext fun _ => by omega⟩, by omega⟩⟩
        rw [Bool.eq_false_iff, Ne, linN_at hml hmn hm]
        intro hc
        have := hc i j hil hjl hb
        omega
      · have hb : befT t i j = false := by simpa using hb
        by_cases hIJ : (i : Int) < (j : Int)
        · simp [hJ, hI, hIJ, hil, hjl, matV, mat_at, mrow, brow, hb, idxT_get, vrows_at, irow]
          exact ⟨j + 1, hwj, ⟨by omega, hnext fun hc => by rw [hb] at hc; cases hc⟩, by omega⟩
        · simp [hJ, hI, hIJ, hil, hjl, matV, mat_at, mrow, brow, hb, idxT_get, vrows_at, irow]
          exact ⟨j + 1, hwj, ⟨by omega, hnext fun hc => by rw [hb] at hc; cases hc⟩, by omega⟩
    · obtain rfl : j = t.length := by omega
      simp
      refine ⟨i + 1, hw, ⟨by omega, fun i' hi' j' hj' => ?_⟩, by omega⟩
      by_cases e : i' = i
      · subst e; exact haj j' hj'
      · exact hai i' (by omega) j' hj'
  · obtain rfl : i = t.length := by omega
    simp
    exact (linN_at hml hmn hm).2 fun i j hi hj => hai i hi j hj
theorem applyR_p (t : List Ev) (ht : t.length < 1000000000000) (l : List Int) (hl : l.length < 100000000000000) : PureS Try.prog 47 [.sl 26 (t.map Ev.row), .sl 1 (l.map irow)] (appR t l) := by
  unfold appR appE
  refine fun_go hmx Try.func47 r47 s47 (by rw [Try.ntmps47]; simp) ?_
  unfold c47
  simp
  first
    | refine callk rfl Try.call22 (checkR_p t (by omega)) rfl ?_
    | refine callks rfl Try.call22 (checkR_p t (by omega)) rfl ?_
    | refine callq rfl Try.call22 (checkR_p t (by omega)) rfl ?_
    | refine callqe rfl Try.call22 (checkR_p t (by omega)) rfl ?_
  by_cases h0 : checkT t = 0
  rotate_left
  · simp [h0]
  have hlen := (good_of h0).len
  simp [h0]
  first
    | refine callk rfl Try.call82 (keeps_p t h0 l hl) rfl ?_
    | refine callks rfl Try.call82 (keeps_p t h0 l hl) rfl ?_
    | refine callq rfl Try.call82 (keeps_p t h0 l hl) rfl ?_
    | refine callqe rfl Try.call82 (keeps_p t h0 l hl) rfl ?_
  by_cases hok : linOk t l = true
  · obtain ⟨h1, h2, h3, h4⟩ := (linOk_iff h0).1 hok
    have hE : listE t l = 0 := by
      unfold linOk at hok
      rw [Bool.and_eq_true, decide_eq_true_eq] at hok
      exact hok.1
    obtain ⟨_, _, _, m, rfl, hm⟩ := listE_ok hE
    have hcl : (castL m).length = m.length := by simp [castL]
    have hml : m.length = t.length := by omega
    have hrow : (castL m).map irow = m.map nrow := by simp [castL, List.map_map, Function.comp_def]
    simp [hok, castL_nat]
    rw [hrow]
    first
      | refine callk rfl Try.call83 (laidR_p t m (by omega) hm) rfl ?_
      | refine callks rfl Try.call83 (laidR_p t m (by omega) hm) rfl ?_
      | refine callq rfl Try.call83 (laidR_p t m (by omega) hm) rfl ?_
      | refine callqe rfl Try.call83 (laidR_p t m (by omega) hm) rfl ?_
    simp
  · have hokf : linOk t l = false := by simpa using hok
    simp [hokf]
theorem same_eventsNil : PureS Try.prog 44 [.nil, .nil] (.b true) := (same_events [] (by simp)).weak (by simp [WkL, Wk])
theorem canonApplies (t : List Ev) (ht : t.length < 1000000000000) (l : List Int) (hl : l.length < 100000000000000) : PureS Try.prog 13 [.sl 26 (t.map Ev.row), .sl 1 (l.map irow)] (.b true) := by
  refine fun_go hmx Try.func13 r13 s13 (by rw [Try.ntmps13]; simp) ?_
  unfold c13
  simp
  first
    | refine callk rfl Try.call46 (apply_p t ht l hl) rfl ?_
    | refine callks rfl Try.call46 (apply_p t ht l hl) rfl ?_
    | refine callq rfl Try.call46 (apply_p t ht l hl) rfl ?_
    | refine callqe rfl Try.call46 (apply_p t ht l hl) rfl ?_
  simp [appR]
  first
    | refine callk rfl Try.call47 (applyR_p t ht l hl) rfl ?_
    | refine callks rfl Try.call47 (applyR_p t ht l hl) rfl ?_
    | refine callq rfl Try.call47 (applyR_p t ht l hl) rfl ?_
    | refine callqe rfl Try.call47 (applyR_p t ht l hl) rfl ?_
  simp [appR]
  by_cases hE : appE t l = 0
  · simp [hE]
    have hlen : (laidN t (l.map Int.toNat)).length < 1000000000000 := by
      unfold appE at hE
      split at hE
      · rename_i h0
        split at hE
        · rename_i hok
          have := ((linOk_iff h0).1 hok).1
          simp [laidN]; omega
        · cases hE
      · rename_i h0; exact absurd hE h0
    first
      | refine callk rfl Try.call44 (same_events _ hlen) rfl ?_
      | refine callks rfl Try.call44 (same_events _ hlen) rfl ?_
      | refine callq rfl Try.call44 (same_events _ hlen) rfl ?_
      | refine callqe rfl Try.call44 (same_events _ hlen) rfl ?_
    simp
    first
      | refine callkg rfl Try.call19 rfl (fun _ => small_p) (fun hG => by first | (simp; done) | (simp at hG; done) | simpa using hG) rfl ?_
      | refine callksg rfl Try.call19 rfl (fun _ => small_p) (fun hG => by first | (simp; done) | (simp at hG; done) | simpa using hG) rfl ?_
      | refine callqg rfl Try.call19 rfl (fun _ => small_p) (fun hG => by first | (simp; done) | (simp at hG; done) | simpa using hG) rfl ?_
    simp
  · simp [hE]
    first
      | refine callk rfl Try.call44 same_eventsNil rfl ?_
      | refine callks rfl Try.call44 same_eventsNil rfl ?_
      | refine callq rfl Try.call44 same_eventsNil rfl ?_
      | refine callqe rfl Try.call44 same_eventsNil rfl ?_
    simp
    first
      | refine callkg rfl Try.call19 rfl (fun _ => small_p) (fun hG => by first | (simp; done) | (simp at hG; done) | simpa using hG) rfl ?_
      | refine callksg rfl Try.call19 rfl (fun _ => small_p) (fun hG => by first | (simp; done) | (simp at hG; done) | simpa using hG) rfl ?_
      | refine callqg rfl Try.call19 rfl (fun _ => small_p) (fun hG => by first | (simp; done) | (simp at hG; done) | simpa using hG) rfl ?_
    simp
end Go.Sc.Or
