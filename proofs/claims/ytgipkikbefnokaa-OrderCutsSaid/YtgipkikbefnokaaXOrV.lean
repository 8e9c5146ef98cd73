/- Chapter 12: Closed, Cut, Linear. No condition. -/
import Derived.Test.YtgipkikbefnokaaXOrU
set_option linter.constructorNameAsVariable false
namespace Go.Sc.Or
open Go Go.RowKit Go.Av Go.Proofs Go.Sc Go.Shelf Go.Sort Go.Sc.Srt
set_option linter.unusedSimpArgs false
set_option linter.unusedVariables false
/-! ### In plain words -/
theorem rises_ext : ∀ {l m : List Int}, l.Pairwise (· < ·) → m.Pairwise (· < ·) → (∀ x, x ∈ l ↔ x ∈ m) → l = m
  | [], [], _, _, _ => rfl
  | [], b :: m, _, _, h => by have := (h b).2 (by simp); cases this
  | a :: l, [], _, _, h => by have := (h a).1 (by simp); cases this
  | a :: l, b :: m, hl, hm, h => by
    rw [List.pairwise_cons] at hl hm
    have hab : a = b := by
      have h1 := (h a).1 (by simp)
      have h2 := (h b).2 (by simp)
      rw [List.mem_cons] at h1 h2
      rcases h1 with h1 | h1
      · exact h1
      · rcases h2 with h2 | h2
        · exact h2.symm
        · have := hl.1 b h2; have := hm.1 a h1; omega
    subst hab
    congr 1
    refine rises_ext hl.2 hm.2 fun x => ?_
    have := h x
    rw [List.mem_cons, List.mem_cons] at this
    constructor
    · intro hx
      have hax := hl.1 x hx
      rcases this.1 (.inr hx) with rfl | h2
      · omega
      · exact h2
    · intro hx
      have hax := hm.1 x hx
      rcases this.2 (.inr hx) with rfl | h2
      · omega
      · exact h2
theorem sortI_perm (l : List Int) : (sortI l).Perm l := List.mergeSort_perm ..
theorem sortI_len (l : List Int) : (sortI l).length = l.length := List.length_mergeSort _
theorem sortI_sorted (l : List Int) : SortedTo (fun a b => decide (a < b)) (sortI l) (sortI l).length := by
  intro a b x y hab hb hx hy
  have hp : (sortI l).Pairwise fun x y => decide (x ≤ y) = true := List.pairwise_mergeSort (fun a b c h1 h2 => by simp at *; omega) (fun a b => by simp; omega) l
  obtain ⟨h1, rfl⟩ := List.getElem?_eq_some_iff.1 hx
  obtain ⟨h2, rfl⟩ := List.getElem?_eq_some_iff.1 hy
  have := List.pairwise_iff_getElem.1 hp a b h1 h2 hab
  simp at this ⊢
  exact this
def setI (l : List Int) : List Int := ddL (sortI l)
theorem setI_rises (l : List Int) : (setI l).Pairwise (· < ·) := dd_rises _ (sortI_sorted l) _ (Nat.le_refl _)
theorem setI_mem {l : List Int} {x : Int} : x ∈ setI l ↔ x ∈ l := by
  unfold setI ddL
  rw [dd_mem _ _ (Nat.le_refl _), List.take_length]
  exact (sortI_perm l).mem_iff
theorem dd_sub (l : List Int) : ∀ p, p ≤ l.length → (dd l p).length = p → dd l p = l.take p
  | 0, _, _ => by simp [dd]
  | p + 1, hp, h => by
    have hg : l[p]? = some l[p] := List.getElem?_eq_getElem (by omega)
    have hl := dd_len l p
    rw [dd, hg] at h ⊢
    simp only at h ⊢
    split at h
    · omega
    · rename_i hc
      rw [if_neg hc]
      rw [List.length_append] at h
      have := dd_sub l p (by omega) (by simpa using h)
      rw [this, List.take_succ_eq_append_getElem (by omega)]
theorem rises_nodup {l : List Int} (h : l.Pairwise (· < ·)) : l.Nodup := h.imp fun {a b} h hc => by omega
/-- Each once: just if the set has as many. -/
theorem setI_nodup {l : List Int} : (setI l).length = l.length ↔ l.Nodup := by
  constructor
  · intro h
    have h1 := rises_nodup (setI_rises l)
    have h2 : setI l = sortI l := by
      have := dd_sub (sortI l) (sortI l).length (Nat.le_refl _) (h.trans (sortI_len l).symm)
      rw [List.take_length] at this
      exact this
    rw [h2] at h1
    exact (sortI_perm l).nodup_iff.1 h1
  · intro h
    exact ((List.perm_ext_iff_of_nodup (rises_nodup (setI_rises l)) h).2 fun x => setI_mem).length_eq
def castL (l : List Nat) : List Int := l.map fun n : Nat => (n : Int)
theorem mem_castL {l : List Nat} {n : Nat} : (n : Int) ∈ castL l ↔ n ∈ l := by
  unfold castL
  rw [List.mem_map]
  constructor
  · rintro ⟨m, hm, he⟩; obtain rfl : m = n := by omega
    exact hm
  · exact fun h => ⟨n, h, rfl⟩
theorem castL_of {l : List Nat} {x : Int} (h : x ∈ castL l) : ∃ n : Nat, x = (n : Int) ∧ n ∈ l := by
  unfold castL at h
  rw [List.mem_map] at h
  obtain ⟨n, hn, rfl⟩ := h
  exact ⟨n, rfl, hn⟩
/-- Places with all of their past. -/
def closN (t : List Ev) (l : List Nat) : List Nat := selTo (fun i => l.any fun q => decide (i = q) || befT t i q) t.length
theorem mem_closN {t : List Ev} {l : List Nat} {i : Nat} : i ∈ closN t l ↔ i < t.length ∧ ∃ q ∈ l, i = q ∨ befT t i q = true := by
  unfold closN
  rw [selTo_mem, List.any_eq_true]
  simp only [Bool.or_eq_true, decide_eq_true_eq]
theorem closN_rises (t : List Ev) (l : List Nat) : (castL (closN t l)).Pairwise (· < ·) := by
  unfold castL
  refine List.Pairwise.map _ ?_ (selTo_sorted _ _)
  intro a b h; omega
theorem mem_gath {t : List Ev} {l : List Nat} {i : Nat} : i ∈ gath t l l ↔ ∃ q ∈ l, i = q ∨ befT t i q = true := by
  unfold gath
  rw [List.mem_append, List.mem_flatten]
  constructor
  · rintro (h | ⟨r, hr, hi⟩)
    · exact ⟨i, h, .inl rfl⟩
    · rw [List.mem_map] at hr
      obtain ⟨q, hq, rfl⟩ := hr
      exact ⟨q, hq, .inr (mem_past.1 hi)⟩
  · rintro ⟨q, hq, rfl | h⟩
    · exact .inl hq
    · exact .inr ⟨_, List.mem_map.2 ⟨q, hq, rfl⟩, mem_past.2 h⟩
theorem closedI_eq {t : List Ev} {l : List Nat} (hp : ∀ i ∈ l, i < t.length) : closedI t l = castL (closN t l) := by
  show setI (castL (gath t l l)) = _
  refine rises_ext (setI_rises _) (closN_rises t l) fun x => ?_
  rw [setI_mem]
  constructor
  · intro h
    obtain ⟨n, rfl, hn⟩ := castL_of h
    rw [mem_castL, mem_closN]
    rw [mem_gath] at hn
    refine ⟨?_, hn⟩
    obtain ⟨q, hq, rfl | hb⟩ := hn
    · exact hp _ hq
    · have := bef_lt hb; have := hp q hq; omega
  · intro h
    obtain ⟨n, rfl, hn⟩ := castL_of h
    rw [mem_castL, mem_gath]
    exact (mem_closN.1 hn).2
/-- Are places a cut? -/
def cutN (t : List Ev) (l : List Nat) : Bool := (closN t l).all fun i => l.contains i
theorem cut_eq {t : List Ev} {l : List Nat} (hp : ∀ i ∈ l, i < t.length) : decide (setI (castL l) = closedI t l) = cutN t l := by
  rw [closedI_eq hp, Bool.eq_iff_iff, decide_eq_true_eq]
  unfold cutN
  rw [List.all_eq_true]
  simp only [List.contains_iff_mem]
  constructor
  · intro h i hi
    have : (i : Int) ∈ castL (closN t l) := mem_castL.2 hi
    rw [← h, setI_mem, mem_castL] at this
    exact this
  · intro h
    refine rises_ext (setI_rises _) (closN_rises t l) fun x => ?_
    rw [setI_mem]
    constructor
    · intro hx
      obtain ⟨n, rfl, hn⟩ := castL_of hx
      rw [mem_castL, mem_closN]
      exact ⟨hp n hn, n, hn, .inl rfl⟩
    · intro hx
      obtain ⟨n, rfl, hn⟩ := castL_of hx
      rw [mem_castL]
      exact h n hn
/-- Does an order keep what happens before what? -/
def linN (t : List Ev) (l : List Nat) : Bool := (List.range l.length).all fun b => (List.range b).all fun a => !befT t (l.getD b 0) (l.getD a 0)
theorem linN_iff {t : List Ev} {l : List Nat} : linN t l = true ↔ ∀ b, b < l.length → ∀ a, a < b → befT t (l.getD b 0) (l.getD a 0) = false := by
  unfold linN
  simp only [List.all_eq_true, List.mem_range, Bool.not_eq_true']
/-- What is wrong with a list of places of a trace. -/
def listE (t : List Ev) (l : List Int) : Int := if checkT t = 0 then (if 256 < l.length then 2 else askT t l) else checkT t
theorem listE_wrong {t : List Ev} (h : ¬ checkT t = 0) (l : List Int) : listE t l = checkT t := if_neg h
theorem listE_ok {t : List Ev} {l : List Int} (h : listE t l = 0) : checkT t = 0 ∧ Good t ∧ l.length ≤ 256 ∧ ∃ m : List Nat, l = castL m ∧ ∀ i ∈ m, i < t.length := by
  unfold listE at h
  split at h
  · rename_i h0
    split at h
    · cases h
    · obtain ⟨hG, hp⟩ := ask_ok h
      refine ⟨h0, hG, by omega, l.map Int.toNat, ?_, fun i hi => ?_⟩
      · unfold castL
        rw [List.map_map]
        refine (List.map_id l).symm.trans (List.map_congr_left fun x hx => ?_)
        have := hp x hx
        simp only [id, Function.comp]
        omega
      · rw [List.mem_map] at hi
        obtain ⟨x, hx, rfl⟩ := hi
        have := hp x hx
        omega
  · rename_i h0; exact absurd h h0
/-! ### The walks -/
/-- scarab/order.listed -/
def c84 : ACode :=
  (.seq (.reg none [⟨some 4, none, .m (.alloc (.g [.nil, .nil]))⟩, ⟨some 5, none, .q (.mv (.c (.i .i64 0)))⟩])
  (.keep [0, 1, 4]
  (.seq (.seq (.reg none [⟨some 7, none, .q (.mv (.t 0))⟩, ⟨some 8, none, .call (.f 55) [(.t 7)]⟩, ⟨some 6, none, .q (.mv (.t 8))⟩])
    (.keep [0, 1, 4, 6]
    (.seq (.reg none [⟨some 9, none, .q (.mv (.t 6))⟩, ⟨some 10, none, .q (.bin .neq (.t 9) (.c (.i .i64 0)))⟩])
    (.keep [0, 1, 4, 6, 10]
    (.cond (.t 10) (.seq (.reg none [⟨some 11, none, .q (.bld [.nil, .nil] [])⟩, ⟨some 12, none, .q (.mv (.t 6))⟩, ⟨none, none, .m (.st 2 (.t 4) (.t 11))⟩, ⟨some 5, none, .q (.mv (.t 12))⟩])
      .ret)
    .skip)))))
  (.seq (.seq (.reg none [⟨some 13, none, .q (.mv (.t 1))⟩, ⟨some 14, none, .q (.len false (.t 13))⟩, ⟨some 15, none, .q (.bin .gtr (.t 14) (.c (.i .i64 256)))⟩])
    (.keep [0, 1, 4, 15]
    (.cond (.t 15) (.seq (.reg none [⟨some 16, none, .q (.bld [.nil, .nil] [])⟩, ⟨none, none, .m (.st 2 (.t 4) (.t 16))⟩, ⟨some 5, none, .q (.mv (.c (.i .i64 2)))⟩])
      .ret)
    .skip)))
  (.seq (.reg none [⟨some 17, none, .q (.mv (.t 0))⟩, ⟨some 18, none, .q (.mv (.t 1))⟩, ⟨some 19, none, .call (.f 60) [(.t 17), (.t 18)]⟩, ⟨some 20, none, .q (.ext 0 (.t 19))⟩, ⟨some 21, none, .q (.ext 1 (.t 19))⟩, ⟨none, none, .m (.st 2 (.t 4) (.t 20))⟩, ⟨some 5, none, .q (.mv (.t 21))⟩])
  .ret)))))
theorem r84 : (Try.f84.body.bind (resC Try.prog Try.f84.ntmps)) = some (strip c84) := by kernel_rfl
theorem s84 : Try.f84.results.toList.mapM (resRes Try.prog) = some [.c 4 (some 2), .t 5] := by kernel_rfl
/-- scarab/order.Closed -/
def c51 : ACode :=
  (.seq (.reg none [⟨some 4, none, .q (.mv (.c .nil))⟩, ⟨some 5, none, .q (.mv (.c (.i .i64 0)))⟩])
  (.keep [0, 1]
  (.seq (.reg none [⟨some 9, none, .q (.mv (.t 0))⟩, ⟨some 10, none, .q (.mv (.t 1))⟩, ⟨some 11, none, .call (.f 84) [(.t 9), (.t 10)]⟩, ⟨some 8, none, .q (.mv (.t 11))⟩, ⟨some 12, none, .q (.ext 0 (.t 8))⟩, ⟨some 13, none, .q (.ext 1 (.t 8))⟩, ⟨some 6, none, .m (.alloc (.g [.nil, .nil]))⟩, ⟨none, none, .m (.st 2 (.t 6) (.t 12))⟩, ⟨some 7, none, .q (.mv (.t 13))⟩])
  (.keep [1, 6, 7]
  (.seq (.seq (.reg none [⟨some 14, none, .q (.mv (.t 7))⟩, ⟨some 15, none, .q (.bin .neq (.t 14) (.c (.i .i64 0)))⟩])
    (.keep [1, 6, 7, 15]
    (.cond (.t 15) (.seq (.reg none [⟨some 16, none, .q (.mv (.t 7))⟩, ⟨some 4, none, .q (.mv (.c .nil))⟩, ⟨some 5, none, .q (.mv (.t 16))⟩])
      .ret)
    .skip)))
  (.seq (.reg none [⟨some 17, none, .q (.ld (some 2) (.t 6))⟩, ⟨some 18, none, .q (.mv (.t 1))⟩, ⟨some 19, none, .call (.f 90) [(.t 17), (.t 18)]⟩, ⟨some 4, none, .q (.mv (.t 19))⟩, ⟨some 5, none, .q (.mv (.c (.i .i64 0)))⟩])
  .ret))))))
theorem r51 : (Try.f51.body.bind (resC Try.prog Try.f51.ntmps)) = some (strip c51) := by kernel_rfl
theorem s51 : Try.f51.results.toList.mapM (resRes Try.prog) = some [.t 4, .t 5] := by kernel_rfl
/-- scarab/order.Cut -/
def c50 : ACode :=
  (.seq (.reg none [⟨some 4, none, .q (.mv (.c (.b false)))⟩, ⟨some 5, none, .q (.mv (.c (.i .i64 0)))⟩])
  (.keep [0, 1]
  (.seq (.reg none [⟨some 10, none, .q (.mv (.t 0))⟩, ⟨some 11, none, .q (.mv (.t 1))⟩, ⟨some 12, none, .call (.f 84) [(.t 10), (.t 11)]⟩, ⟨some 9, none, .q (.mv (.t 12))⟩, ⟨some 13, none, .q (.ext 0 (.t 9))⟩, ⟨some 14, none, .q (.ext 1 (.t 9))⟩, ⟨some 6, none, .m (.alloc (.g [.nil, .nil]))⟩, ⟨none, none, .m (.st 2 (.t 6) (.t 13))⟩, ⟨some 7, none, .q (.mv (.t 14))⟩])
  (.keep [1, 6, 7]
  (.seq (.seq (.reg none [⟨some 15, none, .q (.mv (.t 7))⟩, ⟨some 16, none, .q (.bin .neq (.t 15) (.c (.i .i64 0)))⟩])
    (.keep [1, 6, 7, 16]
    (.cond (.t 16) (.seq (.reg none [⟨some 17, none, .q (.mv (.t 7))⟩, ⟨some 4, none, .q (.mv (.c (.b false)))⟩, ⟨some 5, none, .q (.mv (.t 17))⟩])
      .ret)
    .skip)))
  (.seq (.reg none [⟨some 18, none, .q (.mv (.t 1))⟩, ⟨some 19, none, .call (.f 86) [(.t 18)]⟩, ⟨some 20, none, .call (.f 85) [(.t 19)]⟩, ⟨some 8, none, .q (.mv (.t 20))⟩])
  (.keep [1, 6, 8]
  (.seq (.reg (some (3, [1])) [⟨some 21, none, .q (.mv (.t 8))⟩, ⟨some 23, none, .q (.ld (some 2) (.t 6))⟩, ⟨some 24, none, .q (.mv (.t 1))⟩, ⟨some 22, none, .call (.f 87) [(.t 21)]⟩, ⟨some 25, none, .call (.f 90) [(.t 23), (.t 24)]⟩, ⟨some 26, none, .call (.f 89) [(.t 22), (.t 25)]⟩, ⟨some 4, none, .q (.mv (.t 26))⟩, ⟨some 5, none, .q (.mv (.c (.i .i64 0)))⟩])
  .ret))))))))
theorem r50 : (Try.f50.body.bind (resCX true Try.prog Try.f50.ntmps)) = some (strip c50) := by kernel_rfl
theorem s50 : Try.f50.results.toList.mapM (resRes Try.prog) = some [.t 4, .t 5] := by kernel_rfl
/-- scarab/order.Linear -/
def c48 : ACode :=
  (.seq (.reg none [⟨some 4, none, .q (.mv (.c (.b false)))⟩, ⟨some 5, none, .q (.mv (.c (.i .i64 0)))⟩])
  (.keep [0, 1]
  (.seq (.reg none [⟨some 14, none, .q (.mv (.t 0))⟩, ⟨some 15, none, .q (.mv (.t 1))⟩, ⟨some 16, none, .call (.f 84) [(.t 14), (.t 15)]⟩, ⟨some 13, none, .q (.mv (.t 16))⟩, ⟨some 17, none, .q (.ext 0 (.t 13))⟩, ⟨some 18, none, .q (.ext 1 (.t 13))⟩, ⟨some 6, none, .m (.alloc (.g [.nil, .nil]))⟩, ⟨none, none, .m (.st 2 (.t 6) (.t 17))⟩, ⟨some 7, none, .q (.mv (.t 18))⟩])
  (.keep [0, 1, 6, 7]
  (.seq (.seq (.reg none [⟨some 19, none, .q (.mv (.t 7))⟩, ⟨some 20, none, .q (.bin .neq (.t 19) (.c (.i .i64 0)))⟩])
    (.keep [0, 1, 6, 7, 20]
    (.cond (.t 20) (.seq (.reg none [⟨some 21, none, .q (.mv (.t 7))⟩, ⟨some 4, none, .q (.mv (.c (.b false)))⟩, ⟨some 5, none, .q (.mv (.t 21))⟩])
      .ret)
    .skip)))
  (.seq (.reg none [⟨some 22, none, .q (.mv (.t 1))⟩, ⟨some 23, none, .call (.f 86) [(.t 22)]⟩, ⟨some 24, none, .call (.f 85) [(.t 23)]⟩, ⟨some 8, none, .q (.mv (.t 24))⟩])
  (.keep [0, 1, 6, 8]
  (.seq (.seq (.reg none [⟨some 25, none, .q (.mv (.t 8))⟩, ⟨some 26, none, .call (.f 87) [(.t 25)]⟩, ⟨some 27, none, .q (.len false (.t 26))⟩, ⟨some 28, none, .q (.mv (.t 0))⟩, ⟨some 29, none, .q (.len false (.t 28))⟩, ⟨some 30, none, .q (.bin .neq (.t 27) (.t 29))⟩, ⟨some 31, none, .q (.mv (.t 30))⟩, ⟨some 32, some (31, false), .q (.mv (.t 1))⟩, ⟨some 33, some (31, false), .q (.len false (.t 32))⟩, ⟨some 34, some (31, false), .q (.mv (.t 0))⟩, ⟨some 35, some (31, false), .q (.len false (.t 34))⟩, ⟨some 36, some (31, false), .q (.bin .neq (.t 33) (.t 35))⟩, ⟨some 37, none, .pk (.t 31) (.c (.b true)) (.t 36)⟩])
    (.keep [1, 6, 37]
    (.cond (.t 37) (.seq (.reg none [⟨some 4, none, .q (.mv (.c (.b false)))⟩, ⟨some 5, none, .q (.mv (.c (.i .i64 1)))⟩])
      .ret)
    .skip)))
  (.seq (.seq (.reg none [⟨some 38, none, .q (.mv (.t 1))⟩, ⟨some 39, none, .q (.len false (.t 38))⟩, ⟨some 40, none, .q (.mv (.c (.i .i64 0)))⟩])
    (.keep [1, 6, 38, 39, 40]
    (.blk 0 (.keep [1, 6, 38, 39, 40]
    (.loop (.fin [1, 6, 38, 39, 40]
      (.seq (.reg none [⟨some 41, none, .q (.bin .lss (.t 40) (.t 39))⟩])
      (.keep [1, 6, 38, 39, 40, 41]
      (.seq (.cond (.t 41) .skip
        (.exit 0))
      (.seq (.blk 1 (.seq (.reg none [⟨some 42, none, .q (.mv (.t 40))⟩, ⟨some 43, none, .q (.ias 1 (.t 38) (.t 40))⟩, ⟨some 44, none, .q (.ld none (.t 43))⟩, ⟨some 9, none, .q (.mv (.t 42))⟩, ⟨some 10, none, .q (.mv (.t 44))⟩])
        (.keep [1, 6, 9, 10, 38, 39, 40]
        (.seq (.reg none [⟨some 45, none, .q (.mv (.t 1))⟩, ⟨some 46, none, .q (.mv (.t 9))⟩, ⟨some 47, none, .q (.bin .add (.t 46) (.c (.i .i64 1)))⟩, ⟨some 48, none, .q (.sls 1 (.t 45) (some (.t 47)) none)⟩, ⟨some 49, none, .q (.len false (.t 48))⟩, ⟨some 50, none, .q (.mv (.c (.i .i64 0)))⟩])
        (.keep [1, 6, 10, 38, 39, 40, 48, 49, 50]
        (.blk 2 (.keep [1, 6, 10, 38, 39, 40, 48, 49, 50]
        (.loop (.fin [1, 6, 10, 38, 39, 40, 48, 49, 50]
          (.seq (.reg none [⟨some 51, none, .q (.bin .lss (.t 50) (.t 49))⟩])
          (.keep [1, 6, 10, 38, 39, 40, 48, 49, 50, 51]
          (.seq (.cond (.t 51) .skip
            (.exit 2))
          (.seq (.blk 3 (.seq (.reg none [⟨some 52, none, .q (.ias 1 (.t 48) (.t 50))⟩, ⟨some 53, none, .q (.ld none (.t 52))⟩, ⟨some 12, none, .q (.mv (.t 53))⟩])
            (.keep [1, 6, 10, 12, 38, 39, 40, 48, 49, 50]
            (.seq (.reg none [⟨some 54, none, .q (.ld (some 2) (.t 6))⟩, ⟨some 55, none, .q (.mv (.t 12))⟩, ⟨some 56, none, .q (.mv (.t 10))⟩, ⟨some 57, none, .call (.f 64) [(.t 54), (.t 55), (.t 56)]⟩])
            (.keep [1, 6, 10, 38, 39, 40, 48, 49, 50, 57]
            (.cond (.t 57) (.seq (.reg none [⟨some 4, none, .q (.mv (.c (.b false)))⟩, ⟨some 5, none, .q (.mv (.c (.i .i64 0)))⟩])
              .ret)
            .skip))))))
          (.keep [1, 6, 10, 38, 39, 40, 48, 49, 50]
          (.reg none [⟨some 58, none, .q (.bin .add (.t 50) (.c (.i .i64 1)))⟩, ⟨some 50, none, .q (.mv (.t 58))⟩])))))))))))))))
      (.keep [1, 6, 38, 39, 40]
      (.reg none [⟨some 59, none, .q (.bin .add (.t 40) (.c (.i .i64 1)))⟩, ⟨some 40, none, .q (.mv (.t 59))⟩]))))))))))))
  (.seq (.reg none [⟨some 4, none, .q (.mv (.c (.b true)))⟩, ⟨some 5, none, .q (.mv (.c (.i .i64 0)))⟩])
  .ret))))))))))
theorem r48 : (Try.f48.body.bind (resC Try.prog Try.f48.ntmps)) = some (strip c48) := by kernel_rfl
theorem s48 : Try.f48.results.toList.mapM (resRes Try.prog) = some [.t 4, .t 5] := by kernel_rfl
/-- slices.Equal[[]int,int] -/
def c89 : ACode :=
  (.seq (.reg none [⟨some 4, none, .q (.mv (.c (.b false)))⟩])
  (.keep [0, 1]
  (.seq (.seq (.reg none [⟨some 6, none, .q (.mv (.t 0))⟩, ⟨some 7, none, .q (.len false (.t 6))⟩, ⟨some 8, none, .q (.mv (.t 1))⟩, ⟨some 9, none, .q (.len false (.t 8))⟩, ⟨some 10, none, .q (.bin .neq (.t 7) (.t 9))⟩])
    (.keep [0, 1, 10]
    (.cond (.t 10) (.seq (.reg none [⟨some 4, none, .q (.mv (.c (.b false)))⟩])
      .ret)
    .skip)))
  (.seq (.seq (.reg none [⟨some 11, none, .q (.mv (.t 0))⟩, ⟨some 12, none, .q (.len false (.t 11))⟩, ⟨some 13, none, .q (.mv (.c (.i .i64 0)))⟩])
    (.keep [0, 1, 12, 13]
    (.blk 0 (.keep [0, 1, 12, 13]
    (.loop (.fin [0, 1, 12, 13]
      (.seq (.reg none [⟨some 14, none, .q (.bin .lss (.t 13) (.t 12))⟩])
      (.keep [0, 1, 12, 13, 14]
      (.seq (.cond (.t 14) .skip
        (.exit 0))
      (.seq (.blk 1 (.seq (.reg none [⟨some 15, none, .q (.mv (.t 13))⟩, ⟨some 5, none, .q (.mv (.t 15))⟩])
        (.keep [0, 1, 5, 12, 13]
        (.seq (.reg (some (9, [])) [⟨some 16, none, .q (.mv (.t 0))⟩, ⟨some 17, none, .q (.mv (.t 5))⟩, ⟨some 18, none, .q (.ias 1 (.t 16) (.t 17))⟩, ⟨some 19, none, .q (.ld none (.t 18))⟩, ⟨some 20, none, .q (.mv (.t 1))⟩, ⟨some 21, none, .q (.mv (.t 5))⟩, ⟨some 22, none, .q (.ias 1 (.t 20) (.t 21))⟩, ⟨some 23, none, .q (.ld none (.t 22))⟩, ⟨some 24, none, .q (.bin .neq (.t 19) (.t 23))⟩])
        (.keep [0, 1, 12, 13, 24]
        (.cond (.t 24) (.seq (.reg none [⟨some 4, none, .q (.mv (.c (.b false)))⟩])
          .ret)
        .skip))))))
      (.keep [0, 1, 12, 13]
      (.reg none [⟨some 25, none, .q (.bin .add (.t 13) (.c (.i .i64 1)))⟩, ⟨some 13, none, .q (.mv (.t 25))⟩]))))))))))))
  (.seq (.reg none [⟨some 4, none, .q (.mv (.c (.b true)))⟩])
  .ret)))))
theorem r89 : (Try.f89.body.bind (resC Try.prog Try.f89.ntmps)) = some (strip c89) := by kernel_rfl
theorem s89 : Try.f89.results.toList.mapM (resRes Try.prog) = some [.t 4] := by kernel_rfl
theorem listed_p (t : List Ev) (ht : t.length < 4611686018427387904) (l : List Int) (hl : l.length < 100000000000000) : PureS Try.prog 84 [.sl 26 (t.map Ev.row), .sl 1 (l.map irow)] (.tup [if listE t l = 0 then tabV t else .g [.nil, .nil], .i .i64 (listE t l)]) := by
  refine fun_go hmx Try.func84 r84 s84 (by rw [Try.ntmps84]; simp) ?_
  unfold c84
  simp
  first
    | refine callk rfl Try.call55 (check_p t ht) rfl ?_
    | refine callks rfl Try.call55 (check_p t ht) rfl ?_
    | refine callq rfl Try.call55 (check_p t ht) rfl ?_
    | refine callqe rfl Try.call55 (check_p t ht) rfl ?_
  by_cases h0 : checkT t = 0
  rotate_left
  · simp [h0, listE]
  simp [h0]
  by_cases h2 : 256 < l.length
  · have h2I : (256 : Int) < (l.length : Int) := by omega
    simp [h0, listE, h2, h2I]
    intro h3; omega
  have h2I : ¬ (256 : Int) < (l.length : Int) := by omega
  simp [h2I]
  intro _
  first
    | refine callk rfl Try.call60 (asked_p t l ht (by omega)) rfl ?_
    | refine callks rfl Try.call60 (asked_p t l ht (by omega)) rfl ?_
    | refine callq rfl Try.call60 (asked_p t l ht (by omega)) rfl ?_
    | refine callqe rfl Try.call60 (asked_p t l ht (by omega)) rfl ?_
  by_cases ha : askT t l = 0 <;> simp [listE, h0, h2, askV, tabV, ha]
theorem closed_a (t : List Ev) (h : Good t) (m : List Nat) (hl : m.length ≤ 256) (hp : ∀ i ∈ m, i < t.length) : PureS Try.prog 90 [tabV t, .sl 1 ((castL m).map irow)] (.sl 1 ((castL (closN t m)).map irow)) := by
  by_cases h0 : m = []
  · subst h0
    have : closN t [] = [] := by simp [closN, selTo]
    rw [this]
    exact closed_nil t
  · have := closed_p t h m hl hp h0
    rw [closedI_eq hp] at this
    have e : m.map nrow = (castL m).map irow := by simp [castL]
    rw [e] at this
    exact this
theorem castL_nat (m : List Nat) : (castL m).map Int.toNat = m := by
  unfold castL
  rw [List.map_map]
  exact (List.map_congr_left fun x _ => by simp).trans (List.map_id m)
theorem closed_all (t : List Ev) (ht : t.length < 4611686018427387904) (l : List Int) (hl : l.length < 100000000000000) : PureS Try.prog 51 [.sl 26 (t.map Ev.row), .sl 1 (l.map irow)] (.tup [if listE t l = 0 then .sl 1 ((castL (closN t (l.map Int.toNat))).map irow) else .nil, .i .i64 (listE t l)]) := by
  refine fun_go hmx Try.func51 r51 s51 (by rw [Try.ntmps51]; simp) ?_
  unfold c51
  simp
  first
    | refine callk rfl Try.call84 (listed_p t ht l hl) rfl ?_
    | refine callks rfl Try.call84 (listed_p t ht l hl) rfl ?_
    | refine callq rfl Try.call84 (listed_p t ht l hl) rfl ?_
    | refine callqe rfl Try.call84 (listed_p t ht l hl) rfl ?_
  by_cases h0 : listE t l = 0
  rotate_left
  · simp [h0]
  obtain ⟨_, hG, hll, m, rfl, hm⟩ := listE_ok h0
  have hmm : (castL m).map Int.toNat = m := castL_nat m
  rw [hmm]
  simp [h0, tabV]
  first
    | refine callk rfl Try.call90 (closed_a t hG m (by simpa [castL] using hll) hm) rfl ?_
    | refine callks rfl Try.call90 (closed_a t hG m (by simpa [castL] using hll) hm) rfl ?_
    | refine callq rfl Try.call90 (closed_a t hG m (by simpa [castL] using hll) hm) rfl ?_
    | refine callqe rfl Try.call90 (closed_a t hG m (by simpa [castL] using hll) hm) rfl ?_
  simp
theorem equal_p (a b : List Int) (ha : a.length < 1000000) : PureS Try.prog 89 [.sl 1 (a.map irow), .sl 1 (b.map irow)] (.b (decide (a = b))) := by
  refine fun_go hmx Try.func89 r89 s89 (by rw [Try.ntmps89]; simp) ?_
  unfold c89
  simp
  refine ⟨fun hl hc => hl (by rw [hc]), fun hl => ?_⟩
  have hl : a.length = b.length := by omega
  refine go_while hmx 0 (fun (k : Nat) => [(13, .v (.i .i64 (k : Int)))]) (fun _ => []) (fun k => k ≤ a.length ∧ a.take k = b.take k) (fun k => a.length - k) 0 rfl (by simp) rfl (by simp) (by simp) (by simp) ⟨Nat.zero_le _, by simp⟩ ?_
  rintro k ⟨hk, he⟩
  by_cases hkl : k < a.length
  · have hI : (k : Int) < (a.length : Int) := by omega
    have hkb : k < b.length := by omega
    have hIb : (k : Int) < (b.length : Int) := by omega
    have hw : IntKind.i64.wrap ((k : Int) + 1) = (k : Int) + 1 := wrap_in (by omega) (by omega)
    simp [hI, hIb, hkl, hkb, irow]
    refine ⟨fun h1 h2 => h1 (by subst h2; rfl), fun h1 => ⟨k + 1, by rw [hw]; rfl, ⟨by omega, ?_⟩, by omega⟩⟩
    rw [List.take_succ_eq_append_getElem hkl, List.take_succ_eq_append_getElem hkb, he, h1]
  · obtain rfl : k = a.length := by omega
    rw [hl, List.take_length, ← hl, List.take_length] at he
    subst he
    simp
theorem cut_all (t : List Ev) (ht : t.length < 4611686018427387904) (l : List Int) (hl : l.length < 100000000000000) : PureS Try.prog 50 [.sl 26 (t.map Ev.row), .sl 1 (l.map irow)] (.tup [.b (decide (listE t l = 0) && cutN t (l.map Int.toNat)), .i .i64 (listE t l)]) := by
  refine fun_go hmx Try.func50 r50 s50 (by rw [Try.ntmps50]; simp) ?_
  unfold c50
  simp
  first
    | refine callk rfl Try.call84 (listed_p t ht l hl) rfl ?_
    | refine callks rfl Try.call84 (listed_p t ht l hl) rfl ?_
    | refine callq rfl Try.call84 (listed_p t ht l hl) rfl ?_
    | refine callqe rfl Try.call84 (listed_p t ht l hl) rfl ?_
  by_cases h0 : listE t l = 0
  rotate_left
  · simp [h0]
  obtain ⟨_, hG, hll, m, rfl, hm⟩ := listE_ok h0
  have hmm : (castL m).map Int.toNat = m := castL_nat m
  rw [hmm]
  simp [h0, tabV]
  first
    | refine callk rfl Try.call86 (values_p (castL m)) rfl ?_
    | refine callks rfl Try.call86 (values_p (castL m)) rfl ?_
    | refine callq rfl Try.call86 (values_p (castL m)) rfl ?_
    | refine callqe rfl Try.call86 (values_p (castL m)) rfl ?_
  simp
  refine callo rfl Try.call85 (sorted_p (castL m) (by omega)) ?_ ⟨.v _, trivial⟩ ?_
  · intro row hr y hy
    simp only [List.mem_map] at hr
    obtain ⟨n, _, rfl⟩ := hr
    simp [irow] at hy; subst hy; exact .i _ _
  simp
  refine callfs [1] rfl Try.call87 (compact_p (sortI (castL m)) 0 (by rw [sortI_len]; omega)) (by decide) rfl (by simp) (by simp) (by simp) ?_
  rintro _ _ ⟨v', rfl, rfl⟩
  refine ⟨.inr (by simp [stab, evQ]), ?_⟩
  simp
  first
    | refine callk rfl Try.call90 (closed_a t hG m (by simpa [castL] using hll) hm) rfl ?_
    | refine callks rfl Try.call90 (closed_a t hG m (by simpa [castL] using hll) hm) rfl ?_
    | refine callq rfl Try.call90 (closed_a t hG m (by simpa [castL] using hll) hm) rfl ?_
    | refine callqe rfl Try.call90 (closed_a t hG m (by simpa [castL] using hll) hm) rfl ?_
  simp
  refine callg1s 1 v' [] [.sl 1 ((castL (closN t m)).map irow)] rfl Try.call89 (equal_p (setI (castL m)) (castL (closN t m)) (by have := dd_len (sortI (castL m)) (sortI (castL m)).length; rw [sortI_len] at this; unfold setI ddL; rw [sortI_len]; omega)) rfl rfl (by simp [stab, evQ]) ?_
  have hce := cut_eq hm
  rw [closedI_eq hm] at hce
  simp [hce]
theorem linear_all (t : List Ev) (ht : t.length < 4611686018427387904) (l : List Int) (hl : l.length < 100000000000000) : PureS Try.prog 48 [.sl 26 (t.map Ev.row), .sl 1 (l.map irow)] (.tup [.b (decide (listE t l = 0) && (decide (l.length = t.length ∧ l.Nodup) && linN t (l.map Int.toNat))), .i .i64 (if listE t l = 0 then (if l.length = t.length ∧ l.Nodup then 0 else 1) else listE t l)]) := by
  refine fun_go hmx Try.func48 r48 s48 (by rw [Try.ntmps48]; simp) ?_
  unfold c48
  simp
  first
    | refine callk rfl Try.call84 (listed_p t ht l hl) rfl ?_
    | refine callks rfl Try.call84 (listed_p t ht l hl) rfl ?_
    | refine callq rfl Try.call84 (listed_p t ht l hl) rfl ?_
    | refine callqe rfl Try.call84 (listed_p t ht l hl) rfl ?_
  by_cases h0 : listE t l = 0
  rotate_left
  · simp [h0]
  obtain ⟨_, hG, hll, m, rfl, hm⟩ := listE_ok h0
  have hmm : (castL m).map Int.toNat = m := castL_nat m
  rw [hmm]
  simp [h0, tabV]
  first
    | refine callk rfl Try.call86 (values_p (castL m)) rfl ?_
    | refine callks rfl Try.call86 (values_p (castL m)) rfl ?_
    | refine callq rfl Try.call86 (values_p (castL m)) rfl ?_
    | refine callqe rfl Try.call86 (values_p (castL m)) rfl ?_
  simp
  refine callo rfl Try.call85 (sorted_p (castL m) (by omega)) ?_ ⟨.v _, trivial⟩ ?_
  · intro row hr y hy
    simp only [List.mem_map] at hr
    obtain ⟨n, _, rfl⟩ := hr
    simp [irow] at hy; subst hy; exact .i _ _
  simp
  refine callf [1] rfl Try.call87 (compact_p (sortI (castL m)) 0 (by rw [sortI_len]; omega)) (by decide) rfl (by simp) (by simp) (by simp) ?_
  rintro _ _ ⟨v', rfl, rfl⟩
  have hcl : (castL m).length = m.length := by simp [castL]
  have hset : (ddL (sortI (castL m))).length = (castL m).length ↔ (castL m).Nodup := setI_nodup
  have hsl : (ddL (sortI (castL m))).length ≤ (castL m).length := by
    have := dd_len (sortI (castL m)) (sortI (castL m)).length
    rw [sortI_len] at this
    unfold ddL
    rw [sortI_len]
    exact this
  simp [hcl]
  by_cases hok : (castL m).length = t.length ∧ (castL m).Nodup
  rotate_left
  · refine ⟨fun hc => ⟨fun h1 h2 => absurd ⟨hcl.trans h1, h2⟩ hok, fun h1 h2 => hok ⟨hcl.trans h1, h2⟩⟩, fun h1 h2 => absurd ?_ hok⟩
    have h2' : m.length = t.length := by omega
    exact ⟨by omega, hset.1 (by omega)⟩
  obtain ⟨hok1, hok2⟩ := hok
  have hok3 := hset.2 hok2
  rw [hcl] at hok1 hok3
  simp [hok1, hok2, hok3]
  have hml : m.length < 1000000 := by have := hG.len; omega
  have hcg : ∀ (k : Nat) (hk : k < m.length), (castL m)[k]'(by omega) = (m[k] : Int) := fun k hk => by simp [castL]
  obtain ⟨f, hf⟩ : ∃ f : Nat → Nat, ∀ k, m.getD k 0 = f k := ⟨fun k => m.getD k 0, fun _ => rfl⟩
  refine go_while hmx 2 (fun (a : Nat) => [(40, .v (.i .i64 (a : Int)))]) (fun _ => [.var [.v (.sl 26 (t.map Ev.row)), .v (.sl 6 ((clk t t.length).map crow))], .arr v' 1 (vrows ((ddL (sortI (castL m))).map irow))]) (fun a => a ≤ t.length ∧ ∀ b, b < t.length → ∀ a', a' < a → a' < b → befT t (f b) (f a') = false) (fun a => t.length - a) 0 rfl (by simp) rfl (by simp) (by simp) (by simp) ⟨Nat.zero_le _, fun b _ a' h => by omega⟩ ?_
  rintro a ⟨ha, hia⟩
  by_cases hal : a < t.length
  · have hA : (a : Int) < (t.length : Int) := by omega
    have hw : IntKind.i64.wrap ((a : Int) + 1) = (a : Int) + 1 := wrap_in (by omega) (by omega)
    have hlt : a < (castL m).length := by omega
    have ham : a < m.length := by omega
    have hA0 : (0 : Int) ≤ (a : Int) + 1 := by omega
    simp [hA, hal, hlt, hw, hA0, irow, hcl, hok1, hcg, -List.map_drop]
    refine ⟨by omega, ?_⟩
    have hD : List.drop (a + 1) (List.take t.length ((castL m).map irow)) = (m.drop (a + 1)).map nrow := by
      rw [List.take_of_length_le (by simp [hcl, hok1])]
      have : (castL m).map irow = m.map nrow := by unfold castL; rw [List.map_map]; rfl
      rw [this, List.map_drop]
    have hDl : (m.drop (a + 1)).length = t.length - (a + 1) := by rw [List.length_drop]; omega
    have hDg : ∀ (c : Nat) (hc : c < (m.drop (a + 1)).length), (m.drop (a + 1))[c] = f (a + 1 + c) := fun c hc => by
      rw [← hf, List.getElem_drop, List.getD_eq_getElem?_getD, List.getElem?_eq_getElem (by omega)]; rfl
    have hag : m[a] = f a := by rw [← hf, List.getD_eq_getElem?_getD, List.getElem?_eq_getElem ham]; rfl
    rw [hD, hag]
    generalize m.drop (a + 1) = D at *
    refine go_while hmx 2 (fun (c : Nat) => [(50, .v (.i .i64 (c : Int)))]) (fun _ => [.var [.v (.sl 26 (t.map Ev.row)), .v (.sl 6 ((clk t t.length).map crow))], .arr v' 1 (vrows ((ddL (sortI (castL m))).map irow))]) (fun c => c ≤ t.length - (a + 1) ∧ ∀ b, a < b → b < a + 1 + c → befT t (f b) (f a) = false) (fun c => t.length - (a + 1) - c) 0 rfl (by simp) rfl (by simp) (by simp) (by simp) ⟨Nat.zero_le _, fun b h1 h2 => by omega⟩ ?_
    rintro c ⟨hc, hic⟩
    by_cases hcl2 : c < t.length - (a + 1)
    · have hC : (c : Int) < ((t.length - (a + 1) : Nat) : Int) := by omega
      have hw2 : IntKind.i64.wrap ((c : Int) + 1) = (c : Int) + 1 := wrap_in (by omega) (by omega)
      have hcD : c < D.length := by omega
      have hcg2 := hDg c hcD
      have hbm : a + 1 + c < m.length := by omega
      have hx : f (a + 1 + c) < t.length := by
        rw [← hf, List.getD_eq_getElem?_getD, List.getElem?_eq_getElem hbm]; exact hm _ (List.getElem_mem hbm)
      have hy : f a < t.length := by rw [← hag]; exact hm _ (List.getElem_mem ham)
      simp [hC, hcl2, hcD, hcg2, nrow]
      first
        | refine callk rfl Try.call64 (before_p t hG (f (a + 1 + c)) (f a) hx hy) rfl ?_
        | refine callks rfl Try.call64 (before_p t hG (f (a + 1 + c)) (f a) hx hy) rfl ?_
        | refine callq rfl Try.call64 (before_p t hG (f (a + 1 + c)) (f a) hx hy) rfl ?_
        | refine callqe rfl Try.call64 (before_p t hG (f (a + 1 + c)) (f a) hx hy) rfl ?_
      simp [hw2]
      refine ⟨fun hb => ?_, fun hb => ⟨c + 1, by first | rfl | (rw [hw2]; rfl), ⟨by omega, fun b h1 h2 => ?_⟩, by omega⟩⟩
      · rw [Bool.eq_false_iff, Ne, linN_iff]
        intro h
        have := h (a + 1 + c) hbm a (by omega)
        rw [hf, hf] at this
        rw [hb] at this
        cases this
      · by_cases hbe : b = a + 1 + c
        · subst hbe; exact hb
        · exact hic b h1 (by omega)
    · obtain rfl : c = t.length - (a + 1) := by omega
      simp [hw]
      refine ⟨a + 1, rfl, ⟨by omega, fun b hb a' h1 h2 => ?_⟩, by omega⟩
      by_cases hae : a' = a
      · subst hae; exact hic b h2 (by omega)
      · exact hia b hb a' (by omega) h2
  · obtain rfl : a = t.length := by omega
    simp
    rw [linN_iff]
    intro b hb a' ha'
    rw [hf, hf]
    exact hia b (by omega) a' (by omega) ha'
end Go.Sc.Or
