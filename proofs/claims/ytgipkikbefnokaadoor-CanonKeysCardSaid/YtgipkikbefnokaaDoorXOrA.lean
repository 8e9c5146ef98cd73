/- Chapters 10 to 12: is an event right; are events a trace. No condition. -/
import Derived.Test.YtgipkikbefnokaaDoorProg
import Derived.Test.YtgipkikbefnokaaDoorXEvt
import Derived.KernelRfl
set_option linter.constructorNameAsVariable false
namespace Go.Sc.Or
open Go Go.RowKit Go.Av Go.Proofs Go.Sc
set_option linter.unusedSimpArgs false
set_option linter.unusedVariables false
theorem hmx : Tryd.prog.follows .mixedOrders = true := by kernel_rfl
def c48 : ACode :=
  (.seq (.reg none [⟨some 2, none, .q (.mv (.c (.i .i64 0)))⟩])
  (.keep [0]
  (.seq (.seq (.reg none [⟨some 3, none, .q (.mv (.t 0))⟩])
    (.keep [3]
    (.blk 0 (.seq (.reg none [⟨some 5, none, .q (.bin .eql (.t 3) (.c (.i .i64 1)))⟩, ⟨some 4, none, .q (.mv (.t 5))⟩])
    (.keep [3, 4]
    (.cond (.t 4) (.seq (.reg none [⟨some 2, none, .q (.mv (.c (.i .i64 8)))⟩])
      .ret)
    (.seq (.reg none [⟨some 7, none, .q (.bin .eql (.t 3) (.c (.i .i64 2)))⟩, ⟨some 6, none, .q (.mv (.t 7))⟩])
      (.keep [3, 6]
      (.cond (.t 6) (.seq (.reg none [⟨some 2, none, .q (.mv (.c (.i .i64 4)))⟩])
        .ret)
      (.seq (.reg none [⟨some 9, none, .q (.bin .eql (.t 3) (.c (.i .i64 3)))⟩, ⟨some 8, none, .q (.mv (.t 9))⟩])
        (.keep [3, 8]
        (.cond (.t 8) (.seq (.reg none [⟨some 2, none, .q (.mv (.c (.i .i64 4)))⟩])
          .ret)
        (.seq (.seq (.reg none [⟨some 11, none, .q (.bin .eql (.t 3) (.c (.i .i64 4)))⟩, ⟨some 10, none, .q (.mv (.t 11))⟩])
            (.keep [3, 10]
            (.cond (.t 10) .skip
            (.reg none [⟨some 12, none, .q (.bin .eql (.t 3) (.c (.i .i64 6)))⟩, ⟨some 10, none, .q (.mv (.t 12))⟩]))))
          (.cond (.t 10) (.seq (.reg none [⟨some 2, none, .q (.mv (.c (.i .i64 1)))⟩])
            .ret)
          (.seq (.reg none [⟨some 14, none, .q (.bin .eql (.t 3) (.c (.i .i64 5)))⟩, ⟨some 13, none, .q (.mv (.t 14))⟩])
            (.keep [13]
            (.cond (.t 13) (.seq (.reg none [⟨some 2, none, .q (.mv (.c (.i .i64 6)))⟩])
              .ret)
            .skip)))))))))))))))))
  (.seq (.reg none [⟨some 2, none, .q (.mv (.c (.i .i64 0)))⟩])
  .ret))))
theorem r48 : (Tryd.f48.body.bind (resC Tryd.prog Tryd.f48.ntmps)) = some (strip c48) := by kernel_rfl
theorem s48 : Tryd.f48.results.toList.mapM (resRes Tryd.prog) = some [.t 2] := by kernel_rfl
def c49 : ACode :=
  (.seq (.reg none [⟨some 2, none, .m (.box (.t 0))⟩, ⟨some 3, none, .m (.box (.t 1))⟩, ⟨some 4, none, .q (.mv (.c (.i .i64 0)))⟩])
  (.keep [2, 3]
  (.seq (.blk 0 (.seq (.reg none [⟨some 6, none, .q (.fa 0 (.t 2))⟩, ⟨some 7, none, .q (.ld none (.t 6))⟩, ⟨some 8, none, .q (.fa 0 (.t 3))⟩, ⟨some 9, none, .q (.ld none (.t 8))⟩, ⟨some 10, none, .q (.bin .neq (.t 7) (.t 9))⟩, ⟨some 11, none, .q (.mv (.t 10))⟩, ⟨some 12, some (11, true), .q (.fa 0 (.t 2))⟩, ⟨some 13, some (11, true), .q (.ld none (.t 12))⟩, ⟨some 14, some (11, true), .q (.fa 0 (.t 3))⟩, ⟨some 15, some (11, true), .q (.ld none (.t 14))⟩, ⟨some 16, some (11, true), .q (.bin .lss (.t 13) (.t 15))⟩, ⟨some 17, none, .pk (.t 11) (.t 16) (.c (.b false))⟩, ⟨some 18, none, .q (.mv (.t 17))⟩, ⟨some 19, some (18, false), .q (.fa 0 (.t 2))⟩, ⟨some 20, some (18, false), .q (.ld none (.t 19))⟩, ⟨some 21, some (18, false), .q (.fa 0 (.t 3))⟩, ⟨some 22, some (18, false), .q (.ld none (.t 21))⟩, ⟨some 23, some (18, false), .q (.bin .eql (.t 20) (.t 22))⟩, ⟨some 24, some (18, false), .q (.mv (.t 23))⟩, ⟨some 25, some (24, true), .q (.fa 1 (.t 2))⟩, ⟨some 26, some (24, true), .q (.ld none (.t 25))⟩, ⟨some 27, some (24, true), .q (.fa 1 (.t 3))⟩, ⟨some 28, some (24, true), .q (.ld none (.t 27))⟩, ⟨some 29, some (24, true), .q (.bin .lss (.t 26) (.t 28))⟩, ⟨some 30, some (18, false), .pk (.t 24) (.t 29) (.c (.b false))⟩, ⟨some 31, none, .pk (.t 18) (.c (.b true)) (.t 30)⟩, ⟨some 5, none, .q (.mv (.t 31))⟩])
    (.keep [2, 3, 5]
    (.cond (.t 5) (.seq (.reg none [⟨some 4, none, .q (.mv (.c (.i .i64 (-1))))⟩])
      .ret)
    (.seq (.reg none [⟨some 33, none, .q (.fa 0 (.t 2))⟩, ⟨some 34, none, .q (.ld none (.t 33))⟩, ⟨some 35, none, .q (.fa 0 (.t 3))⟩, ⟨some 36, none, .q (.ld none (.t 35))⟩, ⟨some 37, none, .q (.bin .eql (.t 34) (.t 36))⟩, ⟨some 38, none, .q (.mv (.t 37))⟩, ⟨some 39, some (38, true), .q (.fa 1 (.t 2))⟩, ⟨some 40, some (38, true), .q (.ld none (.t 39))⟩, ⟨some 41, some (38, true), .q (.fa 1 (.t 3))⟩, ⟨some 42, some (38, true), .q (.ld none (.t 41))⟩, ⟨some 43, some (38, true), .q (.bin .eql (.t 40) (.t 42))⟩, ⟨some 44, none, .pk (.t 38) (.t 43) (.c (.b false))⟩, ⟨some 32, none, .q (.mv (.t 44))⟩])
      (.keep [32]
      (.cond (.t 32) (.seq (.reg none [⟨some 4, none, .q (.mv (.c (.i .i64 0)))⟩])
        .ret)
      .skip)))))))
  (.keep []
  (.seq (.reg none [⟨some 4, none, .q (.mv (.c (.i .i64 1)))⟩])
  .ret)))))
theorem r49 : (Tryd.f49.body.bind (resC Tryd.prog Tryd.f49.ntmps)) = some (strip c49) := by kernel_rfl
theorem s49 : Tryd.f49.results.toList.mapM (resRes Tryd.prog) = some [.t 4] := by kernel_rfl
def c36 : ACode :=
  (.seq (.reg none [⟨some 1, none, .m (.box (.t 0))⟩, ⟨some 2, none, .q (.mv (.c (.b false)))⟩])
  (.keep [1]
  (.seq (.seq (.reg none [⟨some 6, none, .q (.fa 0 (.t 1))⟩, ⟨some 7, none, .q (.ld none (.t 6))⟩, ⟨some 8, none, .q (.bin .lss (.t 7) (.c (.i .i64 0)))⟩, ⟨some 9, none, .q (.mv (.t 8))⟩, ⟨some 10, some (9, false), .q (.fa 0 (.t 1))⟩, ⟨some 11, some (9, false), .q (.ld none (.t 10))⟩, ⟨some 12, some (9, false), .q (.bin .geq (.t 11) (.c (.i .i64 6)))⟩, ⟨some 13, none, .pk (.t 9) (.c (.b true)) (.t 12)⟩, ⟨some 14, none, .q (.mv (.t 13))⟩, ⟨some 15, some (14, false), .q (.fa 25 (.t 1))⟩, ⟨some 16, some (14, false), .q (.ld none (.t 15))⟩, ⟨some 17, some (14, false), .q (.bin .lss (.t 16) (.c (.i .i64 1)))⟩, ⟨some 18, none, .pk (.t 14) (.c (.b true)) (.t 17)⟩, ⟨some 19, none, .q (.mv (.t 18))⟩, ⟨some 20, some (19, false), .q (.fa 25 (.t 1))⟩, ⟨some 21, some (19, false), .q (.ld none (.t 20))⟩, ⟨some 22, some (19, false), .q (.bin .gtr (.t 21) (.c (.i .i64 6)))⟩, ⟨some 23, none, .pk (.t 19) (.c (.b true)) (.t 22)⟩])
    (.keep [1, 23]
    (.cond (.t 23) (.seq (.reg none [⟨some 2, none, .q (.mv (.c (.b false)))⟩])
      .ret)
    .skip)))
  (.seq (.reg none [⟨some 3, none, .q (.mv (.c (.b false)))⟩])
  (.keep [1, 3]
  (.seq (.seq (.reg none [⟨some 24, none, .q (.fa 7 (.t 1))⟩, ⟨some 25, none, .q (.ld (some 18) (.t 24))⟩, ⟨some 26, none, .q (.mv (.c (.i .i64 0)))⟩])
    (.keep [1, 3, 25, 26]
    (.blk 0 (.keep [1, 3, 25, 26]
    (.loop (.fin [1, 3, 25, 26]
      (.seq (.reg none [⟨some 27, none, .q (.bin .lss (.t 26) (.c (.i .i64 6)))⟩])
      (.keep [1, 3, 25, 26, 27]
      (.seq (.cond (.t 27) .skip
        (.exit 0))
      (.seq (.blk 1 (.seq (.reg none [⟨some 28, none, .q (.mv (.t 26))⟩, ⟨some 29, none, .q (.idx 6 3 true (.t 25) (.t 26))⟩, ⟨some 5, none, .m (.alloc (.g [(.i .i64 0), (.i .i64 0), (.b false)]))⟩, ⟨some 4, none, .q (.mv (.t 28))⟩, ⟨none, none, .m (.st 3 (.t 5) (.t 29))⟩])
        (.keep [1, 3, 4, 5, 25, 26]
        (.seq (.seq (.reg none [⟨some 30, none, .q (.mv (.t 4))⟩, ⟨some 31, none, .q (.fa 25 (.t 1))⟩, ⟨some 32, none, .q (.ld none (.t 31))⟩, ⟨some 33, none, .q (.bin .geq (.t 30) (.t 32))⟩])
          (.keep [1, 3, 4, 5, 25, 26, 33]
          (.cond (.t 33) (.seq (.seq (.reg none [⟨some 34, none, .q (.ld (some 3) (.t 5))⟩, ⟨some 35, none, .q (.bld [(.i .i64 0), (.i .i64 0), (.b false)] [])⟩, ⟨some 36, none, .q (.eqg true [.i, .i, .b] (.t 34) (.t 35))⟩])
              (.keep [1, 3, 25, 26, 36]
              (.cond (.t 36) (.seq (.reg none [⟨some 2, none, .q (.mv (.c (.b false)))⟩])
                .ret)
              .skip)))
            (.exit 1))
          .skip)))
        (.seq (.seq (.reg (some (25, [])) [⟨some 37, none, .q (.fa 1 (.t 5))⟩, ⟨some 38, none, .q (.ld none (.t 37))⟩, ⟨some 39, none, .q (.bin .lss (.t 38) (.c (.i .i64 0)))⟩, ⟨some 40, none, .q (.mv (.t 39))⟩, ⟨some 41, some (40, false), .q (.fa 1 (.t 5))⟩, ⟨some 42, some (40, false), .q (.ld none (.t 41))⟩, ⟨some 43, some (40, false), .q (.fa 0 (.t 5))⟩, ⟨some 44, some (40, false), .q (.ld none (.t 43))⟩, ⟨some 45, some (40, false), .call (.f 48) [(.t 44)]⟩, ⟨some 46, some (40, false), .q (.bin .geq (.t 42) (.t 45))⟩, ⟨some 47, none, .pk (.t 40) (.c (.b true)) (.t 46)⟩, ⟨some 48, none, .q (.mv (.t 47))⟩, ⟨some 49, some (48, false), .q (.mv (.t 4))⟩, ⟨some 50, some (48, false), .q (.bin .gtr (.t 49) (.c (.i .i64 0)))⟩, ⟨some 51, some (48, false), .q (.mv (.t 50))⟩, ⟨some 52, some (51, true), .q (.mv (.t 4))⟩, ⟨some 53, some (51, true), .q (.bin .sub (.t 52) (.c (.i .i64 1)))⟩, ⟨some 54, some (51, true), .q (.fa 7 (.t 1))⟩, ⟨some 55, some (51, true), .q (.iaa 6 3 (.t 54) (.t 53))⟩, ⟨some 56, some (51, true), .q (.ld (some 3) (.t 55))⟩, ⟨some 57, some (51, true), .q (.ld (some 3) (.t 5))⟩, ⟨some 58, some (51, true), .call (.f 49) [(.t 56), (.t 57)]⟩, ⟨some 59, some (51, true), .q (.bin .geq (.t 58) (.c (.i .i64 0)))⟩, ⟨some 60, some (48, false), .pk (.t 51) (.t 59) (.c (.b false))⟩, ⟨some 61, none, .pk (.t 48) (.c (.b true)) (.t 60)⟩])
          (.keep [1, 3, 5, 25, 26, 61]
          (.cond (.t 61) (.seq (.reg none [⟨some 2, none, .q (.mv (.c (.b false)))⟩])
            .ret)
          .skip)))
        (.reg none [⟨some 62, none, .q (.mv (.t 3))⟩, ⟨some 63, none, .q (.mv (.t 62))⟩, ⟨some 64, some (63, false), .q (.ld (some 3) (.t 5))⟩, ⟨some 65, some (63, false), .q (.fa 0 (.t 1))⟩, ⟨some 66, some (63, false), .q (.ld none (.t 65))⟩, ⟨some 67, some (63, false), .q (.bld [(.i .i64 0), (.i .i64 0), (.b false)] [(0, 1, .c (.i .i64 5)), (1, 1, .t 66), (2, 1, .c (.b true))])⟩, ⟨some 68, some (63, false), .q (.eqg false [.i, .i, .b] (.t 64) (.t 67))⟩, ⟨some 69, none, .pk (.t 63) (.c (.b true)) (.t 68)⟩, ⟨some 3, none, .q (.mv (.t 69))⟩]))))))
      (.keep [1, 3, 25, 26]
      (.reg none [⟨some 70, none, .q (.bin .add (.t 26) (.c (.i .i64 1)))⟩, ⟨some 26, none, .q (.mv (.t 70))⟩]))))))))))))
  (.seq (.reg none [⟨some 71, none, .q (.mv (.t 3))⟩, ⟨some 2, none, .q (.mv (.t 71))⟩])
  .ret)))))))
theorem r36 : (Tryd.f36.body.bind (resC Tryd.prog Tryd.f36.ntmps)) = some (strip c36) := by kernel_rfl
theorem s36 : Tryd.f36.results.toList.mapM (resRes Tryd.prog) = some [.t 2] := by kernel_rfl
theorem most_p (k : Int) : PureS Tryd.prog 48 [.i .i64 k] (.i .i64 (few k)) := by
  refine fun_go hmx Tryd.func48 r48 s48 (by rw [Tryd.ntmps48]; simp) ?_
  unfold c48
  simp
  repeat' apply And.intro
  all_goals intros; simp_all [few]
theorem compare_p (a b : Acc) : PureS Tryd.prog 49 [.g a.row, .g b.row] (.i .i64 (if a.lt b then -1 else if a.k = b.k ∧ a.n = b.n then 0 else 1)) := by
  refine fun_go hmx Tryd.func49 r49 s49 (by rw [Tryd.ntmps49]; simp) ?_
  unfold c49
  generalize hx : (if a.lt b then (-1 : Int) else if a.k = b.k ∧ a.n = b.n then 0 else 1) = x
  simp [Acc.row]
  refine ⟨fun h => ⟨h, fun _ => ⟨h, by assumption⟩⟩, fun h => by by_cases h2 : a.k = b.k <;> simp_all, fun h => ?_, fun h1 h2 => ⟨fun h3 h4 => ?_, fun h3 => ?_⟩⟩
  · have : a.lt b := h.elim (fun h => .inl h.2) .inr
    rw [if_pos this] at hx; exact hx
  · have : ¬ a.lt b := by
      rintro (h | h) <;> omega
    rw [if_neg this, if_pos ⟨h3, h4⟩] at hx; exact hx
  · have : ¬ a.lt b := by
      rintro (h | h)
      · have := h1 (by omega); omega
      · have := h2 h.1; omega
    rw [if_neg this, if_neg (by rintro ⟨h4, h5⟩; exact h3 h4 h5)] at hx; exact hx
theorem cmp_nn (a b : Acc) : 0 ≤ (if a.lt b then (-1 : Int) else if a.k = b.k ∧ a.n = b.n then 0 else 1) ↔ ¬ a.lt b := by
  split
  · rename_i h; simp [h]
  · rename_i h; split <;> simp [h]
theorem cmp_neg (a b : Acc) : (if a.lt b then (-1 : Int) else if a.k = b.k ∧ a.n = b.n then 0 else 1) < 0 ↔ a.lt b := by
  split
  · rename_i h; simp [h]
  · rename_i h; split <;> simp [h]
@[simp] theorem i64_m1 : IntKind.i64.wrap (-1) = -1 := by decide
theorem Acc.same {a b : Acc} (h1 : a.k = b.k) (h2 : a.n = b.n) (h3 : a.w = b.w) : a = b := by
  obtain ⟨_, _, _⟩ := a
  obtain ⟨_, _, _⟩ := b
  simp only at h1 h2 h3
  subst h1; subst h2; subst h3; rfl
theorem acc_is (a : Acc) (g : Int) : decide (a = ⟨5, g, true⟩) = (a.k == 5 && (a.n == g && a.w)) := by
  obtain ⟨k, n, w⟩ := a
  rw [Bool.eq_iff_iff]
  simp
def ownTo (e : Ev) (k : Nat) : Bool := (e.all.take (min k e.n.toNat)).any fun a => decide (a = ⟨5, e.go, true⟩)
theorem wrong {e : Ev} {k : Nat} (hk : k < 6) (h : rightAt e k = false) : rightE e = false := by
  unfold rightE
  rw [show (List.range 6).all (rightAt e) = false by
    rw [Bool.eq_false_iff]
    intro hc
    rw [List.all_eq_true] at hc
    rw [hc k (by simp [hk])] at h; cases h]
  simp
theorem next_own {e : Ev} {k : Nat} (hk : k < 6) (hr : ∀ j, j < k → rightAt e j = true) (h : rightAt e k = true) {z : Int} (hz : z = (k : Int) + 1) {o : Bool} (ho : o = ownTo e (k + 1)) :
    ∃ b' : Nat, (o = ownTo e b' ∧ z = (b' : Int)) ∧ (b' ≤ 6 ∧ ∀ (j : Nat), j < b' → rightAt e j = true) ∧ 7 - b' < 7 - k :=
  ⟨k + 1, ⟨ho, by omega⟩, ⟨by omega, fun j hj => by
    by_cases e1 : j = k
    · subst e1; exact h
    · exact hr j (by omega)⟩, by omega⟩
theorem own_stay {e : Ev} {k : Nat} (h : e.n ≤ (k : Int)) : ownTo e (k + 1) = ownTo e k := by
  unfold ownTo
  rw [show min (k + 1) e.n.toNat = min k e.n.toNat by omega]
theorem own_more {e : Ev} {k : Nat} (hk : k < 6) (h : (k : Int) < e.n) : ownTo e (k + 1) = (ownTo e k || decide (e.all.getD k default = ⟨5, e.go, true⟩)) := by
  unfold ownTo
  have hk' : k < e.all.length := by simpa using hk
  rw [show min (k + 1) e.n.toNat = k + 1 by omega, show min k e.n.toNat = k by omega, List.take_succ_eq_append_getElem hk', List.any_append, List.getD_eq_getElem?_getD, List.getElem?_eq_getElem hk']
  simp
theorem right_p (e : Ev) : PureS Tryd.prog 36 [.g e.row] (.b (rightE e)) := by
  refine fun_go hmx Tryd.func36 r36 s36 (by rw [Tryd.ntmps36]; simp) ?_
  unfold c36
  simp [Ev.row, Ev.cells, Acc.row]
  constructor
  · intro h
    unfold rightE
    rw [decide_eq_false (by omega)]
    rfl
  intro h1 h2 h3 h4
  refine go_while hmx 1 (fun (k : Nat) => [(3, .v (.b (ownTo e k))), (26, .v (.i .i64 (k : Int)))]) (fun k => [.var (e.row.map .v)]) (fun k => k ≤ 6 ∧ ∀ j, j < k → rightAt e j = true) (fun k => 7 - k) 0 rfl (by simp [ownTo]) rfl (by simp) (by simp) (by simp [Ev.row, Ev.cells, Acc.row]) ⟨Nat.zero_le _, fun j hj => absurd hj (by omega)⟩ ?_
  rintro k ⟨hk, hr⟩
  by_cases hk6 : k = 6
  · subst hk6
    simp
    unfold rightE
    rw [decide_eq_true ⟨h1, h2, h3, h4⟩, List.all_eq_true.2 (fun j hj => hr j (by simpa using hj))]
    simp only [ownTo, Ev.touched, Bool.true_and]
    rw [show min 6 e.n.toNat = (max 0 (min 6 e.n)).toNat by omega]
  have hkl : k < 6 := by omega
  have hst := @own_stay e k
  have hmo := @own_more e k hkl
  have hwr := @wrong e k hkl
  have hnx := @next_own e k hkl hr
  have hra : rightAt e k = rightAt e k := rfl
  conv at hra => rhs; unfold rightAt
  rcases (by omega : k = 0 ∨ k = 1 ∨ k = 2 ∨ k = 3 ∨ k = 4 ∨ k = 5) with rfl | rfl | rfl | rfl | rfl | rfl
  all_goals simp [Ev.row, Ev.cells, Acc.row]
  all_goals refine ⟨fun hn => ⟨fun hz => hwr ?_, fun z1 z2 z3 => hnx ?_ rfl ?_⟩, fun hn => ?_⟩
  · rw [hra, if_pos (by simpa using hn)]
    simp only [decide_eq_false_iff_not]
    intro hc
    have hc : e.t0 = Acc.zero := hc
    rw [hc] at hz
    simp [Acc.zero] at hz
  · rw [hra, if_pos (by simpa using hn)]
    exact decide_eq_true (Acc.same (b := Acc.zero) z1 z2 z3)
  · exact (hst (by simpa using hn)).symm
  · have hn' : ¬ e.n ≤ ((0 : Nat) : Int) := by simpa using hn
    rw [if_neg hn'] at hra
    have hmo := hmo (by simpa using hn)
    simp only [Ev.all] at hra hmo
    first
      | refine callkg rfl Tryd.call48 rfl (fun _ => (most_p e.t0.k)) (fun hG => by first | (simp; done) | (simp at hG; done) | simpa using hG) rfl ?_
      | refine callksg rfl Tryd.call48 rfl (fun _ => (most_p e.t0.k)) (fun hG => by first | (simp; done) | (simp at hG; done) | simpa using hG) rfl ?_
      | refine callqg rfl Tryd.call48 rfl (fun _ => (most_p e.t0.k)) (fun hG => by first | (simp; done) | (simp at hG; done) | simpa using hG) rfl ?_
    simp
    first
      | refine callkg rfl Tryd.call49 rfl (fun _ => (compare_p e.t0 e.t0)) (fun hG => by first | (simp; done) | (simp at hG; done) | simpa using hG) rfl ?_
      | refine callksg rfl Tryd.call49 rfl (fun _ => (compare_p e.t0 e.t0)) (fun hG => by first | (simp; done) | (simp at hG; done) | simpa using hG) rfl ?_
      | refine callqg rfl Tryd.call49 rfl (fun _ => (compare_p e.t0 e.t0)) (fun hG => by first | (simp; done) | (simp at hG; done) | simpa using hG) rfl ?_
    simp
    refine ⟨fun h => hwr ?_, fun x y => hnx ?_ rfl ?_⟩
    · rw [hra, Bool.eq_false_iff]
      intro hc
      simp at hc
      omega
    · rw [hra]; simp; exact ⟨x, y⟩
    · exact (congrArg _ (acc_is _ _).symm).trans hmo.symm
  · rw [hra, if_pos (by simpa using hn)]
    simp only [decide_eq_false_iff_not]
    intro hc
    have hc : e.t1 = Acc.zero := hc
    rw [hc] at hz
    simp [Acc.zero] at hz
  · rw [hra, if_pos (by simpa using hn)]
    exact decide_eq_true (Acc.same (b := Acc.zero) z1 z2 z3)
  · exact (hst (by simpa using hn)).symm
  · have hn' : ¬ e.n ≤ ((1 : Nat) : Int) := by simpa using hn
    rw [if_neg hn'] at hra
    have hmo := hmo (by simpa using hn)
    simp only [Ev.all] at hra hmo
    first
      | refine callkg rfl Tryd.call48 rfl (fun _ => (most_p e.t1.k)) (fun hG => by first | (simp; done) | (simp at hG; done) | simpa using hG) rfl ?_
      | refine callksg rfl Tryd.call48 rfl (fun _ => (most_p e.t1.k)) (fun hG => by first | (simp; done) | (simp at hG; done) | simpa using hG) rfl ?_
      | refine callqg rfl Tryd.call48 rfl (fun _ => (most_p e.t1.k)) (fun hG => by first | (simp; done) | (simp at hG; done) | simpa using hG) rfl ?_
    simp
    first
      | refine callkg rfl Tryd.call49 rfl (fun _ => (compare_p e.t0 e.t1)) (fun hG => by first | (simp; done) | (simp at hG; done) | simpa using hG) rfl ?_
      | refine callksg rfl Tryd.call49 rfl (fun _ => (compare_p e.t0 e.t1)) (fun hG => by first | (simp; done) | (simp at hG; done) | simpa using hG) rfl ?_
      | refine callqg rfl Tryd.call49 rfl (fun _ => (compare_p e.t0 e.t1)) (fun hG => by first | (simp; done) | (simp at hG; done) | simpa using hG) rfl ?_
    simp
    simp only [cmp_nn, cmp_neg]
    refine ⟨fun h => hwr ?_, fun x y z => hnx ?_ rfl ?_⟩
    · rw [hra, Bool.eq_false_iff]
      intro hc
      simp at hc
      obtain ⟨⟨x, y⟩, z⟩ := hc
      rcases h with (h | h) | h
      · omega
      · omega
      · exact h z
    · rw [hra]; simp; exact ⟨⟨x, y⟩, z⟩
    · exact (congrArg _ (acc_is _ _).symm).trans hmo.symm
  · rw [hra, if_pos (by simpa using hn)]
    simp only [decide_eq_false_iff_not]
    intro hc
    have hc : e.t2 = Acc.zero := hc
    rw [hc] at hz
    simp [Acc.zero] at hz
  · rw [hra, if_pos (by simpa using hn)]
    exact decide_eq_true (Acc.same (b := Acc.zero) z1 z2 z3)
  · exact (hst (by simpa using hn)).symm
  · have hn' : ¬ e.n ≤ ((2 : Nat) : Int) := by simpa using hn
    rw [if_neg hn'] at hra
    have hmo := hmo (by simpa using hn)
    simp only [Ev.all] at hra hmo
    first
      | refine callkg rfl Tryd.call48 rfl (fun _ => (most_p e.t2.k)) (fun hG => by first | (simp; done) | (simp at hG; done) | simpa using hG) rfl ?_
      | refine callksg rfl Tryd.call48 rfl (fun _ => (most_p e.t2.k)) (fun hG => by first | (simp; done) | (simp at hG; done) | simpa using hG) rfl ?_
      | refine callqg rfl Tryd.call48 rfl (fun _ => (most_p e.t2.k)) (fun hG => by first | (simp; done) | (simp at hG; done) | simpa using hG) rfl ?_
    simp
    first
      | refine callkg rfl Tryd.call49 rfl (fun _ => (compare_p e.t1 e.t2)) (fun hG => by first | (simp; done) | (simp at hG; done) | simpa using hG) rfl ?_
      | refine callksg rfl Tryd.call49 rfl (fun _ => (compare_p e.t1 e.t2)) (fun hG => by first | (simp; done) | (simp at hG; done) | simpa using hG) rfl ?_
      | refine callqg rfl Tryd.call49 rfl (fun _ => (compare_p e.t1 e.t2)) (fun hG => by first | (simp; done) | (simp at hG; done) | simpa using hG) rfl ?_
    simp
    simp only [cmp_nn, cmp_neg]
    refine ⟨fun h => hwr ?_, fun x y z => hnx ?_ rfl ?_⟩
    · rw [hra, Bool.eq_false_iff]
      intro hc
      simp at hc
      obtain ⟨⟨x, y⟩, z⟩ := hc
      rcases h with (h | h) | h
      · omega
      · omega
      · exact h z
    · rw [hra]; simp; exact ⟨⟨x, y⟩, z⟩
    · exact (congrArg _ (acc_is _ _).symm).trans hmo.symm
  · rw [hra, if_pos (by simpa using hn)]
    simp only [decide_eq_false_iff_not]
    intro hc
    have hc : e.t3 = Acc.zero := hc
    rw [hc] at hz
    simp [Acc.zero] at hz
  · rw [hra, if_pos (by simpa using hn)]
    exact decide_eq_true (Acc.same (b := Acc.zero) z1 z2 z3)
  · exact (hst (by simpa using hn)).symm
  · have hn' : ¬ e.n ≤ ((3 : Nat) : Int) := by simpa using hn
    rw [if_neg hn'] at hra
    have hmo := hmo (by simpa using hn)
    simp only [Ev.all] at hra hmo
    first
      | refine callkg rfl Tryd.call48 rfl (fun _ => (most_p e.t3.k)) (fun hG => by first | (simp; done) | (simp at hG; done) | simpa using hG) rfl ?_
      | refine callksg rfl Tryd.call48 rfl (fun _ => (most_p e.t3.k)) (fun hG => by first | (simp; done) | (simp at hG; done) | simpa using hG) rfl ?_
      | refine callqg rfl Tryd.call48 rfl (fun _ => (most_p e.t3.k)) (fun hG => by first | (simp; done) | (simp at hG; done) | simpa using hG) rfl ?_
    simp
    first
      | refine callkg rfl Tryd.call49 rfl (fun _ => (compare_p e.t2 e.t3)) (fun hG => by first | (simp; done) | (simp at hG; done) | simpa using hG) rfl ?_
      | refine callksg rfl Tryd.call49 rfl (fun _ => (compare_p e.t2 e.t3)) (fun hG => by first | (simp; done) | (simp at hG; done) | simpa using hG) rfl ?_
      | refine callqg rfl Tryd.call49 rfl (fun _ => (compare_p e.t2 e.t3)) (fun hG => by first | (simp; done) | (simp at hG; done) | simpa using hG) rfl ?_
    simp
    simp only [cmp_nn, cmp_neg]
    refine ⟨fun h => hwr ?_, fun x y z => hnx ?_ rfl ?_⟩
    · rw [hra, Bool.eq_false_iff]
      intro hc
      simp at hc
      obtain ⟨⟨x, y⟩, z⟩ := hc
      rcases h with (h | h) | h
      · omega
      · omega
      · exact h z
    · rw [hra]; simp; exact ⟨⟨x, y⟩, z⟩
    · exact (congrArg _ (acc_is _ _).symm).trans hmo.symm
  · rw [hra, if_pos (by simpa using hn)]
    simp only [decide_eq_false_iff_not]
    intro hc
    have hc : e.t4 = Acc.zero := hc
    rw [hc] at hz
    simp [Acc.zero] at hz
  · rw [hra, if_pos (by simpa using hn)]
    exact decide_eq_true (Acc.same (b := Acc.zero) z1 z2 z3)
  · exact (hst (by simpa using hn)).symm
  · have hn' : ¬ e.n ≤ ((4 : Nat) : Int) := by simpa using hn
    rw [if_neg hn'] at hra
    have hmo := hmo (by simpa using hn)
    simp only [Ev.all] at hra hmo
    first
      | refine callkg rfl Tryd.call48 rfl (fun _ => (most_p e.t4.k)) (fun hG => by first | (simp; done) | (simp at hG; done) | simpa using hG) rfl ?_
      | refine callksg rfl Tryd.call48 rfl (fun _ => (most_p e.t4.k)) (fun hG => by first | (simp; done) | (simp at hG; done) | simpa using hG) rfl ?_
      | refine callqg rfl Tryd.call48 rfl (fun _ => (most_p e.t4.k)) (fun hG => by first | (simp; done) | (simp at hG; done) | simpa using hG) rfl ?_
    simp
    first
      | refine callkg rfl Tryd.call49 rfl (fun _ => (compare_p e.t3 e.t4)) (fun hG => by first | (simp; done) | (simp at hG; done) | simpa using hG) rfl ?_
      | refine callksg rfl Tryd.call49 rfl (fun _ => (compare_p e.t3 e.t4)) (fun hG => by first | (simp; done) | (simp at hG; done) | simpa using hG) rfl ?_
      | refine callqg rfl Tryd.call49 rfl (fun _ => (compare_p e.t3 e.t4)) (fun hG => by first | (simp; done) | (simp at hG; done) | simpa using hG) rfl ?_
    simp
    simp only [cmp_nn, cmp_neg]
    refine ⟨fun h => hwr ?_, fun x y z => hnx ?_ rfl ?_⟩
    · rw [hra, Bool.eq_false_iff]
      intro hc
      simp at hc
      obtain ⟨⟨x, y⟩, z⟩ := hc
      rcases h with (h | h) | h
      · omega
      · omega
      · exact h z
    · rw [hra]; simp; exact ⟨⟨x, y⟩, z⟩
    · exact (congrArg _ (acc_is _ _).symm).trans hmo.symm
  · rw [hra, if_pos (by simpa using hn)]
    simp only [decide_eq_false_iff_not]
    intro hc
    have hc : e.t5 = Acc.zero := hc
    rw [hc] at hz
    simp [Acc.zero] at hz
  · rw [hra, if_pos (by simpa using hn)]
    exact decide_eq_true (Acc.same (b := Acc.zero) z1 z2 z3)
  · exact (hst (by simpa using hn)).symm
  · have hn' : ¬ e.n ≤ ((5 : Nat) : Int) := by simpa using hn
    rw [if_neg hn'] at hra
    have hmo := hmo (by simpa using hn)
    simp only [Ev.all] at hra hmo
    first
      | refine callkg rfl Tryd.call48 rfl (fun _ => (most_p e.t5.k)) (fun hG => by first | (simp; done) | (simp at hG; done) | simpa using hG) rfl ?_
      | refine callksg rfl Tryd.call48 rfl (fun _ => (most_p e.t5.k)) (fun hG => by first | (simp; done) | (simp at hG; done) | simpa using hG) rfl ?_
      | refine callqg rfl Tryd.call48 rfl (fun _ => (most_p e.t5.k)) (fun hG => by first | (simp; done) | (simp at hG; done) | simpa using hG) rfl ?_
    simp
    first
      | refine callkg rfl Tryd.call49 rfl (fun _ => (compare_p e.t4 e.t5)) (fun hG => by first | (simp; done) | (simp at hG; done) | simpa using hG) rfl ?_
      | refine callksg rfl Tryd.call49 rfl (fun _ => (compare_p e.t4 e.t5)) (fun hG => by first | (simp; done) | (simp at hG; done) | simpa using hG) rfl ?_
      | refine callqg rfl Tryd.call49 rfl (fun _ => (compare_p e.t4 e.t5)) (fun hG => by first | (simp; done) | (simp at hG; done) | simpa using hG) rfl ?_
    simp
    simp only [cmp_nn, cmp_neg]
    refine ⟨fun h => hwr ?_, fun x y z => hnx ?_ rfl ?_⟩
    · rw [hra, Bool.eq_false_iff]
      intro hc
      simp at hc
      obtain ⟨⟨x, y⟩, z⟩ := hc
      rcases h with (h | h) | h
      · omega
      · omega
      · exact h z
    · rw [hra]; simp; exact ⟨⟨x, y⟩, z⟩
    · exact (congrArg _ (acc_is _ _).symm).trans hmo.symm
def c35 : ACode :=
  (.seq (.reg none [⟨some 1, none, .m (.box (.t 0))⟩, ⟨some 2, none, .q (.mv (.c (.b false)))⟩])
  (.keep [1]
  (.seq (.reg none [⟨some 3, none, .q (.ld (some 26) (.t 1))⟩, ⟨some 4, none, .call (.f 36) [(.t 3)]⟩, ⟨some 5, none, .q (.un .not (.t 4))⟩, ⟨some 2, none, .q (.mv (.t 5))⟩])
  .ret)))
theorem r35 : (Tryd.f35.body.bind (resC Tryd.prog Tryd.f35.ntmps)) = some (strip c35) := by kernel_rfl
theorem s35 : Tryd.f35.results.toList.mapM (resRes Tryd.prog) = some [.t 2] := by kernel_rfl
def c47 : ACode :=
  (.seq (.reg none [⟨some 4, none, .q (.mv (.c (.i .i64 0)))⟩])
  (.keep [0, 1]
  (.seq (.seq (.reg none [⟨some 6, none, .q (.mv (.t 0))⟩, ⟨some 7, none, .q (.len false (.t 6))⟩, ⟨some 8, none, .q (.mv (.c (.i .i64 0)))⟩])
    (.keep [0, 1, 7, 8]
    (.blk 0 (.keep [0, 1, 7, 8]
    (.loop (.fin [0, 1, 7, 8]
      (.seq (.reg none [⟨some 9, none, .q (.bin .lss (.t 8) (.t 7))⟩])
      (.keep [0, 1, 7, 8, 9]
      (.seq (.cond (.t 9) .skip
        (.exit 0))
      (.seq (.blk 1 (.seq (.reg none [⟨some 10, none, .q (.mv (.t 8))⟩, ⟨some 5, none, .q (.mv (.t 10))⟩])
        (.keep [0, 1, 5, 7, 8]
        (.seq (.reg none [⟨some 11, none, .q (.mv (.t 1))⟩, ⟨some 12, none, .q (.mv (.t 0))⟩, ⟨some 13, none, .q (.mv (.t 5))⟩, ⟨some 14, none, .q (.ias 26 (.t 12) (.t 13))⟩, ⟨some 15, none, .q (.ld (some 26) (.t 14))⟩, ⟨some 16, none, .call (.t 11) [(.t 15)]⟩])
        (.keep [0, 1, 5, 7, 8, 16]
        (.cond (.t 16) (.seq (.reg none [⟨some 17, none, .q (.mv (.t 5))⟩, ⟨some 4, none, .q (.mv (.t 17))⟩])
          .ret)
        .skip))))))
      (.keep [0, 1, 7, 8]
      (.reg none [⟨some 18, none, .q (.bin .add (.t 8) (.c (.i .i64 1)))⟩, ⟨some 8, none, .q (.mv (.t 18))⟩]))))))))))))
  (.seq (.reg none [⟨some 4, none, .q (.mv (.c (.i .i64 (-1))))⟩])
  .ret))))
theorem r47 : (Tryd.f47.body.bind (resC Tryd.prog Tryd.f47.ntmps)) = some (strip c47) := by kernel_rfl
theorem s47 : Tryd.f47.results.toList.mapM (resRes Tryd.prog) = some [.t 4] := by kernel_rfl
def c34 : ACode :=
  (.seq (.reg none [⟨some 4, none, .q (.mv (.c (.b false)))⟩])
  (.keep [0, 1]
  (.seq (.reg none [⟨some 5, none, .q (.mv (.t 0))⟩, ⟨some 6, none, .q (.mv (.t 1))⟩, ⟨some 7, none, .call (.f 47) [(.t 5), (.t 6)]⟩, ⟨some 8, none, .q (.bin .geq (.t 7) (.c (.i .i64 0)))⟩, ⟨some 4, none, .q (.mv (.t 8))⟩])
  .ret)))
theorem r34 : (Tryd.f34.body.bind (resC Tryd.prog Tryd.f34.ntmps)) = some (strip c34) := by kernel_rfl
theorem s34 : Tryd.f34.results.toList.mapM (resRes Tryd.prog) = some [.t 4] := by kernel_rfl
def c15 : ACode :=
  (.seq (.reg none [⟨some 2, none, .q (.mv (.c (.i .i64 0)))⟩])
  (.keep [0]
  (.seq (.seq (.reg none [⟨some 3, none, .q (.mv (.t 0))⟩, ⟨some 4, none, .q (.len false (.t 3))⟩, ⟨some 5, none, .q (.bin .gtr (.t 4) (.c (.i .i64 256)))⟩])
    (.keep [0, 5]
    (.cond (.t 5) (.seq (.reg none [⟨some 2, none, .q (.mv (.c (.i .i64 2)))⟩])
      .ret)
    .skip)))
  (.seq (.seq (.reg none [⟨some 6, none, .q (.mv (.t 0))⟩, ⟨some 7, none, .call (.f 34) [(.t 6), (.f 35)]⟩])
    (.keep [7]
    (.cond (.t 7) (.seq (.reg none [⟨some 2, none, .q (.mv (.c (.i .i64 7)))⟩])
      .ret)
    .skip)))
  (.seq (.reg none [⟨some 2, none, .q (.mv (.c (.i .i64 0)))⟩])
  .ret)))))
theorem r15 : (Tryd.f15.body.bind (resC Tryd.prog Tryd.f15.ntmps)) = some (strip c15) := by kernel_rfl
theorem s15 : Tryd.f15.results.toList.mapM (resRes Tryd.prog) = some [.t 2] := by kernel_rfl
theorem check1_p (e : Ev) : PureS Tryd.prog 35 [.g e.row] (.b (!rightE e)) := by
  refine fun_go hmx Tryd.func35 r35 s35 (by rw [Tryd.ntmps35]; simp) ?_
  unfold c35
  simp
  first
    | refine callk rfl Tryd.call36 (right_p e) rfl ?_
    | refine callks rfl Tryd.call36 (right_p e) rfl ?_
    | refine callq rfl Tryd.call36 (right_p e) rfl ?_
    | refine callqe rfl Tryd.call36 (right_p e) rfl ?_
  simp
theorem index_ev (l : List Ev) (hl : l.length < 4611686018427387904) (gid : Nat) (caps : List AV) (T : Ev → Bool) (hT : ∀ e ∈ l, PureS Tryd.prog gid (.g e.row :: caps) (.b (T e))) (hc : ∀ vs w, (callFunc gid vs).run Tryd.prog w = .ok (.enter gid vs) w) :
    PureS Tryd.prog 47 [.sl 26 (l.map Ev.row), .fn gid caps] (.i .i64 (ixF T l)) := by
  refine fun_go hmx Tryd.func47 r47 s47 (by rw [Tryd.ntmps47]; simp) ?_
  unfold c47
  simp
  refine go_count hmx 8 0 l.length (fun k h => h = [] ∧ ∀ j (hj : j < l.length), j < k → T l[j] = false) (Nat.zero_le _) (by omega) rfl ⟨rfl, fun j hj h => absurd h (by omega)⟩ ?_ ?_
  · rintro k h - hlt ⟨rfl, hf⟩ hw
    have hI : (k : Int) < (l.length : Int) := by omega
    simp [hI, hlt]
    refine callk rfl hc (hT l[k] (List.getElem_mem hlt)) rfl ?_
    simp [hw]
    refine ⟨fun ht => (ixF_found hlt hf ht).symm, fun ht => fun j hj hjk => ?_⟩
    by_cases e1 : j = k
    · subst e1; exact ht
    · exact hf j hj (by omega)
  · rintro h ⟨rfl, hf⟩
    simp
    exact (ixF_none fun j hj => hf j hj hj).symm
theorem contains_ev (l : List Ev) (hl : l.length < 4611686018427387904) (gid : Nat) (caps : List AV) (T : Ev → Bool) (hT : ∀ e ∈ l, PureS Tryd.prog gid (.g e.row :: caps) (.b (T e))) (hc : ∀ vs w, (callFunc gid vs).run Tryd.prog w = .ok (.enter gid vs) w) :
    PureS Tryd.prog 34 [.sl 26 (l.map Ev.row), .fn gid caps] (.b (l.any T)) := by
  refine fun_go hmx Tryd.func34 r34 s34 (by rw [Tryd.ntmps34]; simp) ?_
  unfold c34
  simp
  first
    | refine callk rfl Tryd.call47 (index_ev l hl gid caps T hT hc) rfl ?_
    | refine callks rfl Tryd.call47 (index_ev l hl gid caps T hT hc) rfl ?_
    | refine callq rfl Tryd.call47 (index_ev l hl gid caps T hT hc) rfl ?_
    | refine callqe rfl Tryd.call47 (index_ev l hl gid caps T hT hc) rfl ?_
  simp [ixF_any]
theorem check_p (l : List Ev) (hl : l.length < 4611686018427387904) : PureS Tryd.prog 15 [.sl 26 (l.map Ev.row)] (.i .i64 (checkT l)) := by
  refine fun_go hmx Tryd.func15 r15 s15 (by rw [Tryd.ntmps15]; simp) ?_
  unfold c15
  simp
  have hx : checkT l = if 256 < l.length then 2 else if l.any (fun e => !rightE e) then 7 else 0 := by
    unfold checkT
    split
    · rfl
    · by_cases h : l.all rightE
      · rw [if_pos h, if_neg (by simpa using h)]
      · rw [if_neg h, if_pos (by simpa using h)]
  rw [hx]
  refine ⟨fun h => ?_, fun h => ?_⟩
  · rw [if_pos (by omega)]
  rw [if_neg (by omega)]
  first
    | refine callk rfl Tryd.call34 (contains_ev l hl 35 [] (fun e => !rightE e) (fun e _ => check1_p e) Tryd.call35) rfl ?_
    | refine callks rfl Tryd.call34 (contains_ev l hl 35 [] (fun e => !rightE e) (fun e _ => check1_p e) Tryd.call35) rfl ?_
    | refine callq rfl Tryd.call34 (contains_ev l hl 35 [] (fun e => !rightE e) (fun e _ => check1_p e) Tryd.call35) rfl ?_
    | refine callqe rfl Tryd.call34 (contains_ev l hl 35 [] (fun e => !rightE e) (fun e _ => check1_p e) Tryd.call35) rfl ?_
  simp
end Go.Sc.Or
/- Chapters 10 to 12: what depends on what. No condition. -/
set_option linter.constructorNameAsVariable false
namespace Go.Sc.Or
open Go Go.RowKit Go.Av Go.Proofs Go.Sc
set_option linter.unusedSimpArgs false
set_option linter.unusedVariables false
def c29 : ACode :=
  (.seq (.reg none [⟨some 2, none, .q (.mv (.c .nil))⟩])
  (.keep [0]
  (.seq (.reg (some (11, [])) [⟨some 3, none, .q (.mv (.t 0))⟩, ⟨some 4, none, .q (.nck (.t 3))⟩, ⟨some 5, none, .q (.fa 7 (.t 4))⟩, ⟨some 6, none, .q (.mv (.t 0))⟩, ⟨some 7, none, .q (.nck (.t 6))⟩, ⟨some 8, none, .q (.fa 25 (.t 7))⟩, ⟨some 9, none, .q (.ld none (.t 8))⟩, ⟨some 10, none, .q (.mx false (.c (.i .i64 6)) (.t 9))⟩, ⟨some 11, none, .q (.mx true (.c (.i .i64 0)) (.t 10))⟩, ⟨some 12, none, .q (.slp 6 3 (.t 5) none (some (.t 11)))⟩, ⟨some 2, none, .q (.mv (.t 12))⟩])
  .ret)))
theorem r29 : (Tryd.f29.body.bind (resC Tryd.prog Tryd.f29.ntmps)) = some (strip c29) := by kernel_rfl
theorem s29 : Tryd.f29.results.toList.mapM (resRes Tryd.prog) = some [.t 2] := by kernel_rfl
def c28 : ACode :=
  (.seq (.reg none [⟨some 4, none, .q (.mv (.c (.b false)))⟩])
  (.keep [0, 1]
  (.seq (.seq (.reg none [⟨some 9, none, .q (.mv (.t 0))⟩, ⟨some 10, none, .q (.len false (.t 9))⟩, ⟨some 11, none, .q (.mv (.c (.i .i64 0)))⟩])
    (.keep [1, 9, 10, 11]
    (.blk 0 (.keep [1, 9, 10, 11]
    (.loop (.fin [1, 9, 10, 11]
      (.seq (.reg none [⟨some 12, none, .q (.bin .lss (.t 11) (.t 10))⟩])
      (.keep [1, 9, 10, 11, 12]
      (.seq (.cond (.t 12) .skip
        (.exit 0))
      (.seq (.blk 1 (.seq (.reg none [⟨some 13, none, .q (.ias 3 (.t 9) (.t 11))⟩, ⟨some 14, none, .q (.ld (some 3) (.t 13))⟩, ⟨some 6, none, .m (.alloc (.g [(.i .i64 0), (.i .i64 0), (.b false)]))⟩, ⟨none, none, .m (.st 3 (.t 6) (.t 14))⟩])
        (.keep [1, 6, 9, 10, 11]
        (.seq (.reg none [⟨some 15, none, .q (.mv (.t 1))⟩, ⟨some 16, none, .q (.len false (.t 15))⟩, ⟨some 17, none, .q (.mv (.c (.i .i64 0)))⟩])
        (.keep [1, 6, 9, 10, 11, 15, 16, 17]
        (.blk 2 (.keep [1, 6, 9, 10, 11, 15, 16, 17]
        (.loop (.fin [1, 6, 9, 10, 11, 15, 16, 17]
          (.seq (.reg none [⟨some 18, none, .q (.bin .lss (.t 17) (.t 16))⟩])
          (.keep [1, 6, 9, 10, 11, 15, 16, 17, 18]
          (.seq (.cond (.t 18) .skip
            (.exit 2))
          (.seq (.blk 3 (.seq (.reg none [⟨some 19, none, .q (.ias 3 (.t 15) (.t 17))⟩, ⟨some 20, none, .q (.ld (some 3) (.t 19))⟩, ⟨some 8, none, .m (.alloc (.g [(.i .i64 0), (.i .i64 0), (.b false)]))⟩, ⟨none, none, .m (.st 3 (.t 8) (.t 20))⟩])
            (.keep [1, 6, 8, 9, 10, 11, 15, 16, 17]
            (.seq (.reg none [⟨some 21, none, .q (.fa 0 (.t 6))⟩, ⟨some 22, none, .q (.ld none (.t 21))⟩, ⟨some 23, none, .q (.fa 0 (.t 8))⟩, ⟨some 24, none, .q (.ld none (.t 23))⟩, ⟨some 25, none, .q (.bin .eql (.t 22) (.t 24))⟩, ⟨some 26, none, .q (.mv (.t 25))⟩, ⟨some 27, some (26, true), .q (.fa 1 (.t 6))⟩, ⟨some 28, some (26, true), .q (.ld none (.t 27))⟩, ⟨some 29, some (26, true), .q (.fa 1 (.t 8))⟩, ⟨some 30, some (26, true), .q (.ld none (.t 29))⟩, ⟨some 31, some (26, true), .q (.bin .eql (.t 28) (.t 30))⟩, ⟨some 32, none, .pk (.t 26) (.t 31) (.c (.b false))⟩, ⟨some 33, none, .q (.mv (.t 32))⟩, ⟨some 34, some (33, true), .q (.fa 2 (.t 6))⟩, ⟨some 35, some (33, true), .q (.ld none (.t 34))⟩, ⟨some 36, some (33, true), .q (.mv (.t 35))⟩, ⟨some 37, some (36, false), .q (.fa 2 (.t 8))⟩, ⟨some 38, some (36, false), .q (.ld none (.t 37))⟩, ⟨some 39, some (33, true), .pk (.t 36) (.c (.b true)) (.t 38)⟩, ⟨some 40, none, .pk (.t 33) (.t 39) (.c (.b false))⟩])
            (.keep [1, 6, 9, 10, 11, 15, 16, 17, 40]
            (.cond (.t 40) (.seq (.reg none [⟨some 4, none, .q (.mv (.c (.b true)))⟩])
              .ret)
            .skip))))))
          (.keep [1, 6, 9, 10, 11, 15, 16, 17]
          (.reg none [⟨some 41, none, .q (.bin .add (.t 17) (.c (.i .i64 1)))⟩, ⟨some 17, none, .q (.mv (.t 41))⟩])))))))))))))))
      (.keep [1, 9, 10, 11]
      (.reg none [⟨some 42, none, .q (.bin .add (.t 11) (.c (.i .i64 1)))⟩, ⟨some 11, none, .q (.mv (.t 42))⟩]))))))))))))
  (.seq (.reg none [⟨some 4, none, .q (.mv (.c (.b false)))⟩])
  .ret))))
theorem r28 : (Tryd.f28.body.bind (resC Tryd.prog Tryd.f28.ntmps)) = some (strip c28) := by kernel_rfl
theorem s28 : Tryd.f28.results.toList.mapM (resRes Tryd.prog) = some [.t 4] := by kernel_rfl
def c11 : ACode :=
  (.seq (.reg none [⟨some 2, none, .m (.box (.t 0))⟩, ⟨some 3, none, .m (.box (.t 1))⟩, ⟨some 4, none, .q (.mv (.c (.b false)))⟩])
  (.gst (.pimT 2)
  (.gst (.pimT 3)
  (.keep [2, 3]
  (.seq (.reg none [⟨some 5, none, .call (.f 29) [(.t 2)]⟩, ⟨some 6, none, .call (.f 29) [(.t 3)]⟩, ⟨some 7, none, .call (.f 28) [(.t 5), (.t 6)]⟩, ⟨some 4, none, .q (.mv (.t 7))⟩])
  .ret)))))
theorem r11 : (Tryd.f11.body.bind (resC Tryd.prog Tryd.f11.ntmps)) = some (strip c11) := by kernel_rfl
theorem s11 : Tryd.f11.results.toList.mapM (resRes Tryd.prog) = some [.t 4] := by kernel_rfl
theorem touched_p (e : Ev) : PureS Tryd.prog 29 [.pim e.row] (.sl 3 (e.touched.map Acc.row)) := by
  refine fun_go hmx Tryd.func29 r29 s29 (by rw [Tryd.ntmps29]; simp) ?_
  unfold c29
  simp [Ev.row, Ev.cells, Acc.row]
  have hm : (if 0 < if e.n < 6 then e.n else 6 then if e.n < 6 then e.n else 6 else 0) = max 0 (min 6 e.n) := by
    rw [Int.max_def, Int.min_def]
    split <;> split <;> split <;> (try split) <;> omega
  rw [hm]
  refine ⟨by omega, ?_⟩
  rw [Ev.touched, List.map_take]
  rfl
theorem clash_p (a b : List Acc) (ha : a.length ≤ 6) (hb : b.length ≤ 6) : PureS Tryd.prog 28 [.sl 3 (a.map Acc.row), .sl 3 (b.map Acc.row)] (.b (clash a b)) := by
  refine fun_go hmx Tryd.func28 r28 s28 (by rw [Tryd.ntmps28]; simp) ?_
  unfold c28
  simp
  refine go_while hmx 0 (fun (k : Nat) => [(11, .v (.i .i64 (k : Int)))]) (fun _ => []) (fun k => k ≤ a.length ∧ anyTo (fun x => b.any fun y => x.hits y) a k = false) (fun k => a.length - k) 0 rfl (by simp) rfl (by simp) (by simp) (by simp) ⟨Nat.zero_le _, by simp⟩ ?_
  rintro k ⟨hk, hf⟩
  by_cases hkl : k < a.length
  · have hI : (k : Int) < (a.length : Int) := by omega
    have hw : IntKind.i64.wrap ((k : Int) + 1) = (k : Int) + 1 := wrap_in (by omega) (by omega)
    have hsn := anyTo_succ (p := fun x : Acc => b.any fun y => x.hits y) hkl
    have hat := any_at (p := fun x : Acc => b.any fun y => x.hits y) hkl

    simp [hI, hkl, Acc.row]
    generalize a[k] = x at *
    refine go_while hmx 1 (fun (j : Nat) => [(17, .v (.i .i64 (j : Int)))]) (fun _ => [.var (x.row.map .v)]) (fun j => j ≤ b.length ∧ anyTo (fun y => x.hits y) b j = false) (fun j => b.length - j) 0 rfl (by simp) rfl (by simp) (by simp) (by simp [Acc.row]) ⟨Nat.zero_le _, by simp⟩ ?_
    rintro j ⟨hj, hfj⟩
    by_cases hjl : j < b.length
    · have hI2 : (j : Int) < (b.length : Int) := by omega
      have hw2 : IntKind.i64.wrap ((j : Int) + 1) = (j : Int) + 1 := wrap_in (by omega) (by omega)
      have hsn2 := anyTo_succ (p := fun y : Acc => x.hits y) hjl
      have hat2 := any_at (p := fun y : Acc => x.hits y) hjl

      simp [hI2, hjl, Acc.row]
      generalize b[j] = y at *
      refine ⟨fun h1 h2 => ⟨⟨h1, h2⟩, fun h3 => ⟨⟨h1, h2⟩, h3⟩⟩, fun h1 h2 h3 => ?_, fun h => ?_⟩
      · exact hat (hat2 (by unfold Acc.hits; simp [h1, h2]; exact h3))
      · have hno : x.hits y = false := by
          unfold Acc.hits
          by_cases h1 : x.k = y.k
          · by_cases h2 : x.n = y.n
            · obtain ⟨h3, h4⟩ := h h1 h2; simp [h3, h4]
            · simp [h2]
          · simp [h1]
        exact ⟨j + 1, by rw [hw2]; rfl, ⟨by omega, by rw [hsn2, hfj, hno]; rfl⟩, by omega⟩
    · obtain rfl : j = b.length := by omega
      rw [anyTo_len] at hfj
      simp [hw]
      exact ⟨k + 1, rfl, ⟨by omega, by rw [hsn, hf, hfj]; rfl⟩, by omega⟩
  · obtain rfl : k = a.length := by omega
    rw [anyTo_len] at hf
    simp
    exact hf
theorem touched_few (e : Ev) : e.touched.length ≤ 6 := by rw [Ev.touched, List.length_take]; simp; omega
theorem dependent_p (a b : Ev) : PureS Tryd.prog 11 [.g a.row, .g b.row] (.b (dep a b)) := by
  refine fun_go hmx Tryd.func11 r11 s11 (by rw [Tryd.ntmps11]; simp) ?_
  unfold c11
  simp
  first
    | refine callk rfl Tryd.call29 (touched_p a) rfl ?_
    | refine callks rfl Tryd.call29 (touched_p a) rfl ?_
    | refine callq rfl Tryd.call29 (touched_p a) rfl ?_
    | refine callqe rfl Tryd.call29 (touched_p a) rfl ?_
  simp
  first
    | refine callk rfl Tryd.call29 (touched_p b) rfl ?_
    | refine callks rfl Tryd.call29 (touched_p b) rfl ?_
    | refine callq rfl Tryd.call29 (touched_p b) rfl ?_
    | refine callqe rfl Tryd.call29 (touched_p b) rfl ?_
  simp
  first
    | refine callk rfl Tryd.call28 (clash_p _ _ (touched_few a) (touched_few b)) rfl ?_
    | refine callks rfl Tryd.call28 (clash_p _ _ (touched_few a) (touched_few b)) rfl ?_
    | refine callq rfl Tryd.call28 (clash_p _ _ (touched_few a) (touched_few b)) rfl ?_
    | refine callqe rfl Tryd.call28 (clash_p _ _ (touched_few a) (touched_few b)) rfl ?_
  simp [dep]
end Go.Sc.Or
/- Chapters 10 to 12: the document's own: is an event right, what depends on what. No condition. -/
set_option linter.constructorNameAsVariable false
namespace Go.Sc.Or
open Go Go.RowKit Go.Av Go.Proofs Go.Sc
set_option linter.unusedSimpArgs false
set_option linter.unusedVariables false
def c33 : ACode :=
  (.seq (.reg none [⟨some 2, none, .q (.mv (.c (.i .i64 0)))⟩])
  (.keep [0]
  (.seq (.seq (.reg none [⟨some 3, none, .q (.mv (.t 0))⟩])
    (.keep [3]
    (.blk 0 (.seq (.reg none [⟨some 5, none, .q (.bin .eql (.t 3) (.c (.i .i64 1)))⟩, ⟨some 4, none, .q (.mv (.t 5))⟩])
    (.keep [3, 4]
    (.cond (.t 4) (.seq (.reg none [⟨some 2, none, .q (.mv (.c (.i .i64 8)))⟩])
      .ret)
    (.seq (.seq (.reg none [⟨some 7, none, .q (.bin .eql (.t 3) (.c (.i .i64 2)))⟩, ⟨some 6, none, .q (.mv (.t 7))⟩])
        (.keep [3, 6]
        (.cond (.t 6) .skip
        (.reg none [⟨some 8, none, .q (.bin .eql (.t 3) (.c (.i .i64 3)))⟩, ⟨some 6, none, .q (.mv (.t 8))⟩]))))
      (.cond (.t 6) (.seq (.reg none [⟨some 2, none, .q (.mv (.c (.i .i64 4)))⟩])
        .ret)
      (.seq (.seq (.reg none [⟨some 10, none, .q (.bin .eql (.t 3) (.c (.i .i64 4)))⟩, ⟨some 9, none, .q (.mv (.t 10))⟩])
          (.keep [3, 9]
          (.cond (.t 9) .skip
          (.reg none [⟨some 11, none, .q (.bin .eql (.t 3) (.c (.i .i64 6)))⟩, ⟨some 9, none, .q (.mv (.t 11))⟩]))))
        (.cond (.t 9) (.seq (.reg none [⟨some 2, none, .q (.mv (.c (.i .i64 1)))⟩])
          .ret)
        (.seq (.reg none [⟨some 13, none, .q (.bin .eql (.t 3) (.c (.i .i64 5)))⟩, ⟨some 12, none, .q (.mv (.t 13))⟩])
          (.keep [12]
          (.cond (.t 12) (.seq (.reg none [⟨some 2, none, .q (.mv (.c (.i .i64 6)))⟩])
            .ret)
          .skip)))))))))))))
  (.seq (.reg none [⟨some 2, none, .q (.mv (.c (.i .i64 0)))⟩])
  .ret))))
theorem r33 : (Tryd.f33.body.bind (resC Tryd.prog Tryd.f33.ntmps)) = some (strip c33) := by kernel_rfl
theorem s33 : Tryd.f33.results.toList.mapM (resRes Tryd.prog) = some [.t 2] := by kernel_rfl
def c14 : ACode :=
  (.seq (.reg none [⟨some 1, none, .m (.box (.t 0))⟩, ⟨some 2, none, .q (.mv (.c (.b false)))⟩])
  (.keep [1]
  (.seq (.seq (.reg none [⟨some 7, none, .q (.fa 0 (.t 1))⟩, ⟨some 8, none, .q (.ld none (.t 7))⟩, ⟨some 9, none, .q (.bin .lss (.t 8) (.c (.i .i64 0)))⟩, ⟨some 10, none, .q (.mv (.t 9))⟩, ⟨some 11, some (10, false), .q (.fa 0 (.t 1))⟩, ⟨some 12, some (10, false), .q (.ld none (.t 11))⟩, ⟨some 13, some (10, false), .q (.bin .geq (.t 12) (.c (.i .i64 6)))⟩, ⟨some 14, none, .pk (.t 10) (.c (.b true)) (.t 13)⟩, ⟨some 15, none, .q (.mv (.t 14))⟩, ⟨some 16, some (15, false), .q (.fa 25 (.t 1))⟩, ⟨some 17, some (15, false), .q (.ld none (.t 16))⟩, ⟨some 18, some (15, false), .q (.bin .lss (.t 17) (.c (.i .i64 1)))⟩, ⟨some 19, none, .pk (.t 15) (.c (.b true)) (.t 18)⟩, ⟨some 20, none, .q (.mv (.t 19))⟩, ⟨some 21, some (20, false), .q (.fa 25 (.t 1))⟩, ⟨some 22, some (20, false), .q (.ld none (.t 21))⟩, ⟨some 23, some (20, false), .q (.bin .gtr (.t 22) (.c (.i .i64 6)))⟩, ⟨some 24, none, .pk (.t 20) (.c (.b true)) (.t 23)⟩])
    (.keep [1, 24]
    (.cond (.t 24) (.seq (.reg none [⟨some 2, none, .q (.mv (.c (.b false)))⟩])
      .ret)
    .skip)))
  (.seq (.reg none [⟨some 3, none, .q (.mv (.c (.b false)))⟩])
  (.keep [1, 3]
  (.seq (.seq (.reg none [⟨some 4, none, .q (.mv (.c (.i .i64 0)))⟩])
    (.keep [1, 3, 4]
    (.blk 0 (.keep [1, 3, 4]
    (.loop (.fin [1, 3, 4]
      (.seq (.seq (.reg none [⟨some 25, none, .q (.mv (.t 4))⟩, ⟨some 26, none, .q (.bin .lss (.t 25) (.c (.i .i64 6)))⟩])
        (.keep [1, 3, 4, 26]
        (.cond (.t 26) .skip
        (.exit 0))))
      (.seq (.blk 1 (.seq (.reg none [⟨some 29, none, .q (.mv (.t 4))⟩, ⟨some 30, none, .q (.fa 7 (.t 1))⟩, ⟨some 31, none, .q (.iaa 6 3 (.t 30) (.t 29))⟩, ⟨some 32, none, .q (.ld (some 3) (.t 31))⟩, ⟨some 5, none, .m (.alloc (.g [(.i .i64 0), (.i .i64 0), (.b false)]))⟩, ⟨none, none, .m (.st 3 (.t 5) (.t 32))⟩])
        (.keep [1, 3, 4, 5]
        (.seq (.seq (.reg none [⟨some 33, none, .q (.mv (.t 4))⟩, ⟨some 34, none, .q (.fa 25 (.t 1))⟩, ⟨some 35, none, .q (.ld none (.t 34))⟩, ⟨some 36, none, .q (.bin .geq (.t 33) (.t 35))⟩])
          (.keep [1, 3, 4, 5, 36]
          (.cond (.t 36) (.seq (.seq (.reg none [⟨some 37, none, .q (.ld (some 3) (.t 5))⟩, ⟨some 38, none, .q (.bld [(.i .i64 0), (.i .i64 0), (.b false)] [])⟩, ⟨some 39, none, .q (.eqg true [.i, .i, .b] (.t 37) (.t 38))⟩])
              (.keep [1, 3, 4, 39]
              (.cond (.t 39) (.seq (.reg none [⟨some 2, none, .q (.mv (.c (.b false)))⟩])
                .ret)
              .skip)))
            (.exit 1))
          .skip)))
        (.seq (.seq (.reg (some (8, [4, 5])) [⟨some 40, none, .q (.fa 1 (.t 5))⟩, ⟨some 41, none, .q (.ld none (.t 40))⟩, ⟨some 42, none, .q (.bin .lss (.t 41) (.c (.i .i64 0)))⟩, ⟨some 43, none, .q (.mv (.t 42))⟩, ⟨some 44, some (43, false), .q (.fa 1 (.t 5))⟩, ⟨some 45, some (43, false), .q (.ld none (.t 44))⟩, ⟨some 46, some (43, false), .q (.fa 0 (.t 5))⟩, ⟨some 47, some (43, false), .q (.ld none (.t 46))⟩, ⟨some 48, some (43, false), .call (.f 33) [(.t 47)]⟩, ⟨some 49, some (43, false), .q (.bin .geq (.t 45) (.t 48))⟩, ⟨some 50, none, .pk (.t 43) (.c (.b true)) (.t 49)⟩])
          (.keep [1, 3, 4, 5, 50]
          (.cond (.t 50) (.seq (.reg none [⟨some 2, none, .q (.mv (.c (.b false)))⟩])
            .ret)
          .skip)))
        (.seq (.seq (.reg none [⟨some 51, none, .q (.mv (.t 4))⟩, ⟨some 52, none, .q (.bin .gtr (.t 51) (.c (.i .i64 0)))⟩])
          (.keep [1, 3, 4, 5, 52]
          (.cond (.t 52) (.seq (.reg none [⟨some 53, none, .q (.mv (.t 4))⟩, ⟨some 54, none, .q (.bin .sub (.t 53) (.c (.i .i64 1)))⟩, ⟨some 55, none, .q (.fa 7 (.t 1))⟩, ⟨some 56, none, .q (.iaa 6 3 (.t 55) (.t 54))⟩, ⟨some 57, none, .q (.ld (some 3) (.t 56))⟩, ⟨some 6, none, .m (.alloc (.g [(.i .i64 0), (.i .i64 0), (.b false)]))⟩, ⟨none, none, .m (.st 3 (.t 6) (.t 57))⟩])
            (.keep [1, 3, 4, 5, 6]
            (.seq (.reg none [⟨some 58, none, .q (.fa 0 (.t 6))⟩, ⟨some 59, none, .q (.ld none (.t 58))⟩, ⟨some 60, none, .q (.fa 0 (.t 5))⟩, ⟨some 61, none, .q (.ld none (.t 60))⟩, ⟨some 62, none, .q (.bin .gtr (.t 59) (.t 61))⟩, ⟨some 63, none, .q (.mv (.t 62))⟩, ⟨some 64, some (63, false), .q (.fa 0 (.t 6))⟩, ⟨some 65, some (63, false), .q (.ld none (.t 64))⟩, ⟨some 66, some (63, false), .q (.fa 0 (.t 5))⟩, ⟨some 67, some (63, false), .q (.ld none (.t 66))⟩, ⟨some 68, some (63, false), .q (.bin .eql (.t 65) (.t 67))⟩, ⟨some 69, some (63, false), .q (.mv (.t 68))⟩, ⟨some 70, some (69, true), .q (.fa 1 (.t 6))⟩, ⟨some 71, some (69, true), .q (.ld none (.t 70))⟩, ⟨some 72, some (69, true), .q (.fa 1 (.t 5))⟩, ⟨some 73, some (69, true), .q (.ld none (.t 72))⟩, ⟨some 74, some (69, true), .q (.bin .geq (.t 71) (.t 73))⟩, ⟨some 75, some (63, false), .pk (.t 69) (.t 74) (.c (.b false))⟩, ⟨some 76, none, .pk (.t 63) (.c (.b true)) (.t 75)⟩])
            (.keep [1, 3, 4, 5, 76]
            (.cond (.t 76) (.seq (.reg none [⟨some 2, none, .q (.mv (.c (.b false)))⟩])
              .ret)
            .skip)))))
          .skip)))
        (.reg none [⟨some 77, none, .q (.mv (.t 3))⟩, ⟨some 78, none, .q (.mv (.t 77))⟩, ⟨some 79, some (78, false), .q (.fa 0 (.t 5))⟩, ⟨some 80, some (78, false), .q (.ld none (.t 79))⟩, ⟨some 81, some (78, false), .q (.bin .eql (.t 80) (.c (.i .i64 5)))⟩, ⟨some 82, some (78, false), .q (.mv (.t 81))⟩, ⟨some 83, some (82, true), .q (.fa 1 (.t 5))⟩, ⟨some 84, some (82, true), .q (.ld none (.t 83))⟩, ⟨some 85, some (82, true), .q (.fa 0 (.t 1))⟩, ⟨some 86, some (82, true), .q (.ld none (.t 85))⟩, ⟨some 87, some (82, true), .q (.bin .eql (.t 84) (.t 86))⟩, ⟨some 88, some (78, false), .pk (.t 82) (.t 87) (.c (.b false))⟩, ⟨some 89, some (78, false), .q (.mv (.t 88))⟩, ⟨some 90, some (89, true), .q (.fa 2 (.t 5))⟩, ⟨some 91, some (89, true), .q (.ld none (.t 90))⟩, ⟨some 92, some (78, false), .pk (.t 89) (.t 91) (.c (.b false))⟩, ⟨some 93, none, .pk (.t 78) (.c (.b true)) (.t 92)⟩, ⟨some 3, none, .q (.mv (.t 93))⟩])))))))
      (.keep [1, 3, 4]
      (.reg none [⟨some 27, none, .q (.mv (.t 4))⟩, ⟨some 28, none, .q (.bin .add (.t 27) (.c (.i .i64 1)))⟩, ⟨some 4, none, .q (.mv (.t 28))⟩]))))))))))
  (.seq (.reg none [⟨some 94, none, .q (.mv (.t 3))⟩, ⟨some 2, none, .q (.mv (.t 94))⟩])
  .ret)))))))
theorem r14 : (Tryd.f14.body.bind (resC Tryd.prog Tryd.f14.ntmps)) = some (strip c14) := by kernel_rfl
theorem s14 : Tryd.f14.results.toList.mapM (resRes Tryd.prog) = some [.t 2] := by kernel_rfl
def c6 : ACode :=
  (.seq (.reg none [⟨some 2, none, .q (.mv (.c (.i .i64 0)))⟩])
  (.keep [0]
  (.seq (.seq (.reg none [⟨some 4, none, .q (.mv (.t 0))⟩, ⟨some 5, none, .q (.len false (.t 4))⟩, ⟨some 6, none, .q (.bin .gtr (.t 5) (.c (.i .i64 256)))⟩])
    (.keep [0, 6]
    (.cond (.t 6) (.seq (.reg none [⟨some 2, none, .q (.mv (.c (.i .i64 2)))⟩])
      .ret)
    .skip)))
  (.seq (.seq (.reg none [⟨some 3, none, .q (.mv (.c (.i .i64 0)))⟩])
    (.keep [0, 3]
    (.blk 0 (.keep [0, 3]
    (.loop (.fin [0, 3]
      (.seq (.seq (.reg none [⟨some 7, none, .q (.mv (.t 3))⟩, ⟨some 8, none, .q (.mv (.t 0))⟩, ⟨some 9, none, .q (.len false (.t 8))⟩, ⟨some 10, none, .q (.bin .lss (.t 7) (.t 9))⟩])
        (.keep [0, 3, 10]
        (.cond (.t 10) .skip
        (.exit 0))))
      (.seq (.blk 1 (.seq (.reg none [⟨some 13, none, .q (.mv (.t 0))⟩, ⟨some 14, none, .q (.mv (.t 3))⟩, ⟨some 15, none, .q (.ias 26 (.t 13) (.t 14))⟩, ⟨some 16, none, .q (.ld (some 26) (.t 15))⟩, ⟨some 17, none, .call (.f 14) [(.t 16)]⟩, ⟨some 18, none, .q (.un .not (.t 17))⟩])
        (.keep [0, 3, 18]
        (.cond (.t 18) (.seq (.reg none [⟨some 2, none, .q (.mv (.c (.i .i64 7)))⟩])
          .ret)
        .skip))))
      (.keep [0, 3]
      (.reg none [⟨some 11, none, .q (.mv (.t 3))⟩, ⟨some 12, none, .q (.bin .add (.t 11) (.c (.i .i64 1)))⟩, ⟨some 3, none, .q (.mv (.t 12))⟩]))))))))))
  (.seq (.reg none [⟨some 2, none, .q (.mv (.c (.i .i64 0)))⟩])
  .ret)))))
theorem r6 : (Tryd.f6.body.bind (resC Tryd.prog Tryd.f6.ntmps)) = some (strip c6) := by kernel_rfl
theorem s6 : Tryd.f6.results.toList.mapM (resRes Tryd.prog) = some [.t 2] := by kernel_rfl
def c70 : ACode :=
  (.seq (.reg none [⟨some 1, none, .m (.box (.t 0))⟩, ⟨some 2, none, .q (.mv (.c .nil))⟩])
  (.keep [1]
  (.seq (.reg none [⟨some 3, none, .q (.mv (.c .nil))⟩])
  (.gst (.nilT 3 3)
  (.keep [1, 3]
  (.seq (.seq (.reg none [⟨some 4, none, .q (.mv (.c (.i .i64 0)))⟩])
    (.keep [1, 3, 4]
    (.blk 0 (.keep [1, 3, 4]
    (.loop (.fin [1, 3, 4]
      (.seq (.seq (.reg none [⟨some 5, none, .q (.mv (.t 4))⟩, ⟨some 6, none, .q (.bin .lss (.t 5) (.c (.i .i64 6)))⟩, ⟨some 7, none, .q (.mv (.t 6))⟩, ⟨some 8, some (7, true), .q (.mv (.t 4))⟩, ⟨some 9, some (7, true), .q (.fa 25 (.t 1))⟩, ⟨some 10, some (7, true), .q (.ld none (.t 9))⟩, ⟨some 11, some (7, true), .q (.bin .lss (.t 8) (.t 10))⟩, ⟨some 12, none, .pk (.t 7) (.t 11) (.c (.b false))⟩])
        (.keep [1, 3, 4, 12]
        (.cond (.t 12) .skip
        (.exit 0))))
      (.seq (.blk 1 (.reg none [⟨some 15, none, .q (.mv (.t 3))⟩, ⟨some 16, none, .q (.mv (.t 4))⟩, ⟨some 17, none, .q (.fa 7 (.t 1))⟩, ⟨some 18, none, .q (.iaa 6 3 (.t 17) (.t 16))⟩, ⟨some 19, none, .q (.ld (some 3) (.t 18))⟩, ⟨some 20, none, .m (.bsl 1 3 [(.i .i64 0), (.i .i64 0), (.b false)] [(0, 3, .t 19)])⟩, ⟨some 21, none, .m (.app 3 24 (.t 15) (.t 20))⟩, ⟨some 3, none, .q (.mv (.t 21))⟩]))
      (.keep [1, 3, 4]
      (.reg none [⟨some 13, none, .q (.mv (.t 4))⟩, ⟨some 14, none, .q (.bin .add (.t 13) (.c (.i .i64 1)))⟩, ⟨some 4, none, .q (.mv (.t 14))⟩]))))))))))
  (.seq (.gst (.letT 3 3)
    (.reg none [⟨some 22, none, .q (.mv (.t 3))⟩, ⟨some 2, none, .q (.mv (.t 22))⟩]))
  .ret)))))))
theorem r70 : (Tryd.f70.body.bind (resC Tryd.prog Tryd.f70.ntmps)) = some (strip c70) := by kernel_rfl
theorem s70 : Tryd.f70.results.toList.mapM (resRes Tryd.prog) = some [.t 2] := by kernel_rfl
def c69 : ACode :=
  (.seq (.reg none [⟨some 4, none, .q (.mv (.c (.b false)))⟩])
  (.keep [0, 1]
  (.seq (.seq (.reg none [⟨some 5, none, .q (.mv (.c (.i .i64 0)))⟩])
    (.keep [0, 1, 5]
    (.blk 0 (.keep [0, 1, 5]
    (.loop (.fin [0, 1, 5]
      (.seq (.seq (.reg none [⟨some 7, none, .q (.mv (.t 5))⟩, ⟨some 8, none, .q (.mv (.t 0))⟩, ⟨some 9, none, .q (.len false (.t 8))⟩, ⟨some 10, none, .q (.bin .lss (.t 7) (.t 9))⟩])
        (.keep [0, 1, 5, 10]
        (.cond (.t 10) .skip
        (.exit 0))))
      (.seq (.blk 1 (.seq (.reg none [⟨some 6, none, .q (.mv (.c (.i .i64 0)))⟩])
        (.keep [0, 1, 5, 6]
        (.blk 2 (.keep [0, 1, 5, 6]
        (.loop (.fin [0, 1, 5, 6]
          (.seq (.seq (.reg none [⟨some 13, none, .q (.mv (.t 6))⟩, ⟨some 14, none, .q (.mv (.t 1))⟩, ⟨some 15, none, .q (.len false (.t 14))⟩, ⟨some 16, none, .q (.bin .lss (.t 13) (.t 15))⟩])
            (.keep [0, 1, 5, 6, 16]
            (.cond (.t 16) .skip
            (.exit 2))))
          (.seq (.blk 3 (.seq (.reg (some (38, [])) [⟨some 19, none, .q (.mv (.t 0))⟩, ⟨some 20, none, .q (.mv (.t 5))⟩, ⟨some 21, none, .q (.ias 3 (.t 19) (.t 20))⟩, ⟨some 22, none, .q (.fa 0 (.t 21))⟩, ⟨some 23, none, .q (.ld none (.t 22))⟩, ⟨some 24, none, .q (.mv (.t 1))⟩, ⟨some 25, none, .q (.mv (.t 6))⟩, ⟨some 26, none, .q (.ias 3 (.t 24) (.t 25))⟩, ⟨some 27, none, .q (.fa 0 (.t 26))⟩, ⟨some 28, none, .q (.ld none (.t 27))⟩, ⟨some 29, none, .q (.bin .eql (.t 23) (.t 28))⟩, ⟨some 30, none, .q (.mv (.t 29))⟩, ⟨some 31, some (30, true), .q (.mv (.t 0))⟩, ⟨some 32, some (30, true), .q (.mv (.t 5))⟩, ⟨some 33, some (30, true), .q (.ias 3 (.t 31) (.t 32))⟩, ⟨some 34, some (30, true), .q (.fa 1 (.t 33))⟩, ⟨some 35, some (30, true), .q (.ld none (.t 34))⟩, ⟨some 36, some (30, true), .q (.mv (.t 1))⟩, ⟨some 37, some (30, true), .q (.mv (.t 6))⟩, ⟨some 38, some (30, true), .q (.ias 3 (.t 36) (.t 37))⟩, ⟨some 39, some (30, true), .q (.fa 1 (.t 38))⟩, ⟨some 40, some (30, true), .q (.ld none (.t 39))⟩, ⟨some 41, some (30, true), .q (.bin .eql (.t 35) (.t 40))⟩, ⟨some 42, none, .pk (.t 30) (.t 41) (.c (.b false))⟩, ⟨some 43, none, .q (.mv (.t 42))⟩, ⟨some 44, some (43, true), .q (.mv (.t 0))⟩, ⟨some 45, some (43, true), .q (.mv (.t 5))⟩, ⟨some 46, some (43, true), .q (.ias 3 (.t 44) (.t 45))⟩, ⟨some 47, some (43, true), .q (.fa 2 (.t 46))⟩, ⟨some 48, some (43, true), .q (.ld none (.t 47))⟩, ⟨some 49, some (43, true), .q (.mv (.t 48))⟩, ⟨some 50, some (49, false), .q (.mv (.t 1))⟩, ⟨some 51, some (49, false), .q (.mv (.t 6))⟩, ⟨some 52, some (49, false), .q (.ias 3 (.t 50) (.t 51))⟩, ⟨some 53, some (49, false), .q (.fa 2 (.t 52))⟩, ⟨some 54, some (49, false), .q (.ld none (.t 53))⟩, ⟨some 55, some (43, true), .pk (.t 49) (.c (.b true)) (.t 54)⟩, ⟨some 56, none, .pk (.t 43) (.t 55) (.c (.b false))⟩])
            (.keep [0, 1, 5, 6, 56]
            (.cond (.t 56) (.seq (.reg none [⟨some 4, none, .q (.mv (.c (.b true)))⟩])
              .ret)
            .skip))))
          (.keep [0, 1, 5, 6]
          (.reg none [⟨some 17, none, .q (.mv (.t 6))⟩, ⟨some 18, none, .q (.bin .add (.t 17) (.c (.i .i64 1)))⟩, ⟨some 6, none, .q (.mv (.t 18))⟩])))))))))))
      (.keep [0, 1, 5]
      (.reg none [⟨some 11, none, .q (.mv (.t 5))⟩, ⟨some 12, none, .q (.bin .add (.t 11) (.c (.i .i64 1)))⟩, ⟨some 5, none, .q (.mv (.t 12))⟩]))))))))))
  (.seq (.reg none [⟨some 4, none, .q (.mv (.c (.b false)))⟩])
  .ret))))
theorem r69 : (Tryd.f69.body.bind (resC Tryd.prog Tryd.f69.ntmps)) = some (strip c69) := by kernel_rfl
theorem s69 : Tryd.f69.results.toList.mapM (resRes Tryd.prog) = some [.t 4] := by kernel_rfl
def c58 : ACode :=
  (.seq (.reg none [⟨some 2, none, .m (.box (.t 0))⟩, ⟨some 3, none, .m (.box (.t 1))⟩, ⟨some 4, none, .q (.mv (.c (.b false)))⟩])
  (.keep [2, 3]
  (.seq (.reg (some (6, [])) [⟨some 5, none, .q (.ld (some 26) (.t 2))⟩, ⟨some 6, none, .call (.f 70) [(.t 5)]⟩, ⟨some 7, none, .q (.ld (some 26) (.t 3))⟩, ⟨some 8, none, .call (.f 70) [(.t 7)]⟩, ⟨some 9, none, .call (.f 69) [(.t 6), (.t 8)]⟩, ⟨some 4, none, .q (.mv (.t 9))⟩])
  .ret)))
theorem r58 : (Tryd.f58.body.bind (resC Tryd.prog Tryd.f58.ntmps)) = some (strip c58) := by kernel_rfl
theorem s58 : Tryd.f58.results.toList.mapM (resRes Tryd.prog) = some [.t 4] := by kernel_rfl
theorem few_p (k : Int) : PureS Tryd.prog 33 [.i .i64 k] (.i .i64 (few k)) := by
  refine fun_go hmx Tryd.func33 r33 s33 (by rw [Tryd.ntmps33]; simp) ?_
  unfold c33
  simp
  repeat' apply And.intro
  all_goals intros; simp_all [few]
theorem own_same {o a b c : Bool} : (o || a && b && c) = (o || (a && (b && c))) := by rw [Bool.and_assoc]
theorem rightR_p (e : Ev) : PureS Tryd.prog 14 [.g e.row] (.b (rightE e)) := by
  refine fun_go hmx Tryd.func14 r14 s14 (by rw [Tryd.ntmps14]; simp) ?_
  unfold c14
  simp [Ev.row, Ev.cells, Acc.row]
  constructor
  · intro h
    unfold rightE
    rw [decide_eq_false (by omega)]
    rfl
  intro h1 h2 h3 h4
  refine go_while hmx 1 (fun (k : Nat) => [(3, .v (.b (ownTo e k))), (4, .v (.i .i64 (k : Int)))]) (fun k => [.var (e.row.map .v)]) (fun k => k ≤ 6 ∧ ∀ j, j < k → rightAt e j = true) (fun k => 7 - k) 0 rfl (by simp [ownTo]) rfl (by simp) (by simp) (by simp [Ev.row, Ev.cells, Acc.row]) ⟨Nat.zero_le _, fun j hj => absurd hj (by omega)⟩ ?_
  rintro k ⟨hk, hr⟩
  by_cases hk6 : k = 6
  · subst hk6
    simp
    unfold rightE
    rw [decide_eq_true ⟨h1, h2, h3, h4⟩, List.all_eq_true.2 (fun j hj => hr j (by simpa using hj))]
    simp only [ownTo, Ev.touched, Bool.true_and]
    rw [show min 6 e.n.toNat = (max 0 (min 6 e.n)).toNat by omega]
  have hkl : k < 6 := by omega
  have hst := @own_stay e k
  have hmo := @own_more e k hkl
  have hwr := @wrong e k hkl
  have hnx := @next_own e k hkl hr
  have hra : rightAt e k = rightAt e k := rfl
  conv at hra => rhs; unfold rightAt
  rcases (by omega : k = 0 ∨ k = 1 ∨ k = 2 ∨ k = 3 ∨ k = 4 ∨ k = 5) with rfl | rfl | rfl | rfl | rfl | rfl
  all_goals simp [Ev.row, Ev.cells, Acc.row]
  all_goals refine ⟨fun hn => ⟨fun hz => hwr ?_, fun z1 z2 z3 => hnx ?_ rfl ?_⟩, fun hn => ?_⟩
  · rw [hra, if_pos (by simpa using hn)]
    simp only [decide_eq_false_iff_not]
    intro hc
    have hc : e.t0 = Acc.zero := hc
    rw [hc] at hz
    simp [Acc.zero] at hz
  · rw [hra, if_pos (by simpa using hn)]
    exact decide_eq_true (Acc.same (b := Acc.zero) z1 z2 z3)
  · exact (hst (by simpa using hn)).symm
  · have hn' : ¬ e.n ≤ ((0 : Nat) : Int) := by simpa using hn
    rw [if_neg hn'] at hra
    have hmo := hmo (by simpa using hn)
    simp only [Ev.all] at hra hmo
    first
      | refine callkg rfl Tryd.call33 rfl (fun _ => (few_p e.t0.k)) (fun hG => by first | (simp; done) | (simp at hG; done) | simpa using hG) rfl ?_
      | refine callksg rfl Tryd.call33 rfl (fun _ => (few_p e.t0.k)) (fun hG => by first | (simp; done) | (simp at hG; done) | simpa using hG) rfl ?_
      | refine callqg rfl Tryd.call33 rfl (fun _ => (few_p e.t0.k)) (fun hG => by first | (simp; done) | (simp at hG; done) | simpa using hG) rfl ?_
    simp
    refine ⟨fun h => hwr ?_, fun x y => ?_⟩
    · rw [hra, Bool.eq_false_iff]
      intro hc
      simp at hc
      omega
    · exact ⟨fun h => ⟨h, fun h2 => ⟨h, h2⟩⟩, fun h => ⟨h, fun h2 h3 => ⟨h, h2, h3⟩⟩, hnx (by rw [hra]; simp; exact ⟨x, y⟩) rfl (own_same.trans ((congrArg _ (acc_is _ _).symm).trans hmo.symm))⟩
  · rw [hra, if_pos (by simpa using hn)]
    simp only [decide_eq_false_iff_not]
    intro hc
    have hc : e.t1 = Acc.zero := hc
    rw [hc] at hz
    simp [Acc.zero] at hz
  · rw [hra, if_pos (by simpa using hn)]
    exact decide_eq_true (Acc.same (b := Acc.zero) z1 z2 z3)
  · exact (hst (by simpa using hn)).symm
  · have hn' : ¬ e.n ≤ ((1 : Nat) : Int) := by simpa using hn
    rw [if_neg hn'] at hra
    have hmo := hmo (by simpa using hn)
    simp only [Ev.all] at hra hmo
    first
      | refine callkg rfl Tryd.call33 rfl (fun _ => (few_p e.t1.k)) (fun hG => by first | (simp; done) | (simp at hG; done) | simpa using hG) rfl ?_
      | refine callksg rfl Tryd.call33 rfl (fun _ => (few_p e.t1.k)) (fun hG => by first | (simp; done) | (simp at hG; done) | simpa using hG) rfl ?_
      | refine callqg rfl Tryd.call33 rfl (fun _ => (few_p e.t1.k)) (fun hG => by first | (simp; done) | (simp at hG; done) | simpa using hG) rfl ?_
    simp
    refine ⟨fun h => hwr ?_, fun x y => ?_⟩
    · rw [hra, Bool.eq_false_iff]
      intro hc
      simp at hc
      omega
    · refine ⟨fun h => ⟨h, fun h2 => ⟨h, h2⟩⟩, fun h => hwr ?_, fun z1 z2 => ?_⟩
      · rw [hra, Bool.eq_false_iff]
        intro hc
        simp [Acc.lt] at hc
        omega
      · have z : e.t0.lt e.t1 := by unfold Acc.lt; omega
        exact ⟨fun h => ⟨h, fun h2 => ⟨h, h2⟩⟩, fun h => ⟨h, fun h2 h3 => ⟨h, h2, h3⟩⟩, hnx (by rw [hra]; simp; exact ⟨⟨x, y⟩, z⟩) rfl (own_same.trans ((congrArg _ (acc_is _ _).symm).trans hmo.symm))⟩
  · rw [hra, if_pos (by simpa using hn)]
    simp only [decide_eq_false_iff_not]
    intro hc
    have hc : e.t2 = Acc.zero := hc
    rw [hc] at hz
    simp [Acc.zero] at hz
  · rw [hra, if_pos (by simpa using hn)]
    exact decide_eq_true (Acc.same (b := Acc.zero) z1 z2 z3)
  · exact (hst (by simpa using hn)).symm
  · have hn' : ¬ e.n ≤ ((2 : Nat) : Int) := by simpa using hn
    rw [if_neg hn'] at hra
    have hmo := hmo (by simpa using hn)
    simp only [Ev.all] at hra hmo
    first
      | refine callkg rfl Tryd.call33 rfl (fun _ => (few_p e.t2.k)) (fun hG => by first | (simp; done) | (simp at hG; done) | simpa using hG) rfl ?_
      | refine callksg rfl Tryd.call33 rfl (fun _ => (few_p e.t2.k)) (fun hG => by first | (simp; done) | (simp at hG; done) | simpa using hG) rfl ?_
      | refine callqg rfl Tryd.call33 rfl (fun _ => (few_p e.t2.k)) (fun hG => by first | (simp; done) | (simp at hG; done) | simpa using hG) rfl ?_
    simp
    refine ⟨fun h => hwr ?_, fun x y => ?_⟩
    · rw [hra, Bool.eq_false_iff]
      intro hc
      simp at hc
      omega
    · refine ⟨fun h => ⟨h, fun h2 => ⟨h, h2⟩⟩, fun h => hwr ?_, fun z1 z2 => ?_⟩
      · rw [hra, Bool.eq_false_iff]
        intro hc
        simp [Acc.lt] at hc
        omega
      · have z : e.t1.lt e.t2 := by unfold Acc.lt; omega
        exact ⟨fun h => ⟨h, fun h2 => ⟨h, h2⟩⟩, fun h => ⟨h, fun h2 h3 => ⟨h, h2, h3⟩⟩, hnx (by rw [hra]; simp; exact ⟨⟨x, y⟩, z⟩) rfl (own_same.trans ((congrArg _ (acc_is _ _).symm).trans hmo.symm))⟩
  · rw [hra, if_pos (by simpa using hn)]
    simp only [decide_eq_false_iff_not]
    intro hc
    have hc : e.t3 = Acc.zero := hc
    rw [hc] at hz
    simp [Acc.zero] at hz
  · rw [hra, if_pos (by simpa using hn)]
    exact decide_eq_true (Acc.same (b := Acc.zero) z1 z2 z3)
  · exact (hst (by simpa using hn)).symm
  · have hn' : ¬ e.n ≤ ((3 : Nat) : Int) := by simpa using hn
    rw [if_neg hn'] at hra
    have hmo := hmo (by simpa using hn)
    simp only [Ev.all] at hra hmo
    first
      | refine callkg rfl Tryd.call33 rfl (fun _ => (few_p e.t3.k)) (fun hG => by first | (simp; done) | (simp at hG; done) | simpa using hG) rfl ?_
      | refine callksg rfl Tryd.call33 rfl (fun _ => (few_p e.t3.k)) (fun hG => by first | (simp; done) | (simp at hG; done) | simpa using hG) rfl ?_
      | refine callqg rfl Tryd.call33 rfl (fun _ => (few_p e.t3.k)) (fun hG => by first | (simp; done) | (simp at hG; done) | simpa using hG) rfl ?_
    simp
    refine ⟨fun h => hwr ?_, fun x y => ?_⟩
    · rw [hra, Bool.eq_false_iff]
      intro hc
      simp at hc
      omega
    · refine ⟨fun h => ⟨h, fun h2 => ⟨h, h2⟩⟩, fun h => hwr ?_, fun z1 z2 => ?_⟩
      · rw [hra, Bool.eq_false_iff]
        intro hc
        simp [Acc.lt] at hc
        omega
      · have z : e.t2.lt e.t3 := by unfold Acc.lt; omega
        exact ⟨fun h => ⟨h, fun h2 => ⟨h, h2⟩⟩, fun h => ⟨h, fun h2 h3 => ⟨h, h2, h3⟩⟩, hnx (by rw [hra]; simp; exact ⟨⟨x, y⟩, z⟩) rfl (own_same.trans ((congrArg _ (acc_is _ _).symm).trans hmo.symm))⟩
  · rw [hra, if_pos (by simpa using hn)]
    simp only [decide_eq_false_iff_not]
    intro hc
    have hc : e.t4 = Acc.zero := hc
    rw [hc] at hz
    simp [Acc.zero] at hz
  · rw [hra, if_pos (by simpa using hn)]
    exact decide_eq_true (Acc.same (b := Acc.zero) z1 z2 z3)
  · exact (hst (by simpa using hn)).symm
  · have hn' : ¬ e.n ≤ ((4 : Nat) : Int) := by simpa using hn
    rw [if_neg hn'] at hra
    have hmo := hmo (by simpa using hn)
    simp only [Ev.all] at hra hmo
    first
      | refine callkg rfl Tryd.call33 rfl (fun _ => (few_p e.t4.k)) (fun hG => by first | (simp; done) | (simp at hG; done) | simpa using hG) rfl ?_
      | refine callksg rfl Tryd.call33 rfl (fun _ => (few_p e.t4.k)) (fun hG => by first | (simp; done) | (simp at hG; done) | simpa using hG) rfl ?_
      | refine callqg rfl Tryd.call33 rfl (fun _ => (few_p e.t4.k)) (fun hG => by first | (simp; done) | (simp at hG; done) | simpa using hG) rfl ?_
    simp
    refine ⟨fun h => hwr ?_, fun x y => ?_⟩
    · rw [hra, Bool.eq_false_iff]
      intro hc
      simp at hc
      omega
    · refine ⟨fun h => ⟨h, fun h2 => ⟨h, h2⟩⟩, fun h => hwr ?_, fun z1 z2 => ?_⟩
      · rw [hra, Bool.eq_false_iff]
        intro hc
        simp [Acc.lt] at hc
        omega
      · have z : e.t3.lt e.t4 := by unfold Acc.lt; omega
        exact ⟨fun h => ⟨h, fun h2 => ⟨h, h2⟩⟩, fun h => ⟨h, fun h2 h3 => ⟨h, h2, h3⟩⟩, hnx (by rw [hra]; simp; exact ⟨⟨x, y⟩, z⟩) rfl (own_same.trans ((congrArg _ (acc_is _ _).symm).trans hmo.symm))⟩
  · rw [hra, if_pos (by simpa using hn)]
    simp only [decide_eq_false_iff_not]
    intro hc
    have hc : e.t5 = Acc.zero := hc
    rw [hc] at hz
    simp [Acc.zero] at hz
  · rw [hra, if_pos (by simpa using hn)]
    exact decide_eq_true (Acc.same (b := Acc.zero) z1 z2 z3)
  · exact (hst (by simpa using hn)).symm
  · have hn' : ¬ e.n ≤ ((5 : Nat) : Int) := by simpa using hn
    rw [if_neg hn'] at hra
    have hmo := hmo (by simpa using hn)
    simp only [Ev.all] at hra hmo
    first
      | refine callkg rfl Tryd.call33 rfl (fun _ => (few_p e.t5.k)) (fun hG => by first | (simp; done) | (simp at hG; done) | simpa using hG) rfl ?_
      | refine callksg rfl Tryd.call33 rfl (fun _ => (few_p e.t5.k)) (fun hG => by first | (simp; done) | (simp at hG; done) | simpa using hG) rfl ?_
      | refine callqg rfl Tryd.call33 rfl (fun _ => (few_p e.t5.k)) (fun hG => by first | (simp; done) | (simp at hG; done) | simpa using hG) rfl ?_
    simp
    refine ⟨fun h => hwr ?_, fun x y => ?_⟩
    · rw [hra, Bool.eq_false_iff]
      intro hc
      simp at hc
      omega
    · refine ⟨fun h => ⟨h, fun h2 => ⟨h, h2⟩⟩, fun h => hwr ?_, fun z1 z2 => ?_⟩
      · rw [hra, Bool.eq_false_iff]
        intro hc
        simp [Acc.lt] at hc
        omega
      · have z : e.t4.lt e.t5 := by unfold Acc.lt; omega
        exact ⟨fun h => ⟨h, fun h2 => ⟨h, h2⟩⟩, fun h => ⟨h, fun h2 h3 => ⟨h, h2, h3⟩⟩, hnx (by rw [hra]; simp; exact ⟨⟨x, y⟩, z⟩) rfl (own_same.trans ((congrArg _ (acc_is _ _).symm).trans hmo.symm))⟩
theorem checkR_p (l : List Ev) (hl : l.length < 4611686018427387904) : PureS Tryd.prog 6 [.sl 26 (l.map Ev.row)] (.i .i64 (checkT l)) := by
  refine fun_go hmx Tryd.func6 r6 s6 (by rw [Tryd.ntmps6]; simp) ?_
  unfold c6
  simp
  refine ⟨fun h => ?_, fun h => ?_⟩
  · rw [checkT, if_pos (by omega)]
  refine go_while hmx 0 (fun (k : Nat) => [(3, .v (.i .i64 (k : Int)))]) (fun _ => []) (fun k => k ≤ l.length ∧ anyTo (fun e => !rightE e) l k = false) (fun k => l.length - k) 0 rfl (by simp) rfl (by simp) (by simp) (by simp) ⟨Nat.zero_le _, by simp⟩ ?_
  rintro k ⟨hk, hf⟩
  by_cases hkl : k < l.length
  · have hI : (k : Int) < (l.length : Int) := by omega
    have hw : IntKind.i64.wrap ((k : Int) + 1) = (k : Int) + 1 := wrap_in (by omega) (by omega)
    have hsn := anyTo_succ (p := fun e => !rightE e) hkl
    have hat := any_at (p := fun e => !rightE e) hkl
    simp [hI, hkl]
    generalize l[k] = x at *
    first
      | refine callk rfl Tryd.call14 (rightR_p x) rfl ?_
      | refine callks rfl Tryd.call14 (rightR_p x) rfl ?_
      | refine callq rfl Tryd.call14 (rightR_p x) rfl ?_
      | refine callqe rfl Tryd.call14 (rightR_p x) rfl ?_
    simp
    refine ⟨fun h => ?_, fun h => ?_⟩
    · have := hat (by simp [h])
      rw [checkT, if_neg (by omega), if_neg]
      intro hc
      rw [List.any_eq_true] at this
      obtain ⟨y, hy, hy2⟩ := this
      rw [List.all_eq_true.1 hc y hy] at hy2; cases hy2
    · exact ⟨k + 1, by rw [hw]; rfl, ⟨by omega, by rw [hsn, hf, h]; rfl⟩, by omega⟩
  · obtain rfl : k = l.length := by omega
    rw [anyTo_len] at hf
    simp
    rw [checkT, if_neg (by omega), if_pos]
    rw [List.all_eq_true]
    intro x hx
    rw [Bool.eq_false_iff] at hf
    apply Classical.byContradiction
    intro hc
    exact hf (List.any_eq_true.2 ⟨x, hx, by simpa using hc⟩)
theorem of_p (e : Ev) : PureS Tryd.prog 70 [.g e.row] (.sl 3 (e.touched.map Acc.row)) := by
  refine fun_go hmx Tryd.func70 r70 s70 (by rw [Tryd.ntmps70]; simp) ?_
  unfold c70
  simp [Ev.row, Ev.cells, Acc.row]
  refine go_while hmx 2 (fun (s : Nat × Nat) => [(3, .os 1 s.2), (4, .v (.i .i64 (s.1 : Int)))]) (fun s => [.var (e.row.map .v), .arr s.2 3 (vrows ((e.all.take s.1).map Acc.row))]) (fun s => s.1 ≤ 6 ∧ (0 < s.1 → (s.1 : Int) ≤ e.n)) (fun s => 7 - s.1) (0, 0) rfl (by simp) rfl (by simp) (by simp) (by simp [Ev.row, Ev.cells, Acc.row]) ⟨Nat.zero_le _, by simp⟩ ?_
  rintro ⟨k, v⟩ ⟨hk, hn⟩
  simp only at hk hn
  have hT : (k : Int) = max 0 (min 6 e.n) → e.touched.map Acc.row = (e.all.take k).map Acc.row := fun hj => by rw [Ev.touched, ← hj]; rfl
  have hg : ∀ i : Nat, (e.all.take i).map Acc.row = (e.all.map Acc.row).take i := fun i => List.map_take
  by_cases hk6 : k = 6
  · subst hk6
    have hT := hT (by have := hn (by omega); omega)
    simp [hT, Ev.row, Ev.cells, Acc.row, hg, Ev.all]
  rcases (by omega : k = 0 ∨ k = 1 ∨ k = 2 ∨ k = 3 ∨ k = 4 ∨ k = 5) with rfl | rfl | rfl | rfl | rfl | rfl
  all_goals simp [Ev.row, Ev.cells, Acc.row, hg, Ev.all]
  · refine ⟨fun h => ⟨1, v + 1, ⟨rfl, rfl⟩, ⟨rfl, by simp [vrows]⟩, ⟨by omega, fun _ => by omega⟩, by omega⟩, fun h => ?_⟩
    rw [Ev.touched, show (max 0 (min 6 e.n)).toNat = 0 by omega]
    rfl
  · refine ⟨fun h => ⟨2, v + 1, ⟨rfl, rfl⟩, ⟨rfl, by simp [vrows]⟩, ⟨by omega, fun _ => by omega⟩, by omega⟩, fun h => ?_⟩
    rw [Ev.touched, show (max 0 (min 6 e.n)).toNat = 1 by omega]
    rfl
  · refine ⟨fun h => ⟨3, v + 1, ⟨rfl, rfl⟩, ⟨rfl, by simp [vrows]⟩, ⟨by omega, fun _ => by omega⟩, by omega⟩, fun h => ?_⟩
    rw [Ev.touched, show (max 0 (min 6 e.n)).toNat = 2 by omega]
    rfl
  · refine ⟨fun h => ⟨4, v + 1, ⟨rfl, rfl⟩, ⟨rfl, by simp [vrows]⟩, ⟨by omega, fun _ => by omega⟩, by omega⟩, fun h => ?_⟩
    rw [Ev.touched, show (max 0 (min 6 e.n)).toNat = 3 by omega]
    rfl
  · refine ⟨fun h => ⟨5, v + 1, ⟨rfl, rfl⟩, ⟨rfl, by simp [vrows]⟩, ⟨by omega, fun _ => by omega⟩, by omega⟩, fun h => ?_⟩
    rw [Ev.touched, show (max 0 (min 6 e.n)).toNat = 4 by omega]
    rfl
  · refine ⟨fun h => ⟨6, v + 1, ⟨rfl, rfl⟩, ⟨rfl, by simp [vrows]⟩, ⟨by omega, fun _ => by omega⟩, by omega⟩, fun h => ?_⟩
    rw [Ev.touched, show (max 0 (min 6 e.n)).toNat = 5 by omega]
    rfl
theorem clashR_p (a b : List Acc) (ha : a.length ≤ 6) (hb : b.length ≤ 6) : PureS Tryd.prog 69 [.sl 3 (a.map Acc.row), .sl 3 (b.map Acc.row)] (.b (clash a b)) := by
  refine fun_go hmx Tryd.func69 r69 s69 (by rw [Tryd.ntmps69]; simp) ?_
  unfold c69
  simp
  refine go_while hmx 0 (fun (k : Nat) => [(5, .v (.i .i64 (k : Int)))]) (fun _ => []) (fun k => k ≤ a.length ∧ anyTo (fun x => b.any fun y => x.hits y) a k = false) (fun k => a.length - k) 0 rfl (by simp) rfl (by simp) (by simp) (by simp) ⟨Nat.zero_le _, by simp⟩ ?_
  rintro k ⟨hk, hf⟩
  by_cases hkl : k < a.length
  · have hI : (k : Int) < (a.length : Int) := by omega
    have hw : IntKind.i64.wrap ((k : Int) + 1) = (k : Int) + 1 := wrap_in (by omega) (by omega)
    have hsn := anyTo_succ (p := fun x : Acc => b.any fun y => x.hits y) hkl
    have hat := any_at (p := fun x : Acc => b.any fun y => x.hits y) hkl
    simp [hI, hkl, Acc.row]
    refine go_while hmx 0 (fun (j : Nat) => [(6, .v (.i .i64 (j : Int)))]) (fun _ => []) (fun j => j ≤ b.length ∧ anyTo (fun y => a[k].hits y) b j = false) (fun j => b.length - j) 0 rfl (by simp) rfl (by simp) (by simp) (by simp) ⟨Nat.zero_le _, by simp⟩ ?_
    rintro j ⟨hj, hfj⟩
    by_cases hjl : j < b.length
    · have hI2 : (j : Int) < (b.length : Int) := by omega
      have hw2 : IntKind.i64.wrap ((j : Int) + 1) = (j : Int) + 1 := wrap_in (by omega) (by omega)
      have hsn2 := anyTo_succ (p := fun y : Acc => a[k].hits y) hjl
      have hat2 := any_at (p := fun y : Acc => a[k].hits y) hjl
      simp [hI2, hjl, hkl, Acc.row]
      generalize b[j] = y at *
      generalize a[k] = x at *
      refine ⟨fun h1 h2 => ⟨⟨h1, h2⟩, fun h3 => ⟨⟨h1, h2⟩, h3⟩⟩, fun h1 h2 h3 => ?_, fun h => ?_⟩
      · exact hat (hat2 (by unfold Acc.hits; simp [h1, h2]; exact h3))
      · have hno : x.hits y = false := by
          unfold Acc.hits
          by_cases h1 : x.k = y.k
          · by_cases h2 : x.n = y.n
            · obtain ⟨h3, h4⟩ := h h1 h2; simp [h3, h4]
            · simp [h2]
          · simp [h1]
        exact ⟨j + 1, by rw [hw2]; rfl, ⟨by omega, by rw [hsn2, hfj, hno]; rfl⟩, by omega⟩
    · obtain rfl : j = b.length := by omega
      rw [anyTo_len] at hfj
      simp [hw]
      exact ⟨k + 1, rfl, ⟨by omega, by rw [hsn, hf, hfj]; rfl⟩, by omega⟩
  · obtain rfl : k = a.length := by omega
    rw [anyTo_len] at hf
    simp
    exact hf
theorem dependentR_p (a b : Ev) : PureS Tryd.prog 58 [.g a.row, .g b.row] (.b (dep a b)) := by
  refine fun_go hmx Tryd.func58 r58 s58 (by rw [Tryd.ntmps58]; simp) ?_
  unfold c58
  simp
  first
    | refine callk rfl Tryd.call70 (of_p a) rfl ?_
    | refine callks rfl Tryd.call70 (of_p a) rfl ?_
    | refine callq rfl Tryd.call70 (of_p a) rfl ?_
    | refine callqe rfl Tryd.call70 (of_p a) rfl ?_
  simp
  first
    | refine callk rfl Tryd.call70 (of_p b) rfl ?_
    | refine callks rfl Tryd.call70 (of_p b) rfl ?_
    | refine callq rfl Tryd.call70 (of_p b) rfl ?_
    | refine callqe rfl Tryd.call70 (of_p b) rfl ?_
  simp
  first
    | refine callk rfl Tryd.call69 (clashR_p _ _ (touched_few a) (touched_few b)) rfl ?_
    | refine callks rfl Tryd.call69 (clashR_p _ _ (touched_few a) (touched_few b)) rfl ?_
    | refine callq rfl Tryd.call69 (clashR_p _ _ (touched_few a) (touched_few b)) rfl ?_
    | refine callqe rfl Tryd.call69 (clashR_p _ _ (touched_few a) (touched_few b)) rfl ?_
  simp [dep]
end Go.Sc.Or
/- Chapter 11: clocks joined and ticked. No condition. -/
set_option linter.constructorNameAsVariable false
namespace Go.Sc.Or
open Go Go.RowKit Go.Av Go.Proofs Go.Sc
set_option linter.unusedSimpArgs false
set_option linter.unusedVariables false
def c81 : ACode :=
  (.seq (.reg none [⟨some 1, none, .m (.box (.t 0))⟩, ⟨some 2, none, .q (.mv (.c (.i .i64 0)))⟩])
  (.keep [1]
  (.seq (.seq (.reg none [⟨some 5, none, .q (.ld (some 6) (.t 1))⟩, ⟨some 6, none, .q (.mv (.c (.i .i64 0)))⟩])
    (.keep [5, 6]
    (.blk 0 (.keep [5, 6]
    (.loop (.fin [5, 6]
      (.seq (.reg none [⟨some 7, none, .q (.bin .lss (.t 6) (.c (.i .i64 6)))⟩])
      (.keep [5, 6, 7]
      (.seq (.cond (.t 7) .skip
        (.exit 0))
      (.seq (.blk 1 (.seq (.reg none [⟨some 8, none, .q (.idx 6 1 false (.t 5) (.t 6))⟩, ⟨some 4, none, .q (.mv (.t 8))⟩])
        (.keep [4, 5, 6]
        (.seq (.reg none [⟨some 9, none, .q (.mv (.t 4))⟩, ⟨some 10, none, .q (.bin .lss (.t 9) (.c (.i .i64 0)))⟩, ⟨some 11, none, .q (.mv (.t 10))⟩, ⟨some 12, some (11, false), .q (.mv (.t 4))⟩, ⟨some 13, some (11, false), .q (.bin .gtr (.t 12) (.c (.i .i64 1073741824)))⟩, ⟨some 14, none, .pk (.t 11) (.c (.b true)) (.t 13)⟩])
        (.keep [5, 6, 14]
        (.cond (.t 14) (.seq (.reg none [⟨some 2, none, .q (.mv (.c (.i .i64 1)))⟩])
          .ret)
        .skip))))))
      (.keep [5, 6]
      (.reg none [⟨some 15, none, .q (.bin .add (.t 6) (.c (.i .i64 1)))⟩, ⟨some 6, none, .q (.mv (.t 15))⟩]))))))))))))
  (.seq (.reg none [⟨some 2, none, .q (.mv (.c (.i .i64 0)))⟩])
  .ret))))
theorem r81 : (Tryd.f81.body.bind (resC Tryd.prog Tryd.f81.ntmps)) = some (strip c81) := by kernel_rfl
theorem s81 : Tryd.f81.results.toList.mapM (resRes Tryd.prog) = some [.t 2] := by kernel_rfl
def c78 : ACode :=
  (.seq (.reg none [⟨some 2, none, .q (.mv (.c (.i .i64 0)))⟩])
  (.keep [0]
  (.seq (.seq (.reg none [⟨some 6, none, .q (.mv (.t 0))⟩, ⟨some 7, none, .q (.len false (.t 6))⟩, ⟨some 8, none, .q (.mv (.c (.i .i64 0)))⟩])
    (.keep [6, 7, 8]
    (.blk 0 (.keep [6, 7, 8]
    (.loop (.fin [6, 7, 8]
      (.seq (.reg none [⟨some 9, none, .q (.bin .lss (.t 8) (.t 7))⟩])
      (.keep [6, 7, 8, 9]
      (.seq (.cond (.t 9) .skip
        (.exit 0))
      (.seq (.blk 1 (.seq (.reg none [⟨some 10, none, .q (.ias 6 (.t 6) (.t 8))⟩, ⟨some 11, none, .q (.ld (some 6) (.t 10))⟩, ⟨some 4, none, .m (.alloc (.g (reps 6 (.i .i64 0))))⟩, ⟨none, none, .m (.st 6 (.t 4) (.t 11))⟩])
        (.keep [4, 6, 7, 8]
        (.seq (.reg none [⟨some 12, none, .q (.ld (some 6) (.t 4))⟩, ⟨some 13, none, .call (.f 81) [(.t 12)]⟩, ⟨some 5, none, .q (.mv (.t 13))⟩])
        (.keep [5, 6, 7, 8]
        (.seq (.reg none [⟨some 14, none, .q (.mv (.t 5))⟩, ⟨some 15, none, .q (.bin .neq (.t 14) (.c (.i .i64 0)))⟩])
        (.keep [5, 6, 7, 8, 15]
        (.cond (.t 15) (.seq (.reg none [⟨some 16, none, .q (.mv (.t 5))⟩, ⟨some 2, none, .q (.mv (.t 16))⟩])
          .ret)
        .skip))))))))
      (.keep [6, 7, 8]
      (.reg none [⟨some 17, none, .q (.bin .add (.t 8) (.c (.i .i64 1)))⟩, ⟨some 8, none, .q (.mv (.t 17))⟩]))))))))))))
  (.seq (.reg none [⟨some 2, none, .q (.mv (.c (.i .i64 0)))⟩])
  .ret))))
theorem r78 : (Tryd.f78.body.bind (resC Tryd.prog Tryd.f78.ntmps)) = some (strip c78) := by kernel_rfl
theorem s78 : Tryd.f78.results.toList.mapM (resRes Tryd.prog) = some [.t 2] := by kernel_rfl
def c80 : ACode :=
  (.seq (.reg none [⟨some 4, none, .q (.mv (.c (.i .i64 0)))⟩])
  (.keep [0, 1]
  (.seq (.reg none [⟨some 5, none, .q (.mv (.t 0))⟩, ⟨some 6, none, .q (.mv (.t 1))⟩, ⟨some 7, none, .q (.mx true (.t 5) (.t 6))⟩, ⟨some 4, none, .q (.mv (.t 7))⟩])
  .ret)))
theorem r80 : (Tryd.f80.body.bind (resC Tryd.prog Tryd.f80.ntmps)) = some (strip c80) := by kernel_rfl
theorem s80 : Tryd.f80.results.toList.mapM (resRes Tryd.prog) = some [.t 4] := by kernel_rfl
def c79 : ACode :=
  (.seq (.reg none [⟨some 3, none, .m (.box (.t 0))⟩, ⟨some 4, none, .m (.box (.t 1))⟩, ⟨some 6, none, .m (.alloc (.g (reps 6 (.i .i64 0))))⟩])
  (.keep [2, 3, 4, 6]
  (.seq (.seq (.reg none [⟨some 8, none, .q (.mv (.c (.i .i64 0)))⟩])
    (.keep [2, 3, 4, 6, 8]
    (.blk 0 (.keep [2, 3, 4, 6, 8]
    (.loop (.fin [2, 3, 4, 6, 8]
      (.seq (.reg none [⟨some 9, none, .q (.bin .lss (.t 8) (.c (.i .i64 6)))⟩])
      (.keep [2, 3, 4, 6, 8, 9]
      (.seq (.cond (.t 9) .skip
        (.exit 0))
      (.seq (.blk 1 (.seq (.reg none [⟨some 10, none, .q (.mv (.t 8))⟩, ⟨some 7, none, .q (.mv (.t 10))⟩])
        (.keep [2, 3, 4, 6, 7, 8]
        (.reg (some (8, [])) [⟨some 11, none, .q (.mv (.t 7))⟩, ⟨some 12, none, .q (.mv (.t 2))⟩, ⟨some 13, none, .q (.mv (.t 7))⟩, ⟨some 14, none, .q (.iaa 6 1 (.t 3) (.t 13))⟩, ⟨some 15, none, .q (.ld none (.t 14))⟩, ⟨some 16, none, .q (.mv (.t 7))⟩, ⟨some 17, none, .q (.iaa 6 1 (.t 4) (.t 16))⟩, ⟨some 18, none, .q (.ld none (.t 17))⟩, ⟨some 19, none, .call (.t 12) [(.t 15), (.t 18)]⟩, ⟨some 20, none, .q (.iaa 6 1 (.t 3) (.t 11))⟩, ⟨none, none, .m (.st 1 (.t 20) (.t 19))⟩]))))
      (.keep [2, 3, 4, 6, 8]
      (.reg none [⟨some 21, none, .q (.bin .add (.t 8) (.c (.i .i64 1)))⟩, ⟨some 8, none, .q (.mv (.t 21))⟩]))))))))))))
  (.seq (.reg none [⟨some 22, none, .q (.ld (some 6) (.t 3))⟩, ⟨none, none, .m (.st 6 (.t 6) (.t 22))⟩])
  .ret))))
theorem r79 : (Tryd.f79.body.bind (resC Tryd.prog Tryd.f79.ntmps)) = some (strip c79) := by kernel_rfl
theorem s79 : Tryd.f79.results.toList.mapM (resRes Tryd.prog) = some [.c 6 (some 6)] := by kernel_rfl
def c76 : ACode :=
  (.seq (.reg none [⟨some 2, none, .m (.box (.t 0))⟩, ⟨some 3, none, .m (.box (.t 1))⟩, ⟨some 4, none, .m (.alloc (.g (reps 6 (.i .i64 0))))⟩, ⟨some 5, none, .q (.mv (.c (.i .i64 0)))⟩])
  (.keep [2, 3, 4]
  (.seq (.seq (.reg none [⟨some 7, none, .q (.ld (some 6) (.t 2))⟩, ⟨some 8, none, .q (.ld (some 6) (.t 3))⟩, ⟨some 9, none, .m (.bsl 2 6 (reps 6 (.i .i64 0)) [(0, 6, .t 7), (6, 6, .t 8)])⟩, ⟨some 10, none, .call (.f 78) [(.t 9)]⟩, ⟨some 6, none, .q (.mv (.t 10))⟩])
    (.keep [2, 3, 4, 6]
    (.seq (.reg none [⟨some 11, none, .q (.mv (.t 6))⟩, ⟨some 12, none, .q (.bin .neq (.t 11) (.c (.i .i64 0)))⟩])
    (.keep [2, 3, 4, 6, 12]
    (.cond (.t 12) (.seq (.reg none [⟨some 13, none, .q (.bld (reps 6 (.i .i64 0)) [])⟩, ⟨some 14, none, .q (.mv (.t 6))⟩, ⟨none, none, .m (.st 6 (.t 4) (.t 13))⟩, ⟨some 5, none, .q (.mv (.t 14))⟩])
      .ret)
    .skip)))))
  (.seq (.reg none [⟨some 15, none, .q (.ld (some 6) (.t 2))⟩, ⟨some 16, none, .q (.ld (some 6) (.t 3))⟩, ⟨some 17, none, .call (.f 79) [(.t 15), (.t 16), (.f 80)]⟩, ⟨none, none, .m (.st 6 (.t 4) (.t 17))⟩, ⟨some 5, none, .q (.mv (.c (.i .i64 0)))⟩])
  .ret))))
theorem r76 : (Tryd.f76.body.bind (resC Tryd.prog Tryd.f76.ntmps)) = some (strip c76) := by kernel_rfl
theorem s76 : Tryd.f76.results.toList.mapM (resRes Tryd.prog) = some [.c 4 (some 6), .t 5] := by kernel_rfl
def c77 : ACode :=
  (.seq (.reg none [⟨some 2, none, .m (.box (.t 0))⟩, ⟨some 4, none, .m (.alloc (.g (reps 6 (.i .i64 0))))⟩, ⟨some 5, none, .q (.mv (.c (.i .i64 0)))⟩])
  (.keep [1, 2, 4]
  (.seq (.seq (.reg none [⟨some 7, none, .q (.ld (some 6) (.t 2))⟩, ⟨some 8, none, .call (.f 81) [(.t 7)]⟩, ⟨some 6, none, .q (.mv (.t 8))⟩])
    (.keep [1, 2, 4, 6]
    (.seq (.reg none [⟨some 9, none, .q (.mv (.t 6))⟩, ⟨some 10, none, .q (.bin .neq (.t 9) (.c (.i .i64 0)))⟩])
    (.keep [1, 2, 4, 6, 10]
    (.cond (.t 10) (.seq (.reg none [⟨some 11, none, .q (.bld (reps 6 (.i .i64 0)) [])⟩, ⟨some 12, none, .q (.mv (.t 6))⟩, ⟨none, none, .m (.st 6 (.t 4) (.t 11))⟩, ⟨some 5, none, .q (.mv (.t 12))⟩])
      .ret)
    .skip)))))
  (.seq (.seq (.reg none [⟨some 13, none, .q (.mv (.t 1))⟩, ⟨some 14, none, .q (.bin .lss (.t 13) (.c (.i .i64 0)))⟩, ⟨some 15, none, .q (.mv (.t 14))⟩, ⟨some 16, some (15, false), .q (.mv (.t 1))⟩, ⟨some 17, some (15, false), .q (.bin .geq (.t 16) (.c (.i .i64 6)))⟩, ⟨some 18, none, .pk (.t 15) (.c (.b true)) (.t 17)⟩])
    (.keep [1, 2, 4, 18]
    (.cond (.t 18) (.seq (.reg none [⟨some 19, none, .q (.bld (reps 6 (.i .i64 0)) [])⟩, ⟨none, none, .m (.st 6 (.t 4) (.t 19))⟩, ⟨some 5, none, .q (.mv (.c (.i .i64 1)))⟩])
      .ret)
    .skip)))
  (.seq (.seq (.reg none [⟨some 20, none, .q (.mv (.t 1))⟩, ⟨some 21, none, .q (.iaa 6 1 (.t 2) (.t 20))⟩, ⟨some 22, none, .q (.ld none (.t 21))⟩, ⟨some 23, none, .q (.bin .eql (.t 22) (.c (.i .i64 1073741824)))⟩])
    (.keep [1, 2, 4, 23]
    (.cond (.t 23) (.seq (.reg none [⟨some 24, none, .q (.bld (reps 6 (.i .i64 0)) [])⟩, ⟨none, none, .m (.st 6 (.t 4) (.t 24))⟩, ⟨some 5, none, .q (.mv (.c (.i .i64 2)))⟩])
      .ret)
    .skip)))
  (.seq (.reg none [⟨some 25, none, .q (.mv (.t 1))⟩, ⟨some 26, none, .q (.iaa 6 1 (.t 2) (.t 25))⟩, ⟨some 27, none, .q (.ld none (.t 26))⟩, ⟨some 28, none, .q (.bin .add (.t 27) (.c (.i .i64 1)))⟩, ⟨some 29, none, .q (.iaa 6 1 (.t 2) (.t 25))⟩, ⟨none, none, .m (.st 1 (.t 29) (.t 28))⟩])
  (.keep [2, 4]
  (.seq (.reg none [⟨some 30, none, .q (.ld (some 6) (.t 2))⟩, ⟨none, none, .m (.st 6 (.t 4) (.t 30))⟩, ⟨some 5, none, .q (.mv (.c (.i .i64 0)))⟩])
  .ret))))))))
theorem r77 : (Tryd.f77.body.bind (resC Tryd.prog Tryd.f77.ntmps)) = some (strip c77) := by kernel_rfl
theorem s77 : Tryd.f77.results.toList.mapM (resRes Tryd.prog) = some [.c 4 (some 6), .t 5] := by kernel_rfl
theorem ccheck_p (c : Clk) (hc : c.length = 6) : PureS Tryd.prog 81 [.g (crow c)] (.i .i64 (if okC c then 0 else 1)) := by
  refine fun_go hmx Tryd.func81 r81 s81 (by rw [Tryd.ntmps81]; simp) ?_
  unfold c81
  simp [crow, take_avs, hc]
  refine go_while hmx 1 (fun (k : Nat) => [(6, .v (.i .i64 (k : Int)))]) (fun _ => [.var (avs (AV.i .i64) c)]) (fun k => k ≤ c.length ∧ anyTo badN c k = false) (fun k => c.length - k) 0 rfl (by simp) rfl (by simp) (by simp) (by simp) ⟨Nat.zero_le _, by simp⟩ ?_
  rintro k ⟨hk, hf⟩
  by_cases hkl : k < c.length
  · have hI : (k : Int) < 6 := by omega
    have hw : IntKind.i64.wrap ((k : Int) + 1) = (k : Int) + 1 := wrap_in (by omega) (by omega)
    have hsn := anyTo_succ (p := badN) hkl
    have hat := any_at (p := badN) hkl
    simp [hI, hkl, hc, get_ags hkl, show k < 6 by omega]
    refine ⟨fun h => ?_, fun h1 h2 => ?_⟩
    · have := hat (by unfold badN; simpa using h)
      rw [okC, this]; simp
    · exact ⟨k + 1, by rw [hw]; rfl, ⟨by omega, by rw [hsn, hf]; unfold badN; simp [h1, h2]⟩, by omega⟩
  · obtain rfl : k = c.length := by omega
    rw [anyTo_len] at hf
    simp [hc]
    rw [okC, hf]; rfl
theorem call_all (l : List Clk) (hl : l.length < 1000000) (h6 : ∀ c ∈ l, c.length = 6) : PureS Tryd.prog 78 [.sl 6 (l.map crow)] (.i .i64 (if l.all okC then 0 else 1)) := by
  refine fun_go hmx Tryd.func78 r78 s78 (by rw [Tryd.ntmps78]; simp) ?_
  unfold c78
  simp
  refine go_while hmx 0 (fun (k : Nat) => [(8, .v (.i .i64 (k : Int)))]) (fun _ => []) (fun k => k ≤ l.length ∧ anyTo (fun c => !okC c) l k = false) (fun k => l.length - k) 0 rfl (by simp) rfl (by simp) (by simp) (by simp) ⟨Nat.zero_le _, by simp⟩ ?_
  rintro k ⟨hk, hf⟩
  by_cases hkl : k < l.length
  · have hI : (k : Int) < (l.length : Int) := by omega
    have hw : IntKind.i64.wrap ((k : Int) + 1) = (k : Int) + 1 := wrap_in (by omega) (by omega)
    have hsn := anyTo_succ (p := fun c => !okC c) hkl
    have hat := any_at (p := fun c => !okC c) hkl
    have h6 := h6 _ (List.getElem_mem hkl)
    simp [hI, hkl, h6]
    generalize l[k] = c at *
    simp [crow, h6, take_avs]
    first
      | refine callk rfl Tryd.call81 (ccheck_p c h6) rfl ?_
      | refine callks rfl Tryd.call81 (ccheck_p c h6) rfl ?_
      | refine callq rfl Tryd.call81 (ccheck_p c h6) rfl ?_
      | refine callqe rfl Tryd.call81 (ccheck_p c h6) rfl ?_
    cases ho : okC c with
    | true =>
      simp
      exact ⟨k + 1, by rw [hw]; rfl, ⟨by omega, by rw [hsn, hf, ho]; rfl⟩, by omega⟩
    | false =>
      have := hat (by rw [ho]; rfl)
      simp
      obtain ⟨y, hy, hy2⟩ := List.any_eq_true.1 this
      exact ⟨y, hy, by simpa using hy2⟩
  · obtain rfl : k = l.length := by omega
    rw [anyTo_len] at hf
    simp
    intro x hx
    rw [Bool.eq_false_iff] at hf
    apply Classical.byContradiction
    intro hc
    exact hf (List.any_eq_true.2 ⟨x, hx, by simpa using hc⟩)
theorem greater_p (x y : Int) : PureS Tryd.prog 80 [.i .i64 x, .i .i64 y] (.i .i64 (max x y)) := by
  refine fun_go hmx Tryd.func80 r80 s80 (by rw [Tryd.ntmps80]; simp) ?_
  unfold c80
  simp
  rw [Int.max_def]
  split <;> split <;> omega
theorem each_p (a b : Clk) (ha : a.length = 6) (hb : b.length = 6) : PureS Tryd.prog 79 [.g (crow a), .g (crow b), .fn 80 []] (.g (crow (joinC a b))) := by
  refine fun_go hmx Tryd.func79 r79 s79 (by rw [Tryd.ntmps79]; simp) ?_
  unfold c79
  simp [crow]
  refine go_while hmx 3 (fun (k : Nat) => [(8, .v (.i .i64 (k : Int)))]) (fun k => [.var (avs (AV.i .i64) (joinN a b k)), .var (avs (AV.i .i64) b), .var (avs (AV.i .i64) (reps 6 0))]) (fun k => k ≤ 6) (fun k => 6 - k) 0 rfl (by simp [joinN]) rfl (by simp) (by simp) (by simp) (Nat.zero_le _) ?_
  intro k hk
  have hl : (joinN a b k).length = 6 := by simp [ha]
  by_cases hkl : k < 6
  · have hI : (k : Int) < 6 := by omega
    have hw : IntKind.i64.wrap ((k : Int) + 1) = (k : Int) + 1 := wrap_in (by omega) (by omega)
    have hjn : joinN a b (k + 1) = (joinN a b k).set k (max ((joinN a b k).getD k 0) (b.getD k 0)) := rfl
    have g1 : (joinN a b k).getD k 0 = (joinN a b k)[k]'(by omega) := by rw [List.getD_eq_getElem?_getD, List.getElem?_eq_getElem (by omega)]; rfl
    have g2 : b.getD k 0 = b[k]'(by omega) := by rw [List.getD_eq_getElem?_getD, List.getElem?_eq_getElem (by omega)]; rfl
    rw [g1, g2] at hjn
    simp [hI, hkl, hl, ha, hb]
    first
      | refine callk rfl Tryd.call80 (greater_p _ _) rfl ?_
      | refine callks rfl Tryd.call80 (greater_p _ _) rfl ?_
      | refine callq rfl Tryd.call80 (greater_p _ _) rfl ?_
      | refine callqe rfl Tryd.call80 (greater_p _ _) rfl ?_
    simp [hkl, hl, ha]
    exact ⟨by omega, by omega, k + 1, by rw [hw]; rfl, by rw [hjn], by omega, by omega⟩
  · obtain rfl : k = 6 := by omega
    simp [take_avs, hl, joinN_all ha]
theorem join_p (a b : Clk) (ha : a.length = 6) (hb : b.length = 6) (h1 : okC a = true) (h2 : okC b = true) : PureS Tryd.prog 76 [.g (crow a), .g (crow b)] (.tup [.g (crow (joinC a b)), .i .i64 0]) := by
  refine fun_go hmx Tryd.func76 r76 s76 (by rw [Tryd.ntmps76]; simp) ?_
  unfold c76
  simp [crow, take_avs, ha, hb, put_fst, put_snd]
  refine callz rfl Tryd.call78 (call_all [a, b] (by simp) (by simp [ha, hb])) (.i _ _) ⟨frz_rows (l := [crow a, crow b]) (by simp [vrows, crow, take_avs, ha, hb]), trivial⟩ ?_
  simp [h1, h2, take_avs, ha, hb]
  first
    | refine callk rfl Tryd.call79 (each_p a b ha hb) rfl ?_
    | refine callks rfl Tryd.call79 (each_p a b ha hb) rfl ?_
    | refine callq rfl Tryd.call79 (each_p a b ha hb) rfl ?_
    | refine callqe rfl Tryd.call79 (each_p a b ha hb) rfl ?_
  simp [crow, take_avs]
theorem tick_p (a : Clk) (g : Nat) (hg : g < 6) (ha : a.length = 6) (h1 : okC a = true) (h2 : a.getD g 0 < 1073741824) : PureS Tryd.prog 77 [.g (crow a), .i .i64 (g : Int)] (.tup [.g (crow (tickC a g)), .i .i64 0]) := by
  refine fun_go hmx Tryd.func77 r77 s77 (by rw [Tryd.ntmps77]; simp) ?_
  unfold c77
  simp [crow, take_avs, ha]
  first
    | refine callk rfl Tryd.call81 (ccheck_p a ha) rfl ?_
    | refine callks rfl Tryd.call81 (ccheck_p a ha) rfl ?_
    | refine callq rfl Tryd.call81 (ccheck_p a ha) rfl ?_
    | refine callqe rfl Tryd.call81 (ccheck_p a ha) rfl ?_
  have hgi : (g : Int) < 6 := by omega
  have g1 : a.getD g 0 = a[g]'(by omega) := by rw [List.getD_eq_getElem?_getD, List.getElem?_eq_getElem (by omega)]; rfl
  have h0 : ¬ (g : Int) < 0 := by omega
  have h6 : ¬ 6 ≤ (g : Int) := by omega
  have hn0 : ¬ a[g] < 0 := fun h => by
    rw [okC, any_at (p := badN) (k := g) (by omega) (by unfold badN; simp [h])] at h1; cases h1
  rw [g1] at h2
  have hw : IntKind.i64.wrap (a[g] + 1) = a[g] + 1 := wrap_in (by omega) (by omega)
  have ht : tickC a g = a.set g (a[g] + 1) := by rw [tickC, g1]
  simp [h1, hgi, hg, ha, h0, h6, take_avs, hw, ht]
  exact ⟨by omega, by omega⟩
end Go.Sc.Or
/- Chapter 12: the clocks of a trace; tables. No condition. -/
set_option linter.constructorNameAsVariable false
namespace Go.Sc.Or
open Go Go.RowKit Go.Av Go.Proofs Go.Sc
set_option linter.unusedSimpArgs false
set_option linter.unusedVariables false
def c68 : ACode :=
  (.seq (.reg none [⟨some 2, none, .q (.mv (.c .nil))⟩])
  (.keep [0]
  (.seq (.reg none [⟨some 6, none, .q (.mv (.t 0))⟩, ⟨some 7, none, .q (.len false (.t 6))⟩, ⟨some 8, none, .m (.mks 6 48 (reps 6 (.i .i64 0)) (.t 7) (.t 7))⟩, ⟨some 3, none, .q (.mv (.t 8))⟩])
  (.keep [0, 3]
  (.seq (.seq (.reg none [⟨some 9, none, .q (.mv (.t 0))⟩, ⟨some 10, none, .q (.len false (.t 9))⟩, ⟨some 11, none, .q (.mv (.c (.i .i64 0)))⟩])
    (.keep [0, 3, 10, 11]
    (.blk 0 (.keep [0, 3, 10, 11]
    (.loop (.fin [0, 3, 10, 11]
      (.seq (.reg none [⟨some 12, none, .q (.bin .lss (.t 11) (.t 10))⟩])
      (.keep [0, 3, 10, 11, 12]
      (.seq (.cond (.t 12) .skip
        (.exit 0))
      (.seq (.blk 1 (.seq (.reg none [⟨some 13, none, .q (.mv (.t 11))⟩, ⟨some 4, none, .q (.mv (.t 13))⟩])
        (.keep [0, 3, 4, 10, 11]
        (.seq (.seq (.reg none [⟨some 14, none, .q (.mv (.t 4))⟩, ⟨some 15, none, .q (.mv (.c (.i .i64 0)))⟩])
          (.keep [0, 3, 4, 10, 11, 14, 15]
          (.blk 2 (.keep [0, 3, 4, 10, 11, 14, 15]
          (.loop (.fin [0, 3, 4, 10, 11, 14, 15]
            (.seq (.reg none [⟨some 16, none, .q (.bin .lss (.t 15) (.t 14))⟩])
            (.keep [0, 3, 4, 10, 11, 14, 15, 16]
            (.seq (.cond (.t 16) .skip
              (.exit 2))
            (.seq (.blk 3 (.seq (.reg none [⟨some 17, none, .q (.mv (.t 15))⟩, ⟨some 5, none, .q (.mv (.t 17))⟩])
              (.keep [0, 3, 4, 5, 10, 11, 14, 15]
              (.seq (.reg (some (8, [])) [⟨some 18, none, .q (.mv (.t 0))⟩, ⟨some 19, none, .q (.mv (.t 5))⟩, ⟨some 20, none, .q (.ias 26 (.t 18) (.t 19))⟩, ⟨some 21, none, .q (.ld (some 26) (.t 20))⟩, ⟨some 22, none, .q (.mv (.t 0))⟩, ⟨some 23, none, .q (.mv (.t 4))⟩, ⟨some 24, none, .q (.ias 26 (.t 22) (.t 23))⟩, ⟨some 25, none, .q (.ld (some 26) (.t 24))⟩, ⟨some 26, none, .call (.f 11) [(.t 21), (.t 25)]⟩])
              (.keep [0, 3, 4, 5, 10, 11, 14, 15, 26]
              (.cond (.t 26) (.reg (some (15, [])) [⟨some 28, none, .q (.mv (.t 3))⟩, ⟨some 29, none, .q (.mv (.t 4))⟩, ⟨some 30, none, .q (.mv (.t 3))⟩, ⟨some 31, none, .q (.mv (.t 4))⟩, ⟨some 32, none, .q (.ias 6 (.t 30) (.t 31))⟩, ⟨some 33, none, .q (.ld (some 6) (.t 32))⟩, ⟨some 34, none, .q (.mv (.t 3))⟩, ⟨some 35, none, .q (.mv (.t 5))⟩, ⟨some 36, none, .q (.ias 6 (.t 34) (.t 35))⟩, ⟨some 37, none, .q (.ld (some 6) (.t 36))⟩, ⟨some 38, none, .call (.f 76) [(.t 33), (.t 37)]⟩, ⟨some 27, none, .q (.mv (.t 38))⟩, ⟨some 39, none, .q (.ext 0 (.t 27))⟩, ⟨some 40, none, .q (.ext 1 (.t 27))⟩, ⟨some 41, none, .q (.ias 6 (.t 28) (.t 29))⟩, ⟨none, none, .m (.st 6 (.t 41) (.t 39))⟩])
              .skip))))))
            (.keep [0, 3, 4, 10, 11, 14, 15]
            (.reg none [⟨some 42, none, .q (.bin .add (.t 15) (.c (.i .i64 1)))⟩, ⟨some 15, none, .q (.mv (.t 42))⟩]))))))))))))
        (.reg (some (16, [])) [⟨some 44, none, .q (.mv (.t 3))⟩, ⟨some 45, none, .q (.mv (.t 4))⟩, ⟨some 46, none, .q (.mv (.t 3))⟩, ⟨some 47, none, .q (.mv (.t 4))⟩, ⟨some 48, none, .q (.ias 6 (.t 46) (.t 47))⟩, ⟨some 49, none, .q (.ld (some 6) (.t 48))⟩, ⟨some 50, none, .q (.mv (.t 0))⟩, ⟨some 51, none, .q (.mv (.t 4))⟩, ⟨some 52, none, .q (.ias 26 (.t 50) (.t 51))⟩, ⟨some 53, none, .q (.fa 0 (.t 52))⟩, ⟨some 54, none, .q (.ld none (.t 53))⟩, ⟨some 55, none, .call (.f 77) [(.t 49), (.t 54)]⟩, ⟨some 43, none, .q (.mv (.t 55))⟩, ⟨some 56, none, .q (.ext 0 (.t 43))⟩, ⟨some 57, none, .q (.ext 1 (.t 43))⟩, ⟨some 58, none, .q (.ias 6 (.t 44) (.t 45))⟩, ⟨none, none, .m (.st 6 (.t 58) (.t 56))⟩])))))
      (.keep [0, 3, 10, 11]
      (.reg none [⟨some 59, none, .q (.bin .add (.t 11) (.c (.i .i64 1)))⟩, ⟨some 11, none, .q (.mv (.t 59))⟩]))))))))))))
  (.seq (.gst (.letT 3 6)
    (.reg none [⟨some 60, none, .q (.mv (.t 3))⟩, ⟨some 2, none, .q (.mv (.t 60))⟩]))
  .ret))))))
theorem r68 : (Tryd.f68.body.bind (resC Tryd.prog Tryd.f68.ntmps)) = some (strip c68) := by kernel_rfl
theorem s68 : Tryd.f68.results.toList.mapM (resRes Tryd.prog) = some [.t 2] := by kernel_rfl
theorem clocks_p (t : List Ev) (h : Good t) : PureS Tryd.prog 68 [.sl 26 (t.map Ev.row)] (.sl 6 ((clk t t.length).map crow)) := by
  have hl := h.len
  refine fun_go hmx Tryd.func68 r68 s68 (by rw [Tryd.ntmps68]; simp) ?_
  unfold c68
  simp
  refine ⟨by omega, ?_⟩
  refine go_while hmx 1 (fun (i : Nat) => [(11, .v (.i .i64 (i : Int)))]) (fun i => [.arr 0 6 (vrows ((stC t i).map crow))]) (fun i => i ≤ t.length) (fun i => t.length - i) 0 rfl (by simp) ?_ (by simp) (by simp) (by simp) (Nat.zero_le _) ?_
  · simp [stC, clk, vrows, crow, zeroC]
  intro i hi
  by_cases hil : i < t.length
  · have hI : (i : Int) < (t.length : Int) := by omega
    have hw : IntKind.i64.wrap ((i : Int) + 1) = (i : Int) + 1 := wrap_in (by omega) (by omega)
    simp [hI]
    refine go_while hmx 1 (fun (j : Nat) => [(15, .v (.i .i64 (j : Int)))]) (fun j => [.arr 0 6 (vrows ((stJ t i j).map crow))]) (fun j => j ≤ i) (fun j => i - j) 0 rfl (by simp) (by rw [stJ_zero hil]) (by simp) (by simp) (by simp) (Nat.zero_le _) ?_
    intro j hj
    have hgi : t.getD i default = t[i] := by rw [List.getD_eq_getElem?_getD, List.getElem?_eq_getElem hil]; rfl
    have hSl := stJ_length (t := t) (i := i) (j := j) (by omega)
    have hSi := stJ_at (t := t) (i := i) (j := j) hil
    by_cases hjl : j < i
    · have hJ : (j : Int) < (i : Int) := by omega
      have hjt : j < t.length := by omega
      have hw2 : IntKind.i64.wrap ((j : Int) + 1) = (j : Int) + 1 := wrap_in (by omega) (by omega)
      have hgj : t.getD j default = t[j] := by rw [List.getD_eq_getElem?_getD, List.getElem?_eq_getElem hjt]; rfl
      have hSj := stJ_low (t := t) (j := j) hjl (by omega)
      have hsn : stJ t i (j + 1) = if dep t[j] t[i] then (stJ t i j).set i (joinC (joinTo t (clk t i) (t.getD i default) j) (clkAt t j)) else stJ t i j := by
        rw [stJ, joinTo, ← hgj, ← hgi, clk_get t hjl]
        split
        · rw [stJ_set]
        · rfl
      have ho1 := joinTo_ok h hil (j := j) hj
      have ho2 := clkAt_ok h hjt
      simp [hJ, hil, hjt]
      first
        | refine callk rfl Tryd.call11 (dependent_p _ _) rfl ?_
        | refine callks rfl Tryd.call11 (dependent_p _ _) rfl ?_
        | refine callq rfl Tryd.call11 (dependent_p _ _) rfl ?_
        | refine callqe rfl Tryd.call11 (dependent_p _ _) rfl ?_
      have hc1 : (joinTo t (clk t i) (t.getD i default) j).length = 6 := by simp
      generalize joinTo t (clk t i) (t.getD i default) j = c1 at *
      generalize hc2 : clkAt t j = c2 at *
      have hc2l : c2.length = 6 := by rw [← hc2]; simp
      generalize stJ t i j = S at *
      have hSi' : S[i]'(by omega) = c1 := by rw [List.getElem?_eq_getElem (by omega)] at hSi; exact Option.some.inj hSi
      have hSj' : S[j]'(by omega) = c2 := by rw [List.getElem?_eq_getElem (by omega)] at hSj; exact Option.some.inj hSj
      simp [hil, hjt, hSl, hSi, hSj, vrows_at, hSi', hSj', hc1, hc2l, take_avs]
      refine ⟨fun hd => ?_, fun hd => ?_⟩
      · rw [hd, if_pos rfl] at hsn
        first
          | refine callk rfl Tryd.call76 (join_p c1 c2 hc1 hc2l ho1 ho2) rfl ?_
          | refine callks rfl Tryd.call76 (join_p c1 c2 hc1 hc2l ho1 ho2) rfl ?_
          | refine callq rfl Tryd.call76 (join_p c1 c2 hc1 hc2l ho1 ho2) rfl ?_
          | refine callqe rfl Tryd.call76 (join_p c1 c2 hc1 hc2l ho1 ho2) rfl ?_
        simp [hil, hSl, hSi, hSi', vrows_at, hc1]
        exact ⟨j + 1, by rw [hw2]; rfl, by rw [hsn]; simp [vrows, List.map_set], by omega, by omega⟩
      · rw [hd] at hsn
        exact ⟨j + 1, by rw [hw2]; rfl, by rw [hsn]; rfl, by omega, by omega⟩
    · obtain rfl : j = i := by omega
      have hbo := base_small h hil (h.go hil).2
      have hgo := (h.go hil)
      obtain ⟨g, hg⟩ : ∃ g : Nat, (t.getD j default).go = (g : Int) := ⟨(t.getD j default).go.toNat, by omega⟩
      have hc := clkAt_eq t j
      rw [hg] at hgo hbo hc
      simp only [Int.toNat_natCast] at hgo hbo hc
      have hok : okC (base t j) = true := joinTo_ok h hil (Nat.le_refl _)
      have hsn := stC_succ hil
      have hst : stJ t j j = stJ t j j := rfl
      conv at hst => rhs; rw [stJ]
      have hss : (stJ t j j).set j (clkAt t j) = stC t (j + 1) := by rw [stJ_set, hsn]
      generalize stJ t j j = S at *
      have hSi' : S[j]'(by omega) = base t j := by rw [List.getElem?_eq_getElem (by omega)] at hSi; exact Option.some.inj hSi
      rw [hgi] at hg
      simp [hil, hSl, hSi, vrows_at, hSi', take_avs, hg]
      first
        | refine callk rfl Tryd.call77 (tick_p (base t j) g hgo.2 (by simp) hok hbo) rfl ?_
        | refine callks rfl Tryd.call77 (tick_p (base t j) g hgo.2 (by simp) hok hbo) rfl ?_
        | refine callq rfl Tryd.call77 (tick_p (base t j) g hgo.2 (by simp) hok hbo) rfl ?_
        | refine callqe rfl Tryd.call77 (tick_p (base t j) g hgo.2 (by simp) hok hbo) rfl ?_
      simp [hil, hSl, hSi, hSi', vrows_at]
      exact ⟨j + 1, by rw [hw]; rfl, by rw [← hss, hc]; simp [vrows, List.map_set], by omega, by omega⟩
  · obtain rfl : i = t.length := by omega
    simp [stC_all]
end Go.Sc.Or
/- Chapter 12: tables: what is asked, does an event happen before another. No condition. -/
set_option linter.constructorNameAsVariable false
namespace Go.Sc.Or
open Go Go.RowKit Go.Av Go.Proofs Go.Sc
set_option linter.unusedSimpArgs false
set_option linter.unusedVariables false
def c57 : ACode :=
  (.seq (.reg none [⟨some 4, none, .m (.alloc (.g [.nil, .nil]))⟩, ⟨some 5, none, .q (.mv (.c (.i .i64 0)))⟩])
  (.keep [0, 1, 4]
  (.seq (.seq (.reg none [⟨some 9, none, .q (.mv (.t 0))⟩, ⟨some 10, none, .call (.f 15) [(.t 9)]⟩, ⟨some 6, none, .q (.mv (.t 10))⟩])
    (.keep [0, 1, 4, 6]
    (.seq (.reg none [⟨some 11, none, .q (.mv (.t 6))⟩, ⟨some 12, none, .q (.bin .neq (.t 11) (.c (.i .i64 0)))⟩])
    (.keep [0, 1, 4, 6, 12]
    (.cond (.t 12) (.seq (.reg none [⟨some 13, none, .q (.bld [.nil, .nil] [])⟩, ⟨some 14, none, .q (.mv (.t 6))⟩, ⟨none, none, .m (.st 2 (.t 4) (.t 13))⟩, ⟨some 5, none, .q (.mv (.t 14))⟩])
      .ret)
    .skip)))))
  (.seq (.seq (.reg none [⟨some 15, none, .q (.mv (.t 1))⟩, ⟨some 16, none, .q (.len false (.t 15))⟩, ⟨some 17, none, .q (.mv (.c (.i .i64 0)))⟩])
    (.keep [0, 4, 15, 16, 17]
    (.blk 0 (.keep [0, 4, 15, 16, 17]
    (.loop (.fin [0, 4, 15, 16, 17]
      (.seq (.reg none [⟨some 18, none, .q (.bin .lss (.t 17) (.t 16))⟩])
      (.keep [0, 4, 15, 16, 17, 18]
      (.seq (.cond (.t 18) .skip
        (.exit 0))
      (.seq (.blk 1 (.seq (.reg none [⟨some 19, none, .q (.ias 1 (.t 15) (.t 17))⟩, ⟨some 20, none, .q (.ld none (.t 19))⟩, ⟨some 8, none, .q (.mv (.t 20))⟩])
        (.keep [0, 4, 8, 15, 16, 17]
        (.seq (.reg none [⟨some 21, none, .q (.mv (.t 8))⟩, ⟨some 22, none, .q (.bin .lss (.t 21) (.c (.i .i64 0)))⟩, ⟨some 23, none, .q (.mv (.t 22))⟩, ⟨some 24, some (23, false), .q (.mv (.t 8))⟩, ⟨some 25, some (23, false), .q (.mv (.t 0))⟩, ⟨some 26, some (23, false), .q (.len false (.t 25))⟩, ⟨some 27, some (23, false), .q (.bin .geq (.t 24) (.t 26))⟩, ⟨some 28, none, .pk (.t 23) (.c (.b true)) (.t 27)⟩])
        (.keep [0, 4, 15, 16, 17, 28]
        (.cond (.t 28) (.seq (.reg none [⟨some 29, none, .q (.bld [.nil, .nil] [])⟩, ⟨none, none, .m (.st 2 (.t 4) (.t 29))⟩, ⟨some 5, none, .q (.mv (.c (.i .i64 1)))⟩])
          .ret)
        .skip))))))
      (.keep [0, 4, 15, 16, 17]
      (.reg none [⟨some 30, none, .q (.bin .add (.t 17) (.c (.i .i64 1)))⟩, ⟨some 17, none, .q (.mv (.t 30))⟩]))))))))))))
  (.seq (.reg none [⟨some 31, none, .q (.mv (.t 0))⟩, ⟨some 32, none, .q (.mv (.t 0))⟩, ⟨some 33, none, .call (.f 68) [(.t 32)]⟩, ⟨some 34, none, .q (.bld [.nil, .nil] [(0, 1, .t 31), (1, 1, .t 33)])⟩, ⟨none, none, .m (.st 2 (.t 4) (.t 34))⟩, ⟨some 5, none, .q (.mv (.c (.i .i64 0)))⟩])
  .ret)))))
theorem r57 : (Tryd.f57.body.bind (resC Tryd.prog Tryd.f57.ntmps)) = some (strip c57) := by kernel_rfl
theorem s57 : Tryd.f57.results.toList.mapM (resRes Tryd.prog) = some [.c 4 (some 2), .t 5] := by kernel_rfl
def c75 : ACode :=
  (.seq (.reg none [⟨some 3, none, .m (.box (.t 0))⟩, ⟨some 6, none, .q (.mv (.c (.b false)))⟩])
  (.keep [1, 2, 3]
  (.seq (.reg none [⟨some 8, none, .q (.fa 0 (.t 3))⟩, ⟨some 9, none, .q (.ld none (.t 8))⟩, ⟨some 10, none, .q (.mv (.t 1))⟩, ⟨some 11, none, .q (.ias 26 (.t 9) (.t 10))⟩, ⟨some 12, none, .q (.fa 0 (.t 11))⟩, ⟨some 13, none, .q (.ld none (.t 12))⟩, ⟨some 7, none, .q (.mv (.t 13))⟩])
  (.keep [1, 2, 3, 7]
  (.seq (.reg (some (21, [])) [⟨some 14, none, .q (.mv (.t 1))⟩, ⟨some 15, none, .q (.mv (.t 2))⟩, ⟨some 16, none, .q (.bin .lss (.t 14) (.t 15))⟩, ⟨some 17, none, .q (.mv (.t 16))⟩, ⟨some 18, some (17, true), .q (.fa 1 (.t 3))⟩, ⟨some 19, some (17, true), .q (.ld none (.t 18))⟩, ⟨some 20, some (17, true), .q (.mv (.t 1))⟩, ⟨some 21, some (17, true), .q (.mv (.t 7))⟩, ⟨some 22, some (17, true), .q (.ias 6 (.t 19) (.t 20))⟩, ⟨some 23, some (17, true), .q (.iaa 6 1 (.t 22) (.t 21))⟩, ⟨some 24, some (17, true), .q (.ld none (.t 23))⟩, ⟨some 25, some (17, true), .q (.fa 1 (.t 3))⟩, ⟨some 26, some (17, true), .q (.ld none (.t 25))⟩, ⟨some 27, some (17, true), .q (.mv (.t 2))⟩, ⟨some 28, some (17, true), .q (.mv (.t 7))⟩, ⟨some 29, some (17, true), .q (.ias 6 (.t 26) (.t 27))⟩, ⟨some 30, some (17, true), .q (.iaa 6 1 (.t 29) (.t 28))⟩, ⟨some 31, some (17, true), .q (.ld none (.t 30))⟩, ⟨some 32, some (17, true), .q (.bin .leq (.t 24) (.t 31))⟩, ⟨some 33, none, .pk (.t 17) (.t 32) (.c (.b false))⟩, ⟨some 6, none, .q (.mv (.t 33))⟩])
  .ret)))))
theorem r75 : (Tryd.f75.body.bind (resC Tryd.prog Tryd.f75.ntmps)) = some (strip c75) := by kernel_rfl
theorem s75 : Tryd.f75.results.toList.mapM (resRes Tryd.prog) = some [.t 6] := by kernel_rfl
def c43 : ACode :=
  (.seq (.reg none [⟨some 2, none, .q (.mv (.c .nil))⟩, ⟨some 3, none, .q (.mv (.c (.i .i64 0)))⟩])
  (.keep [0]
  (.seq (.reg none [⟨some 7, none, .q (.mv (.t 0))⟩, ⟨some 8, none, .call (.f 57) [(.t 7), (.c .nil)]⟩, ⟨some 6, none, .q (.mv (.t 8))⟩, ⟨some 9, none, .q (.ext 0 (.t 6))⟩, ⟨some 10, none, .q (.ext 1 (.t 6))⟩, ⟨some 4, none, .m (.alloc (.g [.nil, .nil]))⟩, ⟨none, none, .m (.st 2 (.t 4) (.t 9))⟩, ⟨some 5, none, .q (.mv (.t 10))⟩])
  (.keep [4, 5]
  (.seq (.reg none [⟨some 11, none, .q (.fa 1 (.t 4))⟩, ⟨some 12, none, .q (.ld none (.t 11))⟩, ⟨some 13, none, .q (.mv (.t 5))⟩, ⟨some 2, none, .q (.mv (.t 12))⟩, ⟨some 3, none, .q (.mv (.t 13))⟩])
  .ret)))))
theorem r43 : (Tryd.f43.body.bind (resC Tryd.prog Tryd.f43.ntmps)) = some (strip c43) := by kernel_rfl
theorem s43 : Tryd.f43.results.toList.mapM (resRes Tryd.prog) = some [.t 2, .t 3] := by kernel_rfl
theorem asked_p (t : List Ev) (l : List Int) (ht : t.length < 4611686018427387904) (hl : l.length < 4611686018427387904) : PureS Tryd.prog 57 [.sl 26 (t.map Ev.row), .sl 1 (l.map irow)] (.tup [askV t l, .i .i64 (askT t l)]) := by
  refine fun_go hmx Tryd.func57 r57 s57 (by rw [Tryd.ntmps57]; simp) ?_
  unfold c57
  simp
  first
    | refine callk rfl Tryd.call15 (check_p t ht) rfl ?_
    | refine callks rfl Tryd.call15 (check_p t ht) rfl ?_
    | refine callq rfl Tryd.call15 (check_p t ht) rfl ?_
    | refine callqe rfl Tryd.call15 (check_p t ht) rfl ?_
  by_cases h0 : checkT t = 0
  rotate_left
  · simp [h0, askV, askT]
  simp [h0]
  refine go_while hmx 1 (fun (k : Nat) => [(17, .v (.i .i64 (k : Int)))]) (fun _ => [.var [.v .nil, .v .nil]]) (fun k => k ≤ l.length ∧ anyTo (badP t) l k = false) (fun k => l.length - k) 0 rfl (by simp) rfl (by simp) (by simp) (by simp) ⟨Nat.zero_le _, by simp⟩ ?_
  rintro k ⟨hk, hf⟩
  by_cases hkl : k < l.length
  · have hI : (k : Int) < (l.length : Int) := by omega
    have hw : IntKind.i64.wrap ((k : Int) + 1) = (k : Int) + 1 := wrap_in (by omega) (by omega)
    have hsn := anyTo_succ (p := badP t) hkl
    have hat := any_at (p := badP t) hkl
    simp [hI, hkl, irow]
    generalize l[k] = x at *
    refine ⟨fun h => ?_, fun h1 h2 => ?_⟩
    · have := hat (by unfold badP; simpa using h)
      simp [askV, askT, h0, this]
    · exact ⟨k + 1, by rw [hw]; rfl, ⟨by omega, by rw [hsn, hf]; unfold badP; simp [h1, h2]⟩, by omega⟩
  · obtain rfl : k = l.length := by omega
    rw [anyTo_len] at hf
    simp
    first
      | refine callk rfl Tryd.call68 (clocks_p t (good_of h0)) rfl ?_
      | refine callks rfl Tryd.call68 (clocks_p t (good_of h0)) rfl ?_
      | refine callq rfl Tryd.call68 (clocks_p t (good_of h0)) rfl ?_
      | refine callqe rfl Tryd.call68 (clocks_p t (good_of h0)) rfl ?_
    simp [askV, askT, h0, hf, tabV]
theorem asked_nil (t : List Ev) (ht : t.length < 4611686018427387904) : PureS Tryd.prog 57 [.sl 26 (t.map Ev.row), .nil] (.tup [askV t [], .i .i64 (askT t [])]) :=
  (asked_p t [] ht (by simp)).weak (by simp)
theorem before_p (t : List Ev) (h : Good t) (i j : Nat) (hi : i < t.length) (hj : j < t.length) : PureS Tryd.prog 75 [tabV t, .i .i64 (i : Int), .i .i64 (j : Int)] (.b (befT t i j)) := by
  have hl := h.len
  have hgo := h.go hi
  obtain ⟨g, hg⟩ : ∃ g : Nat, (t.getD i default).go = (g : Int) := ⟨(t.getD i default).go.toNat, by omega⟩
  have hgn : goN t i = g := by unfold goN; omega
  rw [hg] at hgo
  simp only [Int.toNat_natCast] at hgo
  have hgi : t.getD i default = t[i] := by rw [List.getD_eq_getElem?_getD, List.getElem?_eq_getElem hi]; rfl
  rw [hgi] at hg
  have ci := stC_low (t := t) hi (Nat.le_refl _)
  have cj := stC_low (t := t) hj (Nat.le_refl _)
  rw [stC_all] at ci cj
  have hc : befT t i j = (decide (i < j) && decide ((clkAt t i).getD g 0 ≤ (clkAt t j).getD g 0)) := by rw [befT, hgn]
  have li : (clkAt t i).length = 6 := by simp
  have lj : (clkAt t j).length = 6 := by simp
  generalize clkAt t i = a at *
  generalize clkAt t j = b at *
  have gi : a.getD g 0 = a[g]'(by omega) := by rw [List.getD_eq_getElem?_getD, List.getElem?_eq_getElem (by omega)]; rfl
  have gj : b.getD g 0 = b[g]'(by omega) := by rw [List.getD_eq_getElem?_getD, List.getElem?_eq_getElem (by omega)]; rfl
  rw [gi, gj] at hc
  have hK : (clk t t.length).length = t.length := by simp
  have hib : g < a.length := by omega
  have hjb : g < b.length := by omega
  simp only [tabV]
  generalize clk t t.length = K at *
  have ci' : K[i]'(by omega) = a := by rw [List.getElem?_eq_getElem (by omega)] at ci; exact Option.some.inj ci
  have cj' : K[j]'(by omega) = b := by rw [List.getElem?_eq_getElem (by omega)] at cj; exact Option.some.inj cj
  have hg6 : (g : Int) < 6 := by omega
  rw [hc]
  refine fun_go hmx Tryd.func75 r75 s75 (by rw [Tryd.ntmps75]; simp) ?_
  unfold c75
  simp [hi, hg, hj, ci', cj', crow, hK, get_ags hib, get_ags hjb, hg6]
  try omega
theorem clocks_all (t : List Ev) (ht : t.length < 4611686018427387904) : PureS Tryd.prog 43 [.sl 26 (t.map Ev.row)] (.tup [if checkT t = 0 then .sl 6 ((clk t t.length).map crow) else .nil, .i .i64 (checkT t)]) := by
  refine fun_go hmx Tryd.func43 r43 s43 (by rw [Tryd.ntmps43]; simp) ?_
  unfold c43
  simp
  first
    | refine callk rfl Tryd.call57 (asked_nil t ht) rfl ?_
    | refine callks rfl Tryd.call57 (asked_nil t ht) rfl ?_
    | refine callq rfl Tryd.call57 (asked_nil t ht) rfl ?_
    | refine callqe rfl Tryd.call57 (asked_nil t ht) rfl ?_
  by_cases h0 : checkT t = 0
  · simp [askV, askT, h0, tabV]
  · simp [askV, askT, h0]
def c74 : ACode :=
  (.seq (.reg none [⟨some 5, none, .q (.ld none (.t 1))⟩, ⟨some 6, none, .q (.bin .sub (.t 5) (.c (.i .i64 1)))⟩, ⟨some 4, none, .q (.mv (.t 6))⟩])
  (.keep [0, 1, 2, 4]
  (.blk 0 (.keep [0, 1, 2, 4]
  (.loop (.fin [0, 1, 2, 4]
    (.seq (.seq (.reg none [⟨some 7, none, .q (.mv (.t 4))⟩, ⟨some 8, none, .q (.bin .geq (.t 7) (.c (.i .i64 0)))⟩])
      (.keep [0, 1, 2, 4, 8]
      (.cond (.t 8) .skip
      (.exit 0))))
    (.seq (.blk 1 (.seq (.reg none [⟨some 11, none, .q (.ld (some 2) (.t 2))⟩, ⟨some 12, none, .q (.mv (.t 4))⟩, ⟨some 13, none, .q (.ld none (.t 1))⟩, ⟨some 14, none, .call (.f 75) [(.t 11), (.t 12), (.t 13)]⟩, ⟨some 15, none, .q (.mv (.t 14))⟩, ⟨some 16, some (15, true), .q (.mv (.t 0))⟩, ⟨some 17, some (15, true), .q (.mv (.t 4))⟩, ⟨some 18, some (15, true), .call (.t 16) [(.t 17)]⟩, ⟨some 19, some (15, true), .q (.un .not (.t 18))⟩, ⟨some 20, none, .pk (.t 15) (.t 19) (.c (.b false))⟩])
      (.keep [0, 1, 2, 4, 20]
      (.cond (.t 20) .ret
      .skip))))
    (.keep [0, 1, 2, 4]
    (.reg none [⟨some 9, none, .q (.mv (.t 4))⟩, ⟨some 10, none, .q (.bin .sub (.t 9) (.c (.i .i64 1)))⟩, ⟨some 4, none, .q (.mv (.t 10))⟩]))))))))))
theorem r74 : (Tryd.f74.body.bind (resC Tryd.prog Tryd.f74.ntmps)) = some (strip c74) := by kernel_rfl
theorem s74 : Tryd.f74.results.toList.mapM (resRes Tryd.prog) = some [] := by kernel_rfl
def c66 : ACode :=
  (.seq (.reg none [⟨some 2, none, .m (.box (.t 0))⟩, ⟨some 3, none, .m (.box (.t 1))⟩, ⟨some 4, none, .q (.mv (.c .nf))⟩])
  (.keep [2, 3]
  (.seq (.gst (.pimT 3)
    (.gst (.pimT 2)
    (.reg none [⟨some 5, none, .q (.mkf 74 [(.t 3), (.t 2)])⟩, ⟨some 4, none, .q (.mv (.t 5))⟩])))
  .ret)))
theorem r66 : (Tryd.f66.body.bind (resC Tryd.prog Tryd.f66.ntmps)) = some (strip c66) := by kernel_rfl
theorem s66 : Tryd.f66.results.toList.mapM (resRes Tryd.prog) = some [.t 4] := by kernel_rfl
theorem past_iter (t : List Ev) (h : Good t) (i : Nat) (hi : i < t.length) : IterS Tryd.prog 74 [.pim [.i .i64 (i : Int)], .pim [.sl 26 (t.map Ev.row), .sl 6 ((clk t t.length).map crow)]] ((pastR t i).map nrow) := by
  intro l s H J hs hJ hy h0
  have hl := h.len
  have hw0 : IntKind.i64.wrap ((i : Int) - 1) = (i : Int) - 1 := wrap_in (by omega) (by omega)
  refine fun_go hmx Tryd.func74 r74 s74 (by rw [Tryd.ntmps74]; simp) ?_
  unfold c74
  simp [hw0]
  refine go_rounds hmx (fun (x : Nat × Nat) σ' => x.1 ≤ i ∧ x.2 ≤ (pastR t i).length ∧ (pastR t i).drop x.2 = pastD (fun j => befT t j i) x.1 ∧ σ'.fr = [(0, RV.yl l s), (1, .v (.pim [.i .i64 (i : Int)])), (2, .v (.pim [.sl 26 (t.map Ev.row), .sl 6 ((clk t t.length).map crow)])), (4, .v (.i .i64 ((x.1 : Int) - 1)))] ∧ J x.2 σ'.hp) (fun x => x.1) (i, 0) ⟨Nat.le_refl _, Nat.zero_le _, rfl, by simp, h0⟩ ?_
  rintro ⟨m, c⟩ ⟨fr, hp⟩ ⟨hm, hc, hd, rfl, hj⟩
  simp only at hm hc hd hj
  obtain ⟨hl1, low1⟩ := hJ _ _ hj
  cases m with
  | zero =>
    have : c = (pastR t i).length := by
      rw [pastD] at hd
      have := List.drop_eq_nil_iff.1 hd
      omega
    subst this
    simp
    exact ⟨hp, ⟨[], by simp⟩, by simpa using hj⟩
  | succ m =>
    have hmt : m < t.length := by omega
    have hw1 : IntKind.i64.wrap ((m : Int) - 1) = (m : Int) - 1 := wrap_in (by omega) (by omega)
    have hm1 : ((m : Nat) : Int) + 1 - 1 = (m : Int) := by omega
    have hm2 : (-1 : Int) + ((m : Int) + 1) = m := by omega
    simp [hm1]
    first
      | refine callk rfl Tryd.call75 (before_p t h m i hmt hi) rfl ?_
      | refine callks rfl Tryd.call75 (before_p t h m i hmt hi) rfl ?_
      | refine callq rfl Tryd.call75 (before_p t h m i hmt hi) rfl ?_
      | refine callqe rfl Tryd.call75 (before_p t h m i hmt hi) rfl ?_
    rw [pastD] at hd
    cases hb : befT t m i with
    | false =>
      rw [if_neg (by rw [hb]; simp)] at hd
      simp
      refine callod rfl rfl ?_
      simp [hw1]
      exact ⟨m, ⟨by omega, c, hc, hd, rfl, hj⟩, by omega⟩
    | true =>
      rw [if_pos hb] at hd
      have hcl : c < (pastR t i).length := by
        apply Classical.byContradiction
        intro hc
        rw [List.drop_eq_nil_iff.2 (by omega)] at hd
        cases hd
      rw [List.drop_eq_getElem_cons hcl, List.cons.injEq] at hd
      obtain ⟨hx, hd⟩ := hd
      have hyk := hy c hp (by simpa using hcl) hj
      simp [hx, nrow] at hyk
      simp
      refine calljg (xs := [.i .i64 (m : Int)]) hJ hj [] rfl rfl rfl (by simp [obl]) rfl (by simp) hyk hs ?_
      intro h' hj' hl'
      simp [hw1]
      exact ⟨m, ⟨by omega, c + 1, by omega, hd, rfl, hj'⟩, by omega⟩
theorem past_p (t : List Ev) (i : Nat) : PureS Tryd.prog 66 [tabV t, .i .i64 (i : Int)] (.fn 74 [.pim [.i .i64 (i : Int)], .pim [.sl 26 (t.map Ev.row), .sl 6 ((clk t t.length).map crow)]]) := by
  refine fun_go hmx Tryd.func66 r66 s66 (by rw [Tryd.ntmps66]; simp) ?_
  unfold c66
  simp [tabV]
end Go.Sc.Or
