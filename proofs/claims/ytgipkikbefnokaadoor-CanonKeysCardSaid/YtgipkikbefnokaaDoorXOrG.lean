/- Chapter 12: what comes of an iterator: Past, Lasts, Height. No condition. -/
import Derived.Test.YtgipkikbefnokaaDoorXOrA
import Derived.Test.YtgipkikbefnokaaDoorXEvt
set_option linter.constructorNameAsVariable false
namespace Go.Sc.Or
open Go Go.RowKit Go.Av Go.Proofs Go.Sc
set_option linter.unusedSimpArgs false
set_option linter.unusedVariables false
namespace Nil
def c73 : ACode :=
  (.seq (.reg none [⟨some 2, none, .m (.box (.t 0))⟩, ⟨some 4, none, .q (.mv (.c .nil))⟩])
  (.keep [1, 2]
  (.seq (.seq (.gst (.nilC 2 0 1)
      (.reg none [⟨some 6, none, .q (.mv (.t 1))⟩]))
    (.keep [2, 6]
    (.blk 0 (.keep [2, 6]
    (.rf (.t 6) [7] (.keep [2, 7]
      (.reg none [⟨some 5, none, .q (.mv (.t 7))⟩]))
    (.keep [2, 5]
      (.blk 1 (.reg none [⟨some 8, none, .q (.ld none (.t 2))⟩, ⟨some 9, none, .q (.mv (.t 5))⟩, ⟨some 10, none, .m (.bsl 1 1 [(.i .i64 0)] [(0, 1, .t 9)])⟩, ⟨some 11, none, .m (.app 1 8 (.t 8) (.t 10))⟩, ⟨none, none, .m (.st 1 (.t 2) (.t 11))⟩]))))))))
  (.seq (.reg none [⟨some 12, none, .q (.ld none (.t 2))⟩, ⟨some 4, none, .q (.mv (.t 12))⟩])
  .ret))))
theorem r73 : (Tryd.f73.body.bind (resC Tryd.prog Tryd.f73.ntmps)) = some (strip c73) := by kernel_rfl
theorem s73 : Tryd.f73.results.toList.mapM (resRes Tryd.prog) = some [.t 4] := by kernel_rfl
theorem appendSeq_p (gid : Nat) (caps : List AV) (xs : List (List AV)) (hxs : ∀ x ∈ xs, ∃ n : Int, x = irow n) (hl : xs.length < 1000000) (it : IterS Tryd.prog gid caps xs) (hc : ∀ vs w, (callFunc gid vs).run Tryd.prog w = .ok (.enter gid vs) w) :
    Own1 Tryd.prog 73 [.nil, .fn gid caps] 1 xs := by
  unfold Own1
  refine fun_sel [1] hmx Tryd.func73 r73 s73 (by rw [Tryd.ntmps73]; simp) (by first | exact Nat.le_refl _ | decide | simp) (by simp) ?_
  unfold c73
  simp
  refine go_rf hmx rfl hc it ?_ (fun k h => ∃ v, h = [.var [.os 1 v], .arr v 1 (vrows (xs.take k))]) ?_ ⟨0, rfl⟩ ?_ ?_ ?_
  · rintro x hx; obtain ⟨n, rfl⟩ := hxs x hx; rfl
  · rintro k h ⟨v, rfl⟩
    simp
  · simp
  · rintro l k h hk ⟨v, rfl⟩
    obtain ⟨n, hn⟩ := hxs _ (List.getElem_mem hk)
    have hts := List.take_succ_eq_append_getElem hk
    rw [hn] at hts
    simp [hn, irow]
    exact ⟨by omega, [.var [.os 1 (v + 1)], .arr (v + 1) 1 (vrows (xs.take k) ++ [[.v (.i .i64 n)]])], ⟨[.arr 0 1 [[.v (.i .i64 n)]]], rfl⟩, v + 1, by rw [hts]; simp [vrows, irow]⟩
  · rintro h ⟨v, rfl⟩
    simp
end Nil
def c65 : ACode :=
  (.seq (.reg none [⟨some 2, none, .q (.mv (.c .nil))⟩])
  (.keep [0]
  (.seq (.reg none [⟨some 3, none, .q (.mv (.t 0))⟩, ⟨some 4, none, .call (.f 73) [(.c .nil), (.t 3)]⟩, ⟨some 2, none, .q (.mv (.t 4))⟩])
  .ret)))
theorem r65 : (Tryd.f65.body.bind (resC Tryd.prog Tryd.f65.ntmps)) = some (strip c65) := by kernel_rfl
theorem s65 : Tryd.f65.results.toList.mapM (resRes Tryd.prog) = some [.t 2] := by kernel_rfl
def c67 : ACode :=
  (.seq (.reg none [⟨some 4, none, .q (.mv (.t 0))⟩, ⟨some 5, none, .q (.len false (.t 4))⟩, ⟨some 6, none, .q (.bin .sub (.t 5) (.c (.i .i64 1)))⟩, ⟨some 2, none, .q (.mv (.c (.i .i64 0)))⟩, ⟨some 3, none, .q (.mv (.t 6))⟩])
  (.keep [0, 2, 3]
  (.blk 0 (.keep [0, 2, 3]
  (.loop (.fin [0, 2, 3]
    (.seq (.seq (.reg none [⟨some 7, none, .q (.mv (.t 2))⟩, ⟨some 8, none, .q (.mv (.t 3))⟩, ⟨some 9, none, .q (.bin .lss (.t 7) (.t 8))⟩])
      (.keep [0, 2, 3, 9]
      (.cond (.t 9) .skip
      (.exit 0))))
    (.seq (.blk 1 (.reg (some (13, [])) [⟨some 14, none, .q (.mv (.t 0))⟩, ⟨some 15, none, .q (.mv (.t 2))⟩, ⟨some 16, none, .q (.mv (.t 0))⟩, ⟨some 17, none, .q (.mv (.t 3))⟩, ⟨some 18, none, .q (.mv (.t 0))⟩, ⟨some 19, none, .q (.mv (.t 3))⟩, ⟨some 20, none, .q (.ias 1 (.t 18) (.t 19))⟩, ⟨some 21, none, .q (.ld none (.t 20))⟩, ⟨some 22, none, .q (.mv (.t 0))⟩, ⟨some 23, none, .q (.mv (.t 2))⟩, ⟨some 24, none, .q (.ias 1 (.t 22) (.t 23))⟩, ⟨some 25, none, .q (.ld none (.t 24))⟩, ⟨some 26, none, .q (.ias 1 (.t 14) (.t 15))⟩, ⟨none, none, .m (.st 1 (.t 26) (.t 21))⟩, ⟨some 27, none, .q (.ias 1 (.t 16) (.t 17))⟩, ⟨none, none, .m (.st 1 (.t 27) (.t 25))⟩]))
    (.keep [0, 2, 3]
    (.reg none [⟨some 10, none, .q (.mv (.t 2))⟩, ⟨some 11, none, .q (.bin .add (.t 10) (.c (.i .i64 1)))⟩, ⟨some 12, none, .q (.mv (.t 3))⟩, ⟨some 13, none, .q (.bin .sub (.t 12) (.c (.i .i64 1)))⟩, ⟨some 2, none, .q (.mv (.t 11))⟩, ⟨some 3, none, .q (.mv (.t 13))⟩]))))))))))
theorem r67 : (Tryd.f67.body.bind (resC Tryd.prog Tryd.f67.ntmps)) = some (strip c67) := by kernel_rfl
theorem s67 : Tryd.f67.results.toList.mapM (resRes Tryd.prog) = some [] := by kernel_rfl
def c55 : ACode :=
  (.seq (.reg none [⟨some 4, none, .q (.mv (.c .nil))⟩, ⟨some 5, none, .q (.mv (.c (.i .i64 0)))⟩])
  (.keep [0, 1]
  (.seq (.reg none [⟨some 10, none, .q (.mv (.t 0))⟩, ⟨some 11, none, .q (.mv (.t 1))⟩, ⟨some 12, none, .m (.bsl 1 1 [(.i .i64 0)] [(0, 1, .t 11)])⟩, ⟨some 13, none, .call (.f 57) [(.t 10), (.t 12)]⟩, ⟨some 9, none, .q (.mv (.t 13))⟩, ⟨some 14, none, .q (.ext 0 (.t 9))⟩, ⟨some 15, none, .q (.ext 1 (.t 9))⟩, ⟨some 6, none, .m (.alloc (.g [.nil, .nil]))⟩, ⟨none, none, .m (.st 2 (.t 6) (.t 14))⟩, ⟨some 7, none, .q (.mv (.t 15))⟩])
  (.keep [1, 6, 7]
  (.seq (.seq (.reg none [⟨some 16, none, .q (.mv (.t 7))⟩, ⟨some 17, none, .q (.bin .neq (.t 16) (.c (.i .i64 0)))⟩])
    (.keep [1, 6, 7, 17]
    (.cond (.t 17) (.seq (.reg none [⟨some 18, none, .q (.mv (.t 7))⟩, ⟨some 4, none, .q (.mv (.c .nil))⟩, ⟨some 5, none, .q (.mv (.t 18))⟩])
      .ret)
    .skip)))
  (.seq (.reg none [⟨some 19, none, .q (.ld (some 2) (.t 6))⟩, ⟨some 20, none, .q (.mv (.t 1))⟩, ⟨some 21, none, .call (.f 66) [(.t 19), (.t 20)]⟩, ⟨some 22, none, .call (.f 65) [(.t 21)]⟩, ⟨some 8, none, .q (.mv (.t 22))⟩])
  (.keep [8]
  (.seq (.reg none [⟨some 23, none, .q (.mv (.t 8))⟩, ⟨some 24, none, .call (.f 67) [(.t 23)]⟩])
  (.keep [8]
  (.seq (.gst (.letT 8 1)
    (.reg none [⟨some 25, none, .q (.mv (.t 8))⟩, ⟨some 4, none, .q (.mv (.t 25))⟩, ⟨some 5, none, .q (.mv (.c (.i .i64 0)))⟩]))
  .ret))))))))))
theorem r55 : (Tryd.f55.body.bind (resC Tryd.prog Tryd.f55.ntmps)) = some (strip c55) := by kernel_rfl
theorem s55 : Tryd.f55.results.toList.mapM (resRes Tryd.prog) = some [.t 4, .t 5] := by kernel_rfl
theorem collect_p (gid : Nat) (caps : List AV) (xs : List (List AV)) (hxs : ∀ x ∈ xs, ∃ n : Int, x = irow n) (hl : xs.length < 1000000) (it : IterS Tryd.prog gid caps xs) (hc : ∀ vs w, (callFunc gid vs).run Tryd.prog w = .ok (.enter gid vs) w) :
    Own1 Tryd.prog 65 [.fn gid caps] 1 xs := by
  unfold Own1
  refine fun_go hmx Tryd.func65 r65 s65 (by rw [Tryd.ntmps65]; simp) ?_
  unfold c65
  simp
  refine callo rfl Tryd.call73 (Nil.appendSeq_p gid caps xs hxs hl it hc) ?_ ⟨.v _, .v _, trivial⟩ ?_
  · intro row hr x hx
    obtain ⟨n, rfl⟩ := hxs row hr
    simp [irow] at hx; subst hx; exact .i _ _
  simp
theorem reverse_p (l : List Int) (v : Nat) (hl : l.length < 1000000) : CallS Tryd.prog 67 [.os 0 v] [.arr v 1 (vrows (l.map irow))] fun r K => K = [.arr v 1 (vrows (l.reverse.map irow))] := by
  have hw0 : IntKind.i64.wrap ((l.length : Int) - 1) = (l.length : Int) - 1 := wrap_in (by omega) (by omega)
  refine fun_go hmx Tryd.func67 r67 s67 (by rw [Tryd.ntmps67]; simp) ?_
  unfold c67
  simp [hw0]
  refine go_while hmx 1 (fun (k : Nat) => [(2, .v (.i .i64 (k : Int))), (3, .v (.i .i64 ((l.length : Int) - 1 - k)))]) (fun k => [.arr v 1 (vrows ((revN l k).map irow))]) (fun k => 2 * k ≤ l.length + 1) (fun k => l.length + 1 - k) 0 rfl (by simp) (by rw [revN_zero]) (by simp) (by simp) (by simp) (by omega) ?_
  intro k hk
  by_cases hkl : 2 * k + 1 < l.length
  · have hI : (k : Int) < (l.length : Int) - 1 - (k : Int) := by omega
    have hst := revN_step l hkl
    obtain ⟨m, hm⟩ : ∃ m : Nat, (l.length : Int) - 1 - (k : Int) = (m : Int) := ⟨l.length - 1 - k, by omega⟩
    have hml : m < l.length := by omega
    have hkl2 : k < l.length := by omega
    obtain ⟨R, hR⟩ : ∃ R, revN l k = R := ⟨_, rfl⟩
    have hRl : R.length = l.length := by rw [← hR, revN_length]
    have hRk : R[k]'(by omega) = l[k] := by
      subst hR; rw [revN_get, if_neg (by omega), List.getD_eq_getElem?_getD, List.getElem?_eq_getElem hkl2]; rfl
    have hRm : R[m]'(by omega) = l[m] := by
      subst hR; rw [revN_get, if_neg (by omega), List.getD_eq_getElem?_getD, List.getElem?_eq_getElem hml]; rfl
    rw [show l.length - 1 - k = m by omega, List.getD_eq_getElem?_getD, List.getElem?_eq_getElem hml, List.getD_eq_getElem?_getD, List.getElem?_eq_getElem hkl2, hR] at hst
    have hw1 : IntKind.i64.wrap ((k : Int) + 1) = (k : Int) + 1 := wrap_in (by omega) (by omega)
    have hw2 : IntKind.i64.wrap ((m : Int) - 1) = (m : Int) - 1 := wrap_in (by omega) (by omega)
    rw [hm] at hI
    rw [hR]
    have hml' : m < R.length := by omega
    have hkl' : k < R.length := by omega
    simp [hm, hI, hml', hkl', vrows_at, hRk, hRm, irow]
    have e1 : (vrows (R.map irow)).set k [RV.v (.i .i64 l[m])] = vrows ((R.set k l[m]).map irow) := by simp [vrows, List.map_set, irow]
    have hkm : k ≠ m := by omega
    have e2 : ∀ (h : m < ((vrows (R.map irow)).set k [RV.v (.i .i64 l[m])]).length), ((vrows (R.map irow)).set k [RV.v (.i .i64 l[m])])[m]'h = [RV.v (.i .i64 l[m])] := fun h => by
      rw [List.getElem_set_ne hkm, vrows_at, List.getElem_map, hRm]; rfl
    have e3 : (vrows ((R.set k l[m]).map irow)).set m [RV.v (.i .i64 l[k])] = vrows (((R.set k l[m]).set m l[k]).map irow) := by simp [vrows, List.map_set, irow]
    rw [e2, e1]
    refine ⟨by simp, k + 1, ⟨by rw [hw1]; rfl, by omega⟩, ?_, by omega, by omega⟩
    simp only [List.set_cons_zero]
    rw [e3, hst]
    rfl
  · have hI : ¬ (k : Int) < (l.length : Int) - 1 - (k : Int) := by omega
    have hr := revN_half l (k := k) (by omega)
    rw [hr]
    simp [hI]
theorem past_all (t : List Ev) (ht : t.length < 4611686018427387904) (i : Int) : PureS Tryd.prog 55 [.sl 26 (t.map Ev.row), .i .i64 i] (if askT t [i] = 0 then .tup [.sl 1 ((pastR t i.toNat).reverse.map nrow), .i .i64 0] else .tup [.nil, .i .i64 (askT t [i])]) := by
  refine fun_go hmx Tryd.func55 r55 s55 (by rw [Tryd.ntmps55]; simp) ?_
  unfold c55
  simp
  refine callg1 0 0 [.sl 26 (t.map Ev.row)] [] rfl Tryd.call57 (asked_p t [i] ht (by simp)) rfl rfl ?_
  by_cases h0 : askT t [i] = 0
  rotate_left
  · simp [h0, askV]
  obtain ⟨hG, hp⟩ := ask_ok h0
  obtain ⟨i, rfl⟩ : ∃ n : Nat, i = (n : Int) := ⟨i.toNat, by have := hp i (by simp); omega⟩
  have hi : i < t.length := by have := hp i (by simp); omega
  have hpl : (pastR t i).length < 1000000 := by
    have := pastD_len (p := fun j => befT t j i) i
    have := hG.len
    unfold pastR; omega
  simp [h0, askV, tabV]
  first
    | refine callk rfl Tryd.call66 (past_p t i) rfl ?_
    | refine callks rfl Tryd.call66 (past_p t i) rfl ?_
    | refine callq rfl Tryd.call66 (past_p t i) rfl ?_
    | refine callqe rfl Tryd.call66 (past_p t i) rfl ?_
  simp
  refine callo rfl Tryd.call65 (collect_p _ _ ((pastR t i).map nrow) (by intro x hx; simp only [List.mem_map] at hx; obtain ⟨n, _, rfl⟩ := hx; exact ⟨n, rfl⟩) (by simpa using hpl) (past_iter t hG i hi) Tryd.call74) ?_ ⟨.v _, trivial⟩ ?_
  · intro row hr x hx
    simp only [List.mem_map] at hr
    obtain ⟨n, _, rfl⟩ := hr
    simp [nrow] at hx; subst hx; exact .i _ _
  have hL : (pastR t i).map nrow = ((pastR t i).map fun n : Nat => (n : Int)).map irow := by simp
  rw [hL]
  simp
  refine callf [2] rfl Tryd.call67 (reverse_p ((pastR t i).map fun n : Nat => (n : Int)) 0 (by simpa using hpl)) (by decide) rfl (by simp) (by simp) (by simp) ?_
  rintro _ _ rfl
  simp
end Go.Sc.Or
/- Chapter 12: Height and Lasts. No condition. -/
set_option linter.constructorNameAsVariable false
namespace Go.Sc.Or
open Go Go.RowKit Go.Av Go.Proofs Go.Sc
set_option linter.unusedSimpArgs false
set_option linter.unusedVariables false
theorem if_max (a b : Int) : (if a < b then b else a) = max a b := by rw [Int.max_def]; split <;> split <;> omega
end Go.Sc.Or
