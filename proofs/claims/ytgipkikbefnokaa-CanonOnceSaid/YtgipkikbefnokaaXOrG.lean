/- Chapter 12: what comes of an iterator: Past, Lasts, Height. No condition. -/
import Derived.Test.YtgipkikbefnokaaXOrA
import Derived.Test.YtgipkikbefnokaaXEvt
set_option linter.constructorNameAsVariable false
namespace Go.Sc.Or
open Go Go.RowKit Go.Av Go.Proofs Go.Sc
set_option linter.unusedSimpArgs false
set_option linter.unusedVariables false
namespace Nil
def c102 : ACode :=
  (.seq (.reg none [⟨some 2, none, .m (.box (.t 0))⟩, ⟨some 4, none, .q (.mv (.c .nil))⟩])
  (.keep [1, 2]
  (.seq (.seq (.gst (.nilC 2 0 1)
      (.reg none [⟨some 6, none, .q (.mv (.t 1))⟩]))
    (.keep [2, 6]
    (.blk 0 (.keep [2, 6]
    (.rf (.t 6) [7] (.keep [2, 7]
      (.reg none [⟨some 5, none, .q (.mv (.t 7))⟩]))
    (.keep [2, 5]
      (.blk 1 (.reg none [⟨some 8, none, .q (.ld none (.t 2))⟩, ⟨some 9, none, .q (.mv (.t 5))⟩, ⟨some 10, none, .m (.bsl 1 1 [(.i .i64 0)] [(0, 1, .t 9)])⟩, ⟨some 11, none, .m (.app 1 8 (.t 8) (.t 10))⟩, ⟨none, none, .m (.st 1 (.t 2) (.t 11))⟩]))))))))
  (.seq (.reg none [⟨some 12, none, .q (.ld none (.t 2))⟩, ⟨some 4, none, .q (.mv (.t 12))⟩])
  .ret))))
theorem r102 : (Try.f102.body.bind (resC Try.prog Try.f102.ntmps)) = some (strip c102) := by kernel_rfl
theorem s102 : Try.f102.results.toList.mapM (resRes Try.prog) = some [.t 4] := by kernel_rfl
theorem appendSeq_p (gid : Nat) (caps : List AV) (xs : List (List AV)) (hxs : ∀ x ∈ xs, ∃ n : Int, x = irow n) (hl : xs.length < 1000000) (it : IterS Try.prog gid caps xs) (hc : ∀ vs w, (callFunc gid vs).run Try.prog w = .ok (.enter gid vs) w) :
    Own1 Try.prog 102 [.nil, .fn gid caps] 1 xs := by
  unfold Own1
  refine fun_sel [1] hmx Try.func102 r102 s102 (by rw [Try.ntmps102]; simp) (by first | exact Nat.le_refl _ | decide | simp) (by simp) ?_
  unfold c102
  simp
  refine go_rf hmx rfl hc it ?_ (fun k h => ∃ v, h = [.var [.os 1 v], .arr v 1 (vrows (xs.take k))]) ?_ ⟨0, rfl⟩ ?_ ?_ ?_
  · rintro x hx; obtain ⟨n, rfl⟩ := hxs x hx; rfl
  · rintro k h ⟨v, rfl⟩
    simp
  · simp
  · rintro l k h hk ⟨v, rfl⟩
    obtain ⟨n, hn⟩ := hxs _ (List.getElem_mem hk)
    have hts := List.take_succ_eq_append_getElem hk
    rw [hn] at hts
    simp [hn, irow]
    exact ⟨by omega, [.var [.os 1 (v + 1)], .arr (v + 1) 1 (vrows (xs.take k) ++ [[.v (.i .i64 n)]])], ⟨[.arr 0 1 [[.v (.i .i64 n)]]], rfl⟩, v + 1, by rw [hts]; simp [vrows, irow]⟩
  · rintro h ⟨v, rfl⟩
    simp
end Nil
def c72 : ACode :=
  (.seq (.reg none [⟨some 2, none, .q (.mv (.c .nil))⟩])
  (.keep [0]
  (.seq (.reg none [⟨some 3, none, .q (.mv (.t 0))⟩, ⟨some 4, none, .call (.f 102) [(.c .nil), (.t 3)]⟩, ⟨some 2, none, .q (.mv (.t 4))⟩])
  .ret)))
theorem r72 : (Try.f72.body.bind (resC Try.prog Try.f72.ntmps)) = some (strip c72) := by kernel_rfl
theorem s72 : Try.f72.results.toList.mapM (resRes Try.prog) = some [.t 2] := by kernel_rfl
def c73 : ACode :=
  (.seq (.reg none [⟨some 4, none, .q (.mv (.t 0))⟩, ⟨some 5, none, .q (.len false (.t 4))⟩, ⟨some 6, none, .q (.bin .sub (.t 5) (.c (.i .i64 1)))⟩, ⟨some 2, none, .q (.mv (.c (.i .i64 0)))⟩, ⟨some 3, none, .q (.mv (.t 6))⟩])
  (.keep [0, 2, 3]
  (.blk 0 (.keep [0, 2, 3]
  (.loop (.fin [0, 2, 3]
    (.seq (.seq (.reg none [⟨some 7, none, .q (.mv (.t 2))⟩, ⟨some 8, none, .q (.mv (.t 3))⟩, ⟨some 9, none, .q (.bin .lss (.t 7) (.t 8))⟩])
      (.keep [0, 2, 3, 9]
      (.cond (.t 9) .skip
      (.exit 0))))
    (.seq (.blk 1 (.reg (some (13, [])) [⟨some 14, none, .q (.mv (.t 0))⟩, ⟨some 15, none, .q (.mv (.t 2))⟩, ⟨some 16, none, .q (.mv (.t 0))⟩, ⟨some 17, none, .q (.mv (.t 3))⟩, ⟨some 18, none, .q (.mv (.t 0))⟩, ⟨some 19, none, .q (.mv (.t 3))⟩, ⟨some 20, none, .q (.ias 1 (.t 18) (.t 19))⟩, ⟨some 21, none, .q (.ld none (.t 20))⟩, ⟨some 22, none, .q (.mv (.t 0))⟩, ⟨some 23, none, .q (.mv (.t 2))⟩, ⟨some 24, none, .q (.ias 1 (.t 22) (.t 23))⟩, ⟨some 25, none, .q (.ld none (.t 24))⟩, ⟨some 26, none, .q (.ias 1 (.t 14) (.t 15))⟩, ⟨none, none, .m (.st 1 (.t 26) (.t 21))⟩, ⟨some 27, none, .q (.ias 1 (.t 16) (.t 17))⟩, ⟨none, none, .m (.st 1 (.t 27) (.t 25))⟩]))
    (.keep [0, 2, 3]
    (.reg none [⟨some 10, none, .q (.mv (.t 2))⟩, ⟨some 11, none, .q (.bin .add (.t 10) (.c (.i .i64 1)))⟩, ⟨some 12, none, .q (.mv (.t 3))⟩, ⟨some 13, none, .q (.bin .sub (.t 12) (.c (.i .i64 1)))⟩, ⟨some 2, none, .q (.mv (.t 11))⟩, ⟨some 3, none, .q (.mv (.t 13))⟩]))))))))))
theorem r73 : (Try.f73.body.bind (resC Try.prog Try.f73.ntmps)) = some (strip c73) := by kernel_rfl
theorem s73 : Try.f73.results.toList.mapM (resRes Try.prog) = some [] := by kernel_rfl
def c35 : ACode :=
  (.seq (.reg none [⟨some 4, none, .q (.mv (.c .nil))⟩, ⟨some 5, none, .q (.mv (.c (.i .i64 0)))⟩])
  (.keep [0, 1]
  (.seq (.reg none [⟨some 10, none, .q (.mv (.t 0))⟩, ⟨some 11, none, .q (.mv (.t 1))⟩, ⟨some 12, none, .m (.bsl 1 1 [(.i .i64 0)] [(0, 1, .t 11)])⟩, ⟨some 13, none, .call (.f 60) [(.t 10), (.t 12)]⟩, ⟨some 9, none, .q (.mv (.t 13))⟩, ⟨some 14, none, .q (.ext 0 (.t 9))⟩, ⟨some 15, none, .q (.ext 1 (.t 9))⟩, ⟨some 6, none, .m (.alloc (.g [.nil, .nil]))⟩, ⟨none, none, .m (.st 2 (.t 6) (.t 14))⟩, ⟨some 7, none, .q (.mv (.t 15))⟩])
  (.keep [1, 6, 7]
  (.seq (.seq (.reg none [⟨some 16, none, .q (.mv (.t 7))⟩, ⟨some 17, none, .q (.bin .neq (.t 16) (.c (.i .i64 0)))⟩])
    (.keep [1, 6, 7, 17]
    (.cond (.t 17) (.seq (.reg none [⟨some 18, none, .q (.mv (.t 7))⟩, ⟨some 4, none, .q (.mv (.c .nil))⟩, ⟨some 5, none, .q (.mv (.t 18))⟩])
      .ret)
    .skip)))
  (.seq (.reg none [⟨some 19, none, .q (.ld (some 2) (.t 6))⟩, ⟨some 20, none, .q (.mv (.t 1))⟩, ⟨some 21, none, .call (.f 61) [(.t 19), (.t 20)]⟩, ⟨some 22, none, .call (.f 72) [(.t 21)]⟩, ⟨some 8, none, .q (.mv (.t 22))⟩])
  (.keep [8]
  (.seq (.reg none [⟨some 23, none, .q (.mv (.t 8))⟩, ⟨some 24, none, .call (.f 73) [(.t 23)]⟩])
  (.keep [8]
  (.seq (.gst (.letT 8 1)
    (.reg none [⟨some 25, none, .q (.mv (.t 8))⟩, ⟨some 4, none, .q (.mv (.t 25))⟩, ⟨some 5, none, .q (.mv (.c (.i .i64 0)))⟩]))
  .ret))))))))))
theorem r35 : (Try.f35.body.bind (resC Try.prog Try.f35.ntmps)) = some (strip c35) := by kernel_rfl
theorem s35 : Try.f35.results.toList.mapM (resRes Try.prog) = some [.t 4, .t 5] := by kernel_rfl
theorem collect_p (gid : Nat) (caps : List AV) (xs : List (List AV)) (hxs : ∀ x ∈ xs, ∃ n : Int, x = irow n) (hl : xs.length < 1000000) (it : IterS Try.prog gid caps xs) (hc : ∀ vs w, (callFunc gid vs).run Try.prog w = .ok (.enter gid vs) w) :
    Own1 Try.prog 72 [.fn gid caps] 1 xs := by
  unfold Own1
  refine fun_go hmx Try.func72 r72 s72 (by rw [Try.ntmps72]; simp) ?_
  unfold c72
  simp
  refine callo rfl Try.call102 (Nil.appendSeq_p gid caps xs hxs hl it hc) ?_ ⟨.v _, .v _, trivial⟩ ?_
  · intro row hr x hx
    obtain ⟨n, rfl⟩ := hxs row hr
    simp [irow] at hx; subst hx; exact .i _ _
  simp
theorem reverse_p (l : List Int) (v : Nat) (hl : l.length < 1000000) : CallS Try.prog 73 [.os 0 v] [.arr v 1 (vrows (l.map irow))] fun r K => K = [.arr v 1 (vrows (l.reverse.map irow))] := by
  have hw0 : IntKind.i64.wrap ((l.length : Int) - 1) = (l.length : Int) - 1 := wrap_in (by omega) (by omega)
  refine fun_go hmx Try.func73 r73 s73 (by rw [Try.ntmps73]; simp) ?_
  unfold c73
  simp [hw0]
  refine go_while hmx 1 (fun (k : Nat) => [(2, .v (.i .i64 (k : Int))), (3, .v (.i .i64 ((l.length : Int) - 1 - k)))]) (fun k => [.arr v 1 (vrows ((revN l k).map irow))]) (fun k => 2 * k ≤ l.length + 1) (fun k => l.length + 1 - k) 0 rfl (by simp) (by rw [revN_zero]) (by simp) (by simp) (by simp) (by omega) ?_
  intro k hk
  by_cases hkl : 2 * k + 1 < l.length
  · have hI : (k : Int) < (l.length : Int) - 1 - (k : Int) := by omega
    have hst := revN_step l hkl
    obtain ⟨m, hm⟩ : ∃ m : Nat, (l.length : Int) - 1 - (k : Int) = (m : Int) := ⟨l.length - 1 - k, by omega⟩
    have hml : m < l.length := by omega
    have hkl2 : k < l.length := by omega
    obtain ⟨R, hR⟩ : ∃ R, revN l k = R := ⟨_, rfl⟩
    have hRl : R.length = l.length := by rw [← hR, revN_length]
    have hRk : R[k]'(by omega) = l[k] := by
      subst hR; rw [revN_get, if_neg (by omega), List.getD_eq_getElem?_getD, List.getElem?_eq_getElem hkl2]; rfl
    have hRm : R[m]'(by omega) = l[m] := by
      subst hR; rw [revN_get, if_neg (by omega), List.getD_eq_getElem?_getD, List.getElem?_eq_getElem hml]; rfl
    rw [show l.length - 1 - k = m by omega, List.getD_eq_getElem?_getD, List.getElem?_eq_getElem hml, List.getD_eq_getElem?_getD, List.getElem?_eq_getElem hkl2, hR] at hst
    have hw1 : IntKind.i64.wrap ((k : Int) + 1) = (k : Int) + 1 := wrap_in (by omega) (by omega)
    have hw2 : IntKind.i64.wrap ((m : Int) - 1) = (m : Int) - 1 := wrap_in (by omega) (by omega)
    rw [hm] at hI
    rw [hR]
    have hml' : m < R.length := by omega
    have hkl' : k < R.length := by omega
    simp [hm, hI, hml', hkl', vrows_at, hRk, hRm, irow]
    have e1 : (vrows (R.map irow)).set k [RV.v (.i .i64 l[m])] = vrows ((R.set k l[m]).map irow) := by simp [vrows, List.map_set, irow]
    have hkm : k ≠ m := by omega
    have e2 : ∀ (h : m < ((vrows (R.map irow)).set k [RV.v (.i .i64 l[m])]).length), ((vrows (R.map irow)).set k [RV.v (.i .i64 l[m])])[m]'h = [RV.v (.i .i64 l[m])] := fun h => by
      rw [List.getElem_set_ne hkm, vrows_at, List.getElem_map, hRm]; rfl
    have e3 : (vrows ((R.set k l[m]).map irow)).set m [RV.v (.i .i64 l[k])] = vrows (((R.set k l[m]).set m l[k]).map irow) := by simp [vrows, List.map_set, irow]
    rw [e2, e1]
    refine ⟨by simp, k + 1, ⟨by rw [hw1]; rfl, by omega⟩, ?_, by omega, by omega⟩
    simp only [List.set_cons_zero]
    rw [e3, hst]
    rfl
  · have hI : ¬ (k : Int) < (l.length : Int) - 1 - (k : Int) := by omega
    have hr := revN_half l (k := k) (by omega)
    rw [hr]
    simp [hI]
theorem past_all (t : List Ev) (ht : t.length < 4611686018427387904) (i : Int) : PureS Try.prog 35 [.sl 26 (t.map Ev.row), .i .i64 i] (if askT t [i] = 0 then .tup [.sl 1 ((pastR t i.toNat).reverse.map nrow), .i .i64 0] else .tup [.nil, .i .i64 (askT t [i])]) := by
  refine fun_go hmx Try.func35 r35 s35 (by rw [Try.ntmps35]; simp) ?_
  unfold c35
  simp
  refine callg1 0 0 [.sl 26 (t.map Ev.row)] [] rfl Try.call60 (asked_p t [i] ht (by simp)) rfl rfl ?_
  by_cases h0 : askT t [i] = 0
  rotate_left
  · simp [h0, askV]
  obtain ⟨hG, hp⟩ := ask_ok h0
  obtain ⟨i, rfl⟩ : ∃ n : Nat, i = (n : Int) := ⟨i.toNat, by have := hp i (by simp); omega⟩
  have hi : i < t.length := by have := hp i (by simp); omega
  have hpl : (pastR t i).length < 1000000 := by
    have := pastD_len (p := fun j => befT t j i) i
    have := hG.len
    unfold pastR; omega
  simp [h0, askV, tabV]
  first
    | refine callk rfl Try.call61 (past_p t i) rfl ?_
    | refine callks rfl Try.call61 (past_p t i) rfl ?_
    | refine callq rfl Try.call61 (past_p t i) rfl ?_
    | refine callqe rfl Try.call61 (past_p t i) rfl ?_
  simp
  refine callo rfl Try.call72 (collect_p _ _ ((pastR t i).map nrow) (by intro x hx; simp only [List.mem_map] at hx; obtain ⟨n, _, rfl⟩ := hx; exact ⟨n, rfl⟩) (by simpa using hpl) (past_iter t hG i hi) Try.call96) ?_ ⟨.v _, trivial⟩ ?_
  · intro row hr x hx
    simp only [List.mem_map] at hr
    obtain ⟨n, _, rfl⟩ := hr
    simp [nrow] at hx; subst hx; exact .i _ _
  have hL : (pastR t i).map nrow = ((pastR t i).map fun n : Nat => (n : Int)).map irow := by simp
  rw [hL]
  simp
  refine callf [2] rfl Try.call73 (reverse_p ((pastR t i).map fun n : Nat => (n : Int)) 0 (by simpa using hpl)) (by decide) rfl (by simp) (by simp) (by simp) ?_
  rintro _ _ rfl
  simp
end Go.Sc.Or
/- Chapter 12: Height and Lasts. No condition. -/
set_option linter.constructorNameAsVariable false
namespace Go.Sc.Or
open Go Go.RowKit Go.Av Go.Proofs Go.Sc
set_option linter.unusedSimpArgs false
set_option linter.unusedVariables false
def c24 : ACode :=
  (.seq (.reg none [⟨some 2, none, .q (.mv (.c (.i .i64 0)))⟩, ⟨some 3, none, .q (.mv (.c (.i .i64 0)))⟩])
  (.keep [0]
  (.seq (.reg none [⟨some 11, none, .q (.mv (.t 0))⟩, ⟨some 12, none, .call (.f 60) [(.t 11), (.c .nil)]⟩, ⟨some 10, none, .q (.mv (.t 12))⟩, ⟨some 13, none, .q (.ext 0 (.t 10))⟩, ⟨some 14, none, .q (.ext 1 (.t 10))⟩, ⟨some 4, none, .m (.alloc (.g [.nil, .nil]))⟩, ⟨none, none, .m (.st 2 (.t 4) (.t 13))⟩, ⟨some 5, none, .q (.mv (.t 14))⟩])
  (.keep [0, 4, 5]
  (.seq (.seq (.gst (.pimT 4)
      (.reg none [⟨some 15, none, .q (.mv (.t 5))⟩, ⟨some 16, none, .q (.bin .neq (.t 15) (.c (.i .i64 0)))⟩]))
    (.keep [0, 4, 5, 16]
    (.cond (.t 16) (.seq (.reg none [⟨some 17, none, .q (.mv (.t 5))⟩, ⟨some 2, none, .q (.mv (.c (.i .i64 0)))⟩, ⟨some 3, none, .q (.mv (.t 17))⟩])
      .ret)
    .skip)))
  (.seq (.reg none [⟨some 18, none, .q (.mv (.t 0))⟩, ⟨some 19, none, .q (.len false (.t 18))⟩, ⟨some 20, none, .m (.mks 1 8 [(.i .i64 0)] (.t 19) (.t 19))⟩, ⟨some 6, none, .m (.alloc .nil)⟩, ⟨none, none, .m (.st 1 (.t 6) (.t 20))⟩])
  (.keep [0, 4, 6]
  (.seq (.reg none [⟨some 7, none, .q (.mv (.c (.i .i64 0)))⟩])
  (.keep [0, 4, 6, 7]
  (.seq (.seq (.reg none [⟨some 21, none, .q (.mv (.t 0))⟩, ⟨some 22, none, .q (.len false (.t 21))⟩, ⟨some 23, none, .q (.mv (.c (.i .i64 0)))⟩])
    (.keep [4, 6, 7, 22, 23]
    (.blk 0 (.keep [4, 6, 7, 22, 23]
    (.loop (.fin [4, 6, 7, 22, 23]
      (.seq (.reg none [⟨some 24, none, .q (.bin .lss (.t 23) (.t 22))⟩])
      (.keep [4, 6, 7, 22, 23, 24]
      (.seq (.cond (.t 24) .skip
        (.exit 0))
      (.seq (.blk 1 (.seq (.reg none [⟨some 25, none, .q (.mv (.t 23))⟩, ⟨some 8, none, .m (.alloc (.i .i64 0))⟩, ⟨none, none, .m (.st 1 (.t 8) (.t 25))⟩])
        (.keep [4, 6, 7, 8, 22, 23]
        (.seq (.seq (.reg none [⟨some 26, none, .q (.ld (some 2) (.t 4))⟩, ⟨some 27, none, .q (.ld none (.t 8))⟩, ⟨some 28, none, .call (.f 61) [(.t 26), (.t 27)]⟩])
          (.keep [4, 6, 7, 8, 22, 23, 28]
          (.blk 2 (.keep [4, 6, 7, 8, 22, 23, 28]
          (.rf (.t 28) [29] (.keep [6, 8, 29]
            (.reg none [⟨some 9, none, .q (.mv (.t 29))⟩]))
          (.keep [6, 8, 9]
            (.blk 3 (.reg (some (12, [])) [⟨some 30, none, .q (.ld none (.t 6))⟩, ⟨some 31, none, .q (.ld none (.t 8))⟩, ⟨some 32, none, .q (.ld none (.t 6))⟩, ⟨some 33, none, .q (.ld none (.t 8))⟩, ⟨some 34, none, .q (.ias 1 (.t 32) (.t 33))⟩, ⟨some 35, none, .q (.ld none (.t 34))⟩, ⟨some 36, none, .q (.ld none (.t 6))⟩, ⟨some 37, none, .q (.mv (.t 9))⟩, ⟨some 38, none, .q (.ias 1 (.t 36) (.t 37))⟩, ⟨some 39, none, .q (.ld none (.t 38))⟩, ⟨some 40, none, .q (.mx true (.t 35) (.t 39))⟩, ⟨some 41, none, .q (.ias 1 (.t 30) (.t 31))⟩, ⟨none, none, .m (.st 1 (.t 41) (.t 40))⟩]))))))))
        (.seq (.reg none [⟨some 42, none, .q (.ld none (.t 6))⟩, ⟨some 43, none, .q (.ld none (.t 8))⟩, ⟨some 44, none, .q (.ias 1 (.t 42) (.t 43))⟩, ⟨some 45, none, .q (.ld none (.t 44))⟩, ⟨some 46, none, .q (.bin .add (.t 45) (.c (.i .i64 1)))⟩, ⟨some 47, none, .q (.ias 1 (.t 42) (.t 43))⟩, ⟨none, none, .m (.st 1 (.t 47) (.t 46))⟩])
        (.keep [4, 6, 7, 8, 22, 23]
        (.reg none [⟨some 48, none, .q (.mv (.t 7))⟩, ⟨some 49, none, .q (.ld none (.t 6))⟩, ⟨some 50, none, .q (.ld none (.t 8))⟩, ⟨some 51, none, .q (.ias 1 (.t 49) (.t 50))⟩, ⟨some 52, none, .q (.ld none (.t 51))⟩, ⟨some 53, none, .q (.mx true (.t 48) (.t 52))⟩, ⟨some 7, none, .q (.mv (.t 53))⟩])))))))
      (.keep [4, 6, 7, 22, 23]
      (.reg none [⟨some 54, none, .q (.bin .add (.t 23) (.c (.i .i64 1)))⟩, ⟨some 23, none, .q (.mv (.t 54))⟩]))))))))))))
  (.seq (.reg none [⟨some 55, none, .q (.mv (.t 7))⟩, ⟨some 2, none, .q (.mv (.t 55))⟩, ⟨some 3, none, .q (.mv (.c (.i .i64 0)))⟩])
  .ret)))))))))))
theorem r24 : (Try.f24.body.bind (resC Try.prog Try.f24.ntmps)) = some (strip c24) := by kernel_rfl
theorem s24 : Try.f24.results.toList.mapM (resRes Try.prog) = some [.t 2, .t 3] := by kernel_rfl
def c28 : ACode :=
  (.seq (.reg none [⟨some 2, none, .q (.mv (.c .nil))⟩, ⟨some 3, none, .q (.mv (.c (.i .i64 0)))⟩])
  (.keep [0]
  (.seq (.reg none [⟨some 13, none, .q (.mv (.t 0))⟩, ⟨some 14, none, .call (.f 60) [(.t 13), (.c .nil)]⟩, ⟨some 12, none, .q (.mv (.t 14))⟩, ⟨some 15, none, .q (.ext 0 (.t 12))⟩, ⟨some 16, none, .q (.ext 1 (.t 12))⟩, ⟨some 4, none, .m (.alloc (.g [.nil, .nil]))⟩, ⟨none, none, .m (.st 2 (.t 4) (.t 15))⟩, ⟨some 5, none, .q (.mv (.t 16))⟩])
  (.keep [0, 4, 5]
  (.seq (.seq (.gst (.pimT 4)
      (.reg none [⟨some 17, none, .q (.mv (.t 5))⟩, ⟨some 18, none, .q (.bin .neq (.t 17) (.c (.i .i64 0)))⟩]))
    (.keep [0, 4, 5, 18]
    (.cond (.t 18) (.seq (.reg none [⟨some 19, none, .q (.mv (.t 5))⟩, ⟨some 2, none, .q (.mv (.c .nil))⟩, ⟨some 3, none, .q (.mv (.t 19))⟩])
      .ret)
    .skip)))
  (.seq (.reg none [⟨some 20, none, .q (.mv (.t 0))⟩, ⟨some 21, none, .q (.len false (.t 20))⟩, ⟨some 22, none, .m (.mks 1 8 [(.i .i64 0)] (.t 21) (.t 21))⟩, ⟨some 6, none, .m (.alloc .nil)⟩, ⟨none, none, .m (.st 1 (.t 6) (.t 22))⟩])
  (.keep [0, 4, 6]
  (.seq (.seq (.reg none [⟨some 23, none, .q (.mv (.t 0))⟩, ⟨some 24, none, .q (.len false (.t 23))⟩, ⟨some 25, none, .q (.mv (.c (.i .i64 0)))⟩])
    (.keep [4, 6, 24, 25]
    (.blk 0 (.keep [4, 6, 24, 25]
    (.loop (.fin [4, 6, 24, 25]
      (.seq (.reg none [⟨some 26, none, .q (.bin .lss (.t 25) (.t 24))⟩])
      (.keep [4, 6, 24, 25, 26]
      (.seq (.cond (.t 26) .skip
        (.exit 0))
      (.seq (.blk 1 (.seq (.reg none [⟨some 27, none, .q (.mv (.t 25))⟩, ⟨some 7, none, .q (.mv (.t 27))⟩])
        (.keep [4, 6, 7, 24, 25]
        (.seq (.reg none [⟨some 28, none, .q (.ld (some 2) (.t 4))⟩, ⟨some 29, none, .q (.mv (.t 7))⟩, ⟨some 30, none, .call (.f 61) [(.t 28), (.t 29)]⟩])
        (.keep [4, 6, 24, 25, 30]
        (.blk 2 (.keep [4, 6, 24, 25, 30]
        (.rf (.t 30) [31] (.keep [6, 31]
          (.reg none [⟨some 8, none, .q (.mv (.t 31))⟩]))
        (.keep [6, 8]
          (.blk 3 (.reg none [⟨some 32, none, .q (.ld none (.t 6))⟩, ⟨some 33, none, .q (.mv (.t 8))⟩, ⟨some 34, none, .q (.ias 1 (.t 32) (.t 33))⟩, ⟨none, none, .m (.st 1 (.t 34) (.c (.i .i64 1)))⟩])))))))))))
      (.keep [4, 6, 24, 25]
      (.reg none [⟨some 35, none, .q (.bin .add (.t 25) (.c (.i .i64 1)))⟩, ⟨some 25, none, .q (.mv (.t 35))⟩]))))))))))))
  (.seq (.reg none [⟨some 9, none, .q (.mv (.c .nil))⟩])
  (.gst (.nilT 9 1)
  (.keep [6, 9]
  (.seq (.seq (.reg none [⟨some 36, none, .q (.ld none (.t 6))⟩, ⟨some 37, none, .q (.len false (.t 36))⟩, ⟨some 38, none, .q (.mv (.c (.i .i64 0)))⟩])
    (.keep [9, 36, 37, 38]
    (.blk 4 (.keep [9, 36, 37, 38]
    (.loop (.fin [9, 36, 37, 38]
      (.seq (.reg none [⟨some 39, none, .q (.bin .lss (.t 38) (.t 37))⟩])
      (.keep [9, 36, 37, 38, 39]
      (.seq (.cond (.t 39) .skip
        (.exit 4))
      (.seq (.blk 5 (.seq (.reg none [⟨some 40, none, .q (.mv (.t 38))⟩, ⟨some 41, none, .q (.ias 1 (.t 36) (.t 38))⟩, ⟨some 42, none, .q (.ld none (.t 41))⟩, ⟨some 10, none, .q (.mv (.t 40))⟩, ⟨some 11, none, .q (.mv (.t 42))⟩])
        (.keep [9, 10, 11, 36, 37, 38]
        (.seq (.reg none [⟨some 43, none, .q (.mv (.t 11))⟩, ⟨some 44, none, .q (.bin .eql (.t 43) (.c (.i .i64 0)))⟩])
        (.keep [9, 10, 36, 37, 38, 44]
        (.cond (.t 44) (.reg none [⟨some 45, none, .q (.mv (.t 9))⟩, ⟨some 46, none, .q (.mv (.t 10))⟩, ⟨some 47, none, .m (.bsl 1 1 [(.i .i64 0)] [(0, 1, .t 46)])⟩, ⟨some 48, none, .m (.app 1 8 (.t 45) (.t 47))⟩, ⟨some 9, none, .q (.mv (.t 48))⟩])
        .skip))))))
      (.keep [9, 36, 37, 38]
      (.reg none [⟨some 49, none, .q (.bin .add (.t 38) (.c (.i .i64 1)))⟩, ⟨some 38, none, .q (.mv (.t 49))⟩]))))))))))))
  (.seq (.gst (.letT 9 1)
    (.reg none [⟨some 50, none, .q (.mv (.t 9))⟩, ⟨some 2, none, .q (.mv (.t 50))⟩, ⟨some 3, none, .q (.mv (.c (.i .i64 0)))⟩]))
  .ret)))))))))))))
theorem r28 : (Try.f28.body.bind (resC Try.prog Try.f28.ntmps)) = some (strip c28) := by kernel_rfl
theorem s28 : Try.f28.results.toList.mapM (resRes Try.prog) = some [.t 2, .t 3] := by kernel_rfl
theorem if_max (a b : Int) : (if a < b then b else a) = max a b := by rw [Int.max_def]; split <;> split <;> omega
theorem height_all (t : List Ev) (ht : t.length < 4611686018427387904) : PureS Try.prog 24 [.sl 26 (t.map Ev.row)] (.tup [.i .i64 (if checkT t = 0 then mostT t t.length else 0), .i .i64 (checkT t)]) := by
  refine fun_go hmx Try.func24 r24 s24 (by rw [Try.ntmps24]; simp) ?_
  unfold c24
  simp
  first
    | refine callk rfl Try.call60 (asked_nil t ht) rfl ?_
    | refine callks rfl Try.call60 (asked_nil t ht) rfl ?_
    | refine callq rfl Try.call60 (asked_nil t ht) rfl ?_
    | refine callqe rfl Try.call60 (asked_nil t ht) rfl ?_
  by_cases h0 : checkT t = 0
  rotate_left
  · simp [askV, askT, h0]
  have hG := good_of h0
  have hl := hG.len
  simp [askV, askT, h0, tabV]
  refine ⟨by omega, ?_⟩
  refine go_while hmx 3 (fun (j : Nat) => [(7, .v (.i .i64 (mostT t j))), (23, .v (.i .i64 (j : Int)))]) (fun j => [.none, .arr 0 1 (vrows ((hstC t j).map irow)), .var [.os 1 0]]) (fun j => j ≤ t.length) (fun j => t.length - j) 0 rfl (by simp [mostT]) ?_ (by simp) (by simp) (by simp) (Nat.zero_le _) ?_
  · simp [hstC, hvL, vrows, irow]
  intro j hj
  by_cases hjl : j < t.length
  · have hI : (j : Int) < (t.length : Int) := by omega
    have hw : IntKind.i64.wrap ((j : Int) + 1) = (j : Int) + 1 := wrap_in (by omega) (by omega)
    simp [hI]
    first
      | refine callk rfl Try.call61 (past_p t j) rfl ?_
      | refine callks rfl Try.call61 (past_p t j) rfl ?_
      | refine callq rfl Try.call61 (past_p t j) rfl ?_
      | refine callqe rfl Try.call61 (past_p t j) rfl ?_
    simp
    refine go_rf hmx rfl Try.call96 (past_iter t hG j hjl) (by simp [nrow]) (fun c h => h = [.none, .arr 0 1 (vrows ((hstJ t j c).map irow)), .var [.os 1 0], .var [.v (.i .i64 (j : Int))]]) ?_ (by rw [hstJ_zero hjl]) ?_ ?_ ?_
    · rintro c h rfl
      simp
    · simp
    · rintro l c h hc rfl
      have hcl : c < (pastR t j).length := by simpa using hc
      have hx := List.getElem?_eq_getElem hcl
      generalize hgx : (pastR t j)[c] = x at hx
      have hxj := past_lt (List.mem_of_getElem? hx)
      have hst := hstJ_step hjl hx
      have hSl := hstJ_length (t := t) (c := c) hj
      have hSj := hstJ_at (c := c) hjl
      have hSx := hstJ_low (c := c) hxj hj
      obtain ⟨S, hS⟩ : ∃ S, hstJ t j c = S := ⟨_, rfl⟩
      rw [hS] at hst hSl hSj hSx ⊢
      have hj' : j < S.length := by omega
      have hx' : x < S.length := by omega
      have hSj' : S[j] = maxOver (hvL t j) ((pastR t j).take c) := by rw [List.getElem?_eq_getElem hj'] at hSj; exact Option.some.inj hSj
      have hSx' : S[x] = hvAt t x := by rw [List.getElem?_eq_getElem hx'] at hSx; exact Option.some.inj hSx
      simp [nrow, hgx, hj', hx', vrows_at, hSj', hSx', irow]
      rw [hst, if_max]
      simp [vrows, List.map_set, irow]
    · rintro h rfl
      have hSl := hstJ_length (t := t) (c := (pastR t j).length) hj
      have hSj := hstJ_at (c := (pastR t j).length) hjl
      rw [List.take_length] at hSj
      simp only [List.length_map]
      obtain ⟨S, hS⟩ : ∃ S, hstJ t j (pastR t j).length = S := ⟨_, rfl⟩
      rw [hS] at hSl hSj ⊢
      have hj' : j < S.length := by omega
      have hSj' : S[j] = maxOver (hvL t j) (pastR t j) := by rw [List.getElem?_eq_getElem hj'] at hSj; exact Option.some.inj hSj
      simp [hj', vrows_at, hSj', irow]
      have he := hvAt_eq t j
      have hsm := hvAt_small t j
      have hps := hvAt_pos t j
      have hw2 : IntKind.i64.wrap (maxOver (hvL t j) (pastR t j) + 1) = hvAt t j := by rw [he]; exact wrap_in (by omega) (by omega)
      rw [hw2, if_max]
      refine ⟨j + 1, ⟨rfl, by rw [hw]; rfl⟩, ?_, by omega, by omega⟩
      rw [hstC_succ hjl]
      have : S.set j (hvAt t j) = (hstC t j).set j (hvAt t j) := by rw [← hS, hstJ, List.set_set]
      rw [← this]
      simp [vrows, List.map_set, irow]
  · obtain rfl : j = t.length := by omega
    simp
theorem lasts_all (t : List Ev) (ht : t.length < 4611686018427387904) : PureS Try.prog 28 [.sl 26 (t.map Ev.row)] (.tup [if checkT t = 0 then .sl 1 ((lastsT t).map nrow) else .nil, .i .i64 (checkT t)]) := by
  refine fun_go hmx Try.func28 r28 s28 (by rw [Try.ntmps28]; simp) ?_
  unfold c28
  simp
  first
    | refine callk rfl Try.call60 (asked_nil t ht) rfl ?_
    | refine callks rfl Try.call60 (asked_nil t ht) rfl ?_
    | refine callq rfl Try.call60 (asked_nil t ht) rfl ?_
    | refine callqe rfl Try.call60 (asked_nil t ht) rfl ?_
  by_cases h0 : checkT t = 0
  rotate_left
  · simp [askV, askT, h0]
  have hG := good_of h0
  have hl := hG.len
  simp [askV, askT, h0, tabV]
  refine ⟨by omega, ?_⟩
  refine go_while hmx 3 (fun (j : Nat) => [(25, .v (.i .i64 (j : Int)))]) (fun j => [.none, .arr 0 1 (vrows ((opL t j).map irow)), .var [.os 1 0]]) (fun j => j ≤ t.length) (fun j => t.length - j) 0 rfl (by simp) ?_ (by simp) (by simp) (by simp) (Nat.zero_le _) ?_
  · simp [opL, vrows, irow]
  intro j hj
  by_cases hjl : j < t.length
  · have hI : (j : Int) < (t.length : Int) := by omega
    have hw : IntKind.i64.wrap ((j : Int) + 1) = (j : Int) + 1 := wrap_in (by omega) (by omega)
    simp [hI]
    first
      | refine callk rfl Try.call61 (past_p t j) rfl ?_
      | refine callks rfl Try.call61 (past_p t j) rfl ?_
      | refine callq rfl Try.call61 (past_p t j) rfl ?_
      | refine callqe rfl Try.call61 (past_p t j) rfl ?_
    simp
    refine go_rf hmx rfl Try.call96 (past_iter t hG j hjl) (by simp [nrow]) (fun c h => h = [.none, .arr 0 1 (vrows ((opJ t j c).map irow)), .var [.os 1 0]]) ?_ (by simp [opJ]) ?_ ?_ ?_
    · rintro c h rfl
      simp
    · simp
    · rintro l c h hc rfl
      have hcl : c < (pastR t j).length := by simpa using hc
      have hx := List.getElem?_eq_getElem hcl
      generalize hgx : (pastR t j)[c] = x at hx
      have hxj := past_lt (List.mem_of_getElem? hx)
      have hst := opJ_step hx
      have hSl := opJ_length t j c
      obtain ⟨S, hS⟩ : ∃ S, opJ t j c = S := ⟨_, rfl⟩
      rw [hS] at hst hSl ⊢
      have hx' : x < S.length := by omega
      simp [nrow, hgx, hx', vrows_at, irow]
      rw [hst]
      simp [vrows, List.map_set, irow]
    · rintro h rfl
      simp only [List.length_map, opJ_all]
      simp [hw]
      exact ⟨j + 1, rfl, rfl, by omega, by omega⟩
  · obtain rfl : j = t.length := by omega
    simp
    refine go_while hmx 4 (fun (s : Nat × Nat) => [(9, .os 3 s.2), (38, .v (.i .i64 (s.1 : Int)))]) (fun s => [.none, .arr 0 1 (vrows ((opL t t.length).map irow)), .var [.os 1 0], .arr s.2 1 (vrows (((List.range s.1).filter fun i => decide ((opL t t.length).getD i 0 = 0)).map nrow))]) (fun s => s.1 ≤ t.length) (fun s => t.length - s.1) (0, 0) rfl (by simp) rfl (by simp) (by simp) (by simp) (Nat.zero_le _) ?_
    rintro ⟨k, v⟩ hk
    simp only at hk
    have hS := opL_length t t.length
    unfold lastsT
    generalize opL t t.length = S at *
    by_cases hkl : k < t.length
    · have hI : (k : Int) < (t.length : Int) := by omega
      have hw : IntKind.i64.wrap ((k : Int) + 1) = (k : Int) + 1 := wrap_in (by omega) (by omega)
      have hk' : k < S.length := by omega
      have hfl := List.length_filter_le (fun i => decide (S.getD i 0 = 0)) (List.range k)
      have hgd : S.getD k 0 = S[k] := by rw [List.getD_eq_getElem?_getD, List.getElem?_eq_getElem hk']; rfl
      have hrs : (List.range (k + 1)).filter (fun i => decide (S.getD i 0 = 0)) = (List.range k).filter (fun i => decide (S.getD i 0 = 0)) ++ if S[k] = 0 then [k] else [] := by
        rw [List.range_succ, List.filter_append, List.filter_cons, hgd]
        by_cases e : S[k] = 0 <;> simp [e]
      rw [List.length_range] at hfl
      obtain ⟨F, hF⟩ : ∃ F, (List.range k).filter (fun i => decide (S.getD i 0 = 0)) = F := ⟨_, rfl⟩
      rw [hF] at hrs hfl ⊢
      simp [hI, hS, hkl, hk', vrows_at, irow]
      simp only [List.getD_eq_getElem?_getD] at hrs
      refine ⟨fun hz => ⟨⟨by omega, by omega⟩, k + 1, v + 1, ⟨rfl, by rw [hw]; rfl⟩, ⟨rfl, ?_⟩, by omega, by omega⟩, fun hz => ⟨k + 1, v, ⟨rfl, by rw [hw]; rfl⟩, ⟨rfl, ?_⟩, by omega, by omega⟩⟩
      · rw [hrs, if_pos hz]; simp [vrows, nrow]
      · rw [hrs, if_neg hz]; simp
    · obtain rfl : k = t.length := by omega
      simp [hS]
end Go.Sc.Or
