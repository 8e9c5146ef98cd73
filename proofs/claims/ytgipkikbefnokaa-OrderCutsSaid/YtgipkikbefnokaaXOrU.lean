/- Chapter 12: lists of places: sorted, cloned, closed. No condition. -/
import Derived.Test.YtgipkikbefnokaaXOrT
import Derived.Test.YtgipkikbefnokaaXAv24
import Derived.Test.YtgipkikbefnokaaXSrt
set_option linter.constructorNameAsVariable false
namespace Go.Sc.Or
open Go Go.RowKit Go.Av Go.Proofs Go.Sc Go.Shelf Go.Sort Go.Sc.Srt
set_option linter.unusedSimpArgs false
set_option linter.unusedVariables false
/-- slices.Clone[[]int,int] -/
def c108 : ACode :=
  (.seq (.reg none [⟨some 2, none, .q (.mv (.c .nil))⟩])
  (.keep [0]
  (.seq (.seq (.reg none [⟨some 3, none, .q (.mv (.t 0))⟩, ⟨some 4, none, .q (.isn false true (.t 3))⟩])
    (.keep [0, 4]
    (.cond (.t 4) (.seq (.reg none [⟨some 2, none, .q (.mv (.c .nil))⟩])
      .ret)
    .skip)))
  (.seq (.reg none [⟨some 5, none, .m (.bsl 0 1 [(.i .i64 0)] [])⟩, ⟨some 6, none, .q (.mv (.t 0))⟩, ⟨some 7, none, .m (.app 1 8 (.t 5) (.t 6))⟩, ⟨some 2, none, .q (.mv (.t 7))⟩])
  .ret))))
theorem r108 : (Try.f108.body.bind (resC Try.prog Try.f108.ntmps)) = some (strip c108) := by kernel_rfl
theorem s108 : Try.f108.results.toList.mapM (resRes Try.prog) = some [.t 2] := by kernel_rfl
/-- slices.AppendSeq[[]int,int] -/
def c102 : ACode :=
  (.seq (.reg none [⟨some 2, none, .m (.box (.t 0))⟩, ⟨some 4, none, .q (.mv (.c .nil))⟩])
  (.keep [1, 2]
  (.seq (.seq (.reg none [⟨some 6, none, .q (.mv (.t 1))⟩])
    (.keep [2, 6]
    (.blk 0 (.keep [2, 6]
    (.rf (.t 6) [7] (.keep [2, 7]
      (.reg none [⟨some 5, none, .q (.mv (.t 7))⟩]))
    (.keep [2, 5]
      (.blk 1 (.reg none [⟨some 8, none, .q (.ld none (.t 2))⟩, ⟨some 9, none, .q (.mv (.t 5))⟩, ⟨some 10, none, .m (.bsl 1 1 [(.i .i64 0)] [(0, 1, .t 9)])⟩, ⟨some 11, none, .m (.app 1 8 (.t 8) (.t 10))⟩, ⟨none, none, .m (.st 1 (.t 2) (.t 11))⟩]))))))))
  (.seq (.reg none [⟨some 12, none, .q (.ld none (.t 2))⟩, ⟨some 4, none, .q (.mv (.t 12))⟩])
  .ret))))
theorem r102 : (Try.f102.body.bind (resC Try.prog Try.f102.ntmps)) = some (strip c102) := by kernel_rfl
theorem s102 : Try.f102.results.toList.mapM (resRes Try.prog) = some [.t 4] := by kernel_rfl
/-- slices.Values[[]int,int]$1 -/
def c107 : ACode :=
  (.seq (.reg none [⟨some 5, none, .q (.ld none (.t 1))⟩, ⟨some 6, none, .q (.len false (.t 5))⟩, ⟨some 7, none, .q (.mv (.c (.i .i64 0)))⟩])
  (.keep [0, 5, 6, 7]
  (.blk 0 (.keep [0, 5, 6, 7]
  (.loop (.fin [0, 5, 6, 7]
    (.seq (.reg none [⟨some 8, none, .q (.bin .lss (.t 7) (.t 6))⟩])
    (.keep [0, 5, 6, 7, 8]
    (.seq (.cond (.t 8) .skip
      (.exit 0))
    (.seq (.blk 1 (.seq (.reg none [⟨some 9, none, .q (.ias 1 (.t 5) (.t 7))⟩, ⟨some 10, none, .q (.ld none (.t 9))⟩, ⟨some 4, none, .q (.mv (.t 10))⟩])
      (.keep [0, 4, 5, 6, 7]
      (.seq (.reg none [⟨some 11, none, .q (.mv (.t 0))⟩, ⟨some 12, none, .q (.mv (.t 4))⟩, ⟨some 13, none, .call (.t 11) [(.t 12)]⟩, ⟨some 14, none, .q (.un .not (.t 13))⟩])
      (.keep [0, 5, 6, 7, 14]
      (.cond (.t 14) .ret
      .skip))))))
    (.keep [0, 5, 6, 7]
    (.reg none [⟨some 15, none, .q (.bin .add (.t 7) (.c (.i .i64 1)))⟩, ⟨some 7, none, .q (.mv (.t 15))⟩]))))))))))))
theorem r107 : (Try.f107.body.bind (resC Try.prog Try.f107.ntmps)) = some (strip c107) := by kernel_rfl
theorem s107 : Try.f107.results.toList.mapM (resRes Try.prog) = some [] := by kernel_rfl
/-- slices.Values[[]int,int] -/
def c86 : ACode :=
  (.seq (.reg none [⟨some 1, none, .m (.box (.t 0))⟩, ⟨some 2, none, .q (.mv (.c .nf))⟩])
  (.keep [1]
  (.seq (.gst (.pimT 1)
    (.reg none [⟨some 3, none, .q (.mkf 107 [(.t 1)])⟩, ⟨some 2, none, .q (.mv (.t 3))⟩]))
  .ret)))
theorem r86 : (Try.f86.body.bind (resC Try.prog Try.f86.ntmps)) = some (strip c86) := by kernel_rfl
theorem s86 : Try.f86.results.toList.mapM (resRes Try.prog) = some [.t 2] := by kernel_rfl
/-- slices.Sorted[int] -/
def c85 : ACode :=
  (.seq (.reg none [⟨some 2, none, .q (.mv (.c .nil))⟩])
  (.keep [0]
  (.seq (.reg none [⟨some 4, none, .q (.mv (.t 0))⟩, ⟨some 5, none, .call (.f 72) [(.t 4)]⟩, ⟨some 3, none, .q (.mv (.t 5))⟩])
  (.keep [3]
  (.seq (.reg none [⟨some 6, none, .q (.mv (.t 3))⟩, ⟨some 7, none, .call (.f 106) [(.t 6)]⟩])
  (.keep [3]
  (.seq (.reg none [⟨some 8, none, .q (.mv (.t 3))⟩, ⟨some 2, none, .q (.mv (.t 8))⟩])
  .ret)))))))
theorem r85 : (Try.f85.body.bind (resC Try.prog Try.f85.ntmps)) = some (strip c85) := by kernel_rfl
theorem s85 : Try.f85.results.toList.mapM (resRes Try.prog) = some [.t 2] := by kernel_rfl
/-- slices.Compact[[]int,int] -/
def c87 : ACode :=
  (.seq (.reg none [⟨some 2, none, .q (.mv (.c .nil))⟩])
  (.gst (.cutT 2)
  (.keep [0]
  (.seq (.seq (.reg none [⟨some 6, none, .q (.mv (.t 0))⟩, ⟨some 7, none, .q (.len false (.t 6))⟩, ⟨some 8, none, .q (.bin .lss (.t 7) (.c (.i .i64 2)))⟩])
    (.keep [0, 8]
    (.cond (.t 8) (.seq (.reg none [⟨some 9, none, .q (.mv (.t 0))⟩, ⟨some 2, none, .q (.mv (.t 9))⟩])
      (.gst (.cutT 2)
      .ret))
    .skip)))
  (.seq (.seq (.reg none [⟨some 3, none, .q (.mv (.c (.i .i64 1)))⟩])
    (.keep [0, 3]
    (.blk 0 (.keep [0, 3]
    (.loop (.fin [0, 3]
      (.seq (.seq (.reg none [⟨some 10, none, .q (.mv (.t 3))⟩, ⟨some 11, none, .q (.mv (.t 0))⟩, ⟨some 12, none, .q (.len false (.t 11))⟩, ⟨some 13, none, .q (.bin .lss (.t 10) (.t 12))⟩])
        (.keep [0, 3, 13]
        (.cond (.t 13) .skip
        (.exit 0))))
      (.seq (.blk 1 (.seq (.reg (some (10, [])) [⟨some 16, none, .q (.mv (.t 0))⟩, ⟨some 17, none, .q (.mv (.t 3))⟩, ⟨some 18, none, .q (.ias 1 (.t 16) (.t 17))⟩, ⟨some 19, none, .q (.ld none (.t 18))⟩, ⟨some 20, none, .q (.mv (.t 0))⟩, ⟨some 21, none, .q (.mv (.t 3))⟩, ⟨some 22, none, .q (.bin .sub (.t 21) (.c (.i .i64 1)))⟩, ⟨some 23, none, .q (.ias 1 (.t 20) (.t 22))⟩, ⟨some 24, none, .q (.ld none (.t 23))⟩, ⟨some 25, none, .q (.bin .eql (.t 19) (.t 24))⟩])
        (.keep [0, 3, 25]
        (.cond (.t 25) (.seq (.reg none [⟨some 26, none, .q (.mv (.t 0))⟩, ⟨some 27, none, .q (.mv (.t 3))⟩, ⟨some 28, none, .q (.sls 1 (.t 26) (some (.t 27)) none)⟩, ⟨some 4, none, .q (.mv (.t 28))⟩])
          (.keep [0, 3, 4]
          (.seq (.seq (.reg none [⟨some 5, none, .q (.mv (.c (.i .i64 1)))⟩])
            (.keep [0, 3, 4, 5]
            (.blk 2 (.keep [0, 3, 4, 5]
            (.loop (.fin [0, 3, 4, 5]
              (.seq (.seq (.reg none [⟨some 29, none, .q (.mv (.t 5))⟩, ⟨some 30, none, .q (.mv (.t 4))⟩, ⟨some 31, none, .q (.len false (.t 30))⟩, ⟨some 32, none, .q (.bin .lss (.t 29) (.t 31))⟩])
                (.keep [0, 3, 4, 5, 32]
                (.cond (.t 32) .skip
                (.exit 2))))
              (.seq (.blk 3 (.seq (.reg (some (10, [])) [⟨some 35, none, .q (.mv (.t 4))⟩, ⟨some 36, none, .q (.mv (.t 5))⟩, ⟨some 37, none, .q (.ias 1 (.t 35) (.t 36))⟩, ⟨some 38, none, .q (.ld none (.t 37))⟩, ⟨some 39, none, .q (.mv (.t 4))⟩, ⟨some 40, none, .q (.mv (.t 5))⟩, ⟨some 41, none, .q (.bin .sub (.t 40) (.c (.i .i64 1)))⟩, ⟨some 42, none, .q (.ias 1 (.t 39) (.t 41))⟩, ⟨some 43, none, .q (.ld none (.t 42))⟩, ⟨some 44, none, .q (.bin .neq (.t 38) (.t 43))⟩])
                (.keep [0, 3, 4, 5, 44]
                (.cond (.t 44) (.seq (.reg none [⟨some 45, none, .q (.mv (.t 0))⟩, ⟨some 46, none, .q (.mv (.t 3))⟩, ⟨some 47, none, .q (.mv (.t 4))⟩, ⟨some 48, none, .q (.mv (.t 5))⟩, ⟨some 49, none, .q (.ias 1 (.t 47) (.t 48))⟩, ⟨some 50, none, .q (.ld none (.t 49))⟩, ⟨some 51, none, .q (.ias 1 (.t 45) (.t 46))⟩, ⟨none, none, .m (.st 1 (.t 51) (.t 50))⟩])
                  (.keep [0, 3, 4, 5]
                  (.reg none [⟨some 52, none, .q (.mv (.t 3))⟩, ⟨some 53, none, .q (.bin .add (.t 52) (.c (.i .i64 1)))⟩, ⟨some 3, none, .q (.mv (.t 53))⟩])))
                .skip))))
              (.keep [0, 3, 4, 5]
              (.reg none [⟨some 33, none, .q (.mv (.t 5))⟩, ⟨some 34, none, .q (.bin .add (.t 33) (.c (.i .i64 1)))⟩, ⟨some 5, none, .q (.mv (.t 34))⟩]))))))))))
          (.seq (.reg none [⟨some 54, none, .q (.mv (.t 0))⟩, ⟨some 55, none, .q (.mv (.t 3))⟩, ⟨some 56, none, .q (.sls 1 (.t 54) (some (.t 55)) none)⟩, ⟨none, none, .m (.clr 1 [(.i .i64 0)] (.t 56))⟩])
          (.keep [0, 3]
          (.seq (.reg none [⟨some 57, none, .q (.mv (.t 0))⟩, ⟨some 58, none, .q (.mv (.t 3))⟩, ⟨some 59, none, .q (.sls 1 (.t 57) none (some (.t 58)))⟩, ⟨some 2, none, .q (.mv (.t 59))⟩])
          (.gst (.cutT 2)
          .ret)))))))
        .skip))))
      (.keep [0, 3]
      (.reg none [⟨some 14, none, .q (.mv (.t 3))⟩, ⟨some 15, none, .q (.bin .add (.t 14) (.c (.i .i64 1)))⟩, ⟨some 3, none, .q (.mv (.t 15))⟩]))))))))))
  (.seq (.reg none [⟨some 60, none, .q (.mv (.t 0))⟩, ⟨some 2, none, .q (.mv (.t 60))⟩])
  (.gst (.cutT 2)
  .ret)))))))
theorem r87 : (Try.f87.body.bind (resC Try.prog Try.f87.ntmps)) = some (strip c87) := by kernel_rfl
theorem s87 : Try.f87.results.toList.mapM (resRes Try.prog) = some [.t 2] := by kernel_rfl
def sortI (l : List Int) : List Int := l.mergeSort fun x y => decide (x ≤ y)
theorem int_enc : RowEnc irow (fun x : Int => [Value.int .i64 x]) 1 := ⟨fun _ => rfl, fun _ => rfl, fun x j a v h1 h2 => by
  rcases j with _ | j
  · simp [irow] at h1 h2; subst h1; subst h2; exact detV_i _ _
  · simp [irow] at h1, fun x v hv => by simp at hv; subst hv; rfl⟩
theorem sortI_p (l : List Int) (hl : l.length < 1000000) (v : Nat) : CallS Try.prog 106 [.os 0 v] [.arr v 1 (vrows (l.map irow))] fun r K => r = .v (.tup []) ∧ K = [.arr v 1 (vrows ((sortI l).map irow))] := by
  refine sort_bridge int_enc [] (List.length_mergeSort _) v (fun blk cap e vs g hn hv _ hH hblk h0 => ?_) (fun p cap w vs hn h0 => ?_)
  · obtain rfl : vs = #[] := Array.eq_empty_of_size_eq_zero hn
    have := AnyM.slices_Sort_int layI blk 0 cap l e.w (holds_one hH) hblk (by omega)
    simp only [put_one]
    simp [sortI]
    exact this
  · subst h0
    obtain rfl : vs = #[] := Array.eq_empty_of_size_eq_zero hn
    exact AnyM.slices_Sort_int_none layI p cap w
theorem sortN_p : PureS Try.prog 106 [.sl 1 []] (.tup []) := by
  intro e vs g hH hvn hv
  obtain ⟨c, hc⟩ := array_get (vs := vs) (j := 0) hvn (by simp)
  have hvs : vs = #[c] := by
    apply Array.ext (by simpa using hvn)
    intro i h1 h2
    simp at h2
    subst h2
    rw [Array.getElem?_eq_getElem h1] at hc
    exact Option.some.inj hc
  have hc2 := vr_v (hv 0 (.v (.sl 1 [])) c rfl hc)
  obtain ⟨p, cap, rfl⟩ : ∃ p cap, c = .slice p 0 cap := by
    generalize hr : ([] : List (List AV)) = rows at hc2
    cases hc2 with
    | sl _ _ b off cap f _ _ _ _ _ => subst hr; exact ⟨_, _, rfl⟩
    | sle _ a cap => exact ⟨_, _, rfl⟩
  subst hvs
  refine (callsIn_wide.2 (AnyM.slices_Sort_int_none layI p cap e.w)).mono ?_
  rintro E w' ⟨rfl, rfl⟩
  exact ⟨_, e, _, rfl, rfl, g, .refl, .v (.tup [] #[] rfl (fun j a c h => by simp at h)), rfl⟩
theorem clone_cons (x : Int) (l : List Int) (hl : l.length < 1000000) : Own1 Try.prog 108 [.sl 1 ((x :: l).map irow)] 1 ((x :: l).map irow) := by
  unfold Own1
  refine fun_go hmx Try.func108 r108 s108 (by rw [Try.ntmps108]; simp) ?_
  unfold c108
  simp
  omega
theorem clone_c (l : List Int) (hl : l.length < 1000000) (h0 : l ≠ []) : Own1 Try.prog 108 [.sl 1 (l.map irow)] 1 (l.map irow) := by
  cases l with
  | nil => exact absurd rfl h0
  | cons x l => exact clone_cons x l (by simp at hl; omega)
theorem clone_nil : PureS Try.prog 108 [.sl 1 []] (.sl 1 []) := by
  refine pure_of ?_
  refine fun_go hmx Try.func108 r108 s108 (by rw [Try.ntmps108]; simp) ?_
  unfold c108
  simp
  exact ⟨.nil 1, Frz.plain rfl⟩
theorem append_p (l : List Int) (v : Nat) (gid : Nat) (caps : List AV) (m : List Int) (hl : l.length + m.length < 10000000) (it : IterS Try.prog gid caps (m.map irow)) (hc : ∀ vs w, (callFunc gid vs).run Try.prog w = .ok (.enter gid vs) w) :
    CallS Try.prog 102 [.os 0 v, .v (.fn gid caps)] [.arr v 1 (vrows (l.map irow))] fun r K => ∃ v', r = .os 0 v' ∧ K = [.arr v' 1 (vrows ((l ++ m).map irow))] := by
  refine fun_cut 1 hmx Try.func102 r102 s102 (by rw [Try.ntmps102]; simp) (by first | exact Nat.le_refl _ | decide | simp) ?_
  unfold c102
  simp
  refine go_rf hmx rfl hc it ?_ (fun k h => ∃ v, h = [.arr v 1 (vrows ((l ++ m.take k).map irow)), .var [.os 0 v]]) ?_ ⟨v, by simp⟩ ?_ ?_ ?_
  · rintro x hx; simp only [List.mem_map] at hx; obtain ⟨n, _, rfl⟩ := hx; rfl
  · rintro k h ⟨v, rfl⟩
    simp
  · simp
  · rintro i k h hk ⟨v, rfl⟩
    have hk' : k < m.length := by simpa using hk
    have hts := List.take_succ_eq_append_getElem hk'
    simp [irow]
    exact ⟨by omega, [.arr (v + 1) 1 (vrows (List.map irow l ++ List.take k (List.map irow m)) ++ [[.v (.i .i64 m[k])]]), .var [.os 0 (v + 1)]], ⟨[.arr 0 1 [[.v (.i .i64 m[k])]]], rfl⟩, v + 1, by
      have htm : (m.map irow).take (k + 1) = (m.map irow).take k ++ [irow m[k]] := by rw [List.take_add_one, List.getElem?_eq_getElem (by simpa using hk')]; simp
      rw [htm]; simp [vrows, irow]⟩
  · rintro h ⟨v, rfl⟩
    simp
theorem values_it (l : List Int) (hl : l.length < 1000000) : IterS Try.prog 107 [.pim [.sl 1 (l.map irow)]] (l.map irow) := by
  intro li s H J hs hJ hy h0
  refine fun_go hmx Try.func107 r107 s107 (by rw [Try.ntmps107]; simp) ?_
  unfold c107
  simp
  refine go_rounds hmx (fun (k : Nat) σ' => k ≤ l.length ∧ σ'.fr = [(0, RV.yl li s), (5, .v (.sl 1 (l.map irow))), (6, .v (.i .i64 (l.length : Int))), (7, .v (.i .i64 (k : Int)))] ∧ J k σ'.hp) (fun k => l.length - k) 0 ⟨Nat.zero_le _, rfl, h0⟩ ?_
  rintro k ⟨fr, hp⟩ ⟨hk, rfl, hj⟩
  simp only at hj
  obtain ⟨hl1, low1⟩ := hJ _ _ hj
  by_cases hkl : k < l.length
  · have hI : (k : Int) < (l.length : Int) := by omega
    have hw : IntKind.i64.wrap ((k : Int) + 1) = (k : Int) + 1 := wrap_in (by omega) (by omega)
    simp [hI, hkl, irow]
    have hyk := hy k hp (by simpa using hkl) hj
    simp [irow] at hyk
    refine callj (xs := [.i .i64 l[k]]) hJ hj [] rfl rfl (by simp) hyk hs ?_
    intro h' hj' hl'
    simp [hw]
    exact ⟨k + 1, ⟨by omega, rfl, hj'⟩, by omega⟩
  · obtain rfl : k = l.length := by omega
    simp
    exact ⟨hp, ⟨[], by simp⟩, by simpa using hj⟩
theorem values_p (l : List Int) : PureS Try.prog 86 [.sl 1 (l.map irow)] (.fn 107 [.pim [.sl 1 (l.map irow)]]) := by
  refine fun_go hmx Try.func86 r86 s86 (by rw [Try.ntmps86]; simp) ?_
  unfold c86
  simp
theorem sorted_p (l : List Int) (hl : l.length < 1000000) : Own1 Try.prog 85 [.fn 107 [.pim [.sl 1 (l.map irow)]]] 1 ((sortI l).map irow) := by
  unfold Own1
  refine fun_go hmx Try.func85 r85 s85 (by rw [Try.ntmps85]; simp) ?_
  unfold c85
  simp
  refine callo rfl Try.call72 (collect_p _ _ (l.map irow) (by intro x hx; simp only [List.mem_map] at hx; obtain ⟨n, _, rfl⟩ := hx; exact ⟨n, rfl⟩) (by simpa using hl) (values_it l hl) Try.call107) ?_ ⟨.v _, trivial⟩ ?_
  · intro row hr x hx
    simp only [List.mem_map] at hr
    obtain ⟨n, _, rfl⟩ := hr
    simp [irow] at hx; subst hx; exact .i _ _
  simp
  refine callf [0] rfl Try.call106 (sortI_p l hl 0) (by decide) rfl (by simp) (by simp) (by simp) ?_
  rintro _ _ ⟨rfl, rfl⟩
  simp
theorem take_set_lt {α : Type} {l : List α} {n k : Nat} {x : α} (h : n ≤ k) : (l.set k x).take n = l.take n := by
  rw [List.take_set, List.set_eq_of_length_le (by simp; omega)]
theorem compact_p (l : List Int) (v : Nat) (hl : l.length < 1099511627776) : CallS Try.prog 87 [.os 0 v] [.arr v 1 (vrows (l.map irow))] fun r K => ∃ v', r = .os 0 v' ∧ K = [.arr v' 1 (vrows ((ddL l).map irow))] := by
  refine fun_cut 1 hmx Try.func87 r87 s87 (by rw [Try.ntmps87]; simp) (by first | exact Nat.le_refl _ | decide | simp) ?_
  unfold c87
  simp
  by_cases h2 : l.length < 2
  · have h2I : (l.length : Int) < 2 := by omega
    have hdd : ddL l = l := by
      have := dd_all l l.length (Nat.le_refl _) (fun i h1 h2 => by omega)
      rw [ddL, this, List.take_length]
    simp [h2I, hdd]
    intro h3; omega
  have h2I : ¬ (l.length : Int) < 2 := by omega
  have h2J : (2 : Int) ≤ (l.length : Int) := by omega
  simp [h2I, h2J]
  refine go_while hmx 1 (fun (k : Nat) => [(3, .v (.i .i64 (k : Int)))]) (fun _ => [.arr v 1 (vrows (l.map irow))]) (fun k => 1 ≤ k ∧ k ≤ l.length ∧ ∀ i, 0 < i → i < k → l[i]? ≠ l[i - 1]?) (fun k => l.length - k) 1 rfl rfl rfl (by simp) (by simp) (by simp) ⟨Nat.le_refl _, by omega, fun i h1 h2 => by omega⟩ ?_
  rintro k ⟨hk1, hkl, hne⟩
  obtain ⟨k, rfl⟩ : ∃ k', k = k' + 1 := ⟨k - 1, by omega⟩
  by_cases hlt : k + 1 < l.length
  rotate_left
  · have hI : ¬ ((k : Int) + 1 < (l.length : Int)) := by omega
    have hdd : ddL l = l := by
      have := dd_all l l.length (Nat.le_refl _) (fun i h1 h2 => hne i h1 (by omega))
      rw [ddL, this, List.take_length]
    simp [hI, hdd]
  have hI : (k : Int) + 1 < (l.length : Int) := by omega
  have hI2 : (k : Int) < (l.length : Int) := by omega
  have hn1 : k < l.length := by omega
  have hw : IntKind.i64.wrap (k : Int) = (k : Int) := wrap_in (by omega) (by omega)
  have hw2 : IntKind.i64.wrap ((k : Int) + 1 + 1) = (k : Int) + 1 + 1 := wrap_in (by omega) (by omega)
  have h0 : (0 : Int) ≤ (k : Int) + 1 := by omega
  have hgx : l[k]? = some l[k] := List.getElem?_eq_getElem hn1
  have hgy : l[k + 1]? = some l[k + 1] := List.getElem?_eq_getElem hlt
  by_cases heq : l[k + 1] = l[k]
  rotate_left
  · simp [hI, hI2, hlt, hn1, hw, hw2, h0, irow, vrows_at, heq]
    refine ⟨k + 2, by omega, ⟨by omega, by omega, fun i h1 h2 => ?_⟩, by omega⟩
    by_cases hik : i = k + 1
    · subst hik
      simp only [Nat.add_sub_cancel]
      rw [hgx, hgy]
      exact fun e => heq (Option.some.inj e)
    · exact hne i h1 (by omega)
  simp [hI, hI2, hlt, hn1, hw, hw2, h0, irow, vrows_at, heq]
  refine ⟨by omega, ?_⟩
  have hdk : dd l (k + 1 + 1) = l.take (k + 1) := by
    have := dd_all l (k + 1) (by omega) hne
    rw [dd, hgy]
    simp only [Nat.add_sub_cancel]
    rw [if_pos ⟨by omega, by rw [hgx, heq]⟩, this]
  have hsub : l.length - (k + 1) + (k + 1) = l.length := by omega
  refine go_while hmx 1 (fun (s : Nat × Nat × List Int) => [(3, .v (.i .i64 (s.1 : Int))), (5, .v (.i .i64 (s.2.1 : Int)))]) (fun s => [.arr v 1 (vrows (s.2.2.map irow))]) (fun s => 1 ≤ s.1 ∧ 1 ≤ s.2.1 ∧ s.1 < k + 1 + s.2.1 ∧ k + 1 + s.2.1 ≤ l.length ∧ s.2.2.length = l.length ∧ s.2.2.take s.1 = dd l (k + 1 + s.2.1) ∧ s.2.2.drop (k + s.2.1) = l.drop (k + s.2.1)) (fun s => l.length - s.2.1) (k + 1, 1, l) rfl (by simp) rfl (by simp) (by simp) (by simp) ⟨by dsimp only; omega, by dsimp only; omega, by dsimp only; omega, by dsimp only; omega, rfl, hdk.symm, rfl⟩ ?_
  rintro ⟨kk, k2, R⟩ ⟨g1, g2, g3, g4, g5, g6, g7⟩
  simp only at g1 g2 g3 g4 g5 g6 g7
  have hk2I : ((l.length - (k + 1) : Nat) : Int) = (l.length : Int) - ((k : Int) + 1) := by omega
  by_cases hp : k + 1 + k2 < l.length
  · have q1 : k2 < l.length - (k + 1) := by omega
    have hR1 : R[k + 1 + k2]? = l[k + 1 + k2]? := by
      have := congrArg (·[1]?) g7
      simp only [List.getElem?_drop] at this
      rwa [show k + k2 + 1 = k + 1 + k2 by omega] at this
    have hR0 : R[k + k2]? = l[k + k2]? := by
      have := congrArg (·[0]?) g7
      simpa only [List.getElem?_drop, Nat.add_zero] using this
    obtain ⟨k2, rfl⟩ : ∃ j, k2 = j + 1 := ⟨k2 - 1, by omega⟩
    have q2 : IntKind.i64.wrap (k2 : Int) = (k2 : Int) := wrap_in (by omega) (by omega)
    have q3 : IntKind.i64.wrap ((k2 : Int) + 1 + 1) = (k2 : Int) + 1 + 1 := wrap_in (by omega) (by omega)
    have q4 : IntKind.i64.wrap ((kk : Int) + 1) = (kk : Int) + 1 := wrap_in (by omega) (by omega)
    have q5 : (k2 : Int) + 1 < ((l.length - (k + 1) : Nat) : Int) := by omega
    have q6 : (k2 : Int) < ((l.length - (k + 1) : Nat) : Int) := by omega
    have q7 : k + 1 + (k2 + 1) < R.length := by omega
    have q8 : k + 1 + k2 < R.length := by omega
    have q9 : kk < R.length := by omega
    have q10 : (kk : Int) < (R.length : Int) := by omega
    have q11 : (0 : Int) ≤ (k2 : Int) + 1 := by omega
    simp [q1, q2, q3, q4, q5, q6, q7, q8, q9, q10, q11, irow, vrows_at]
    have hget1 : l[k + 1 + (k2 + 1)]? = some R[k + 1 + (k2 + 1)] := by rw [← hR1]; exact List.getElem?_eq_getElem q7
    have hget0 : l[k + 1 + k2]? = some R[k + 1 + k2] := by
      have e : k + (k2 + 1) = k + 1 + k2 := by omega
      rw [e] at hR0
      rw [← hR0]; exact List.getElem?_eq_getElem q8
    have hdrop : ∀ x, List.drop (k + (k2 + 2)) (R.set kk x) = List.drop (k + (k2 + 2)) l := fun x => by
      rw [List.drop_set_of_lt (by omega)]
      have := congrArg (List.drop 1) g7
      rwa [List.drop_drop, List.drop_drop] at this
    have hdd1 : dd l (k + 1 + (k2 + 2)) = if R[k + 1 + (k2 + 1)] = R[k + 1 + k2] then dd l (k + 1 + (k2 + 1)) else dd l (k + 1 + (k2 + 1)) ++ [R[k + 1 + (k2 + 1)]] := by
      rw [show k + 1 + (k2 + 2) = k + 1 + (k2 + 1) + 1 by omega, dd, hget1]
      simp only
      rw [show k + 1 + (k2 + 1) - 1 = k + 1 + k2 by omega, hget0]
      by_cases hc : R[k + 1 + (k2 + 1)] = R[k + 1 + k2]
      · rw [if_pos ⟨by omega, by rw [hc]⟩, if_pos hc]
      · rw [if_neg (fun h => hc (Option.some.inj h.2).symm), if_neg hc]
    refine ⟨fun hc => ⟨kk + 1, k2 + 2, ⟨by omega, by omega⟩, R.set kk R[k + 1 + (k2 + 1)], by simp [vrows, List.map_set, irow], ⟨by omega, by omega, by omega, by omega, by simpa using g5, ?_, hdrop _⟩, by omega⟩, fun hc => ⟨kk, k2 + 2, ⟨rfl, by omega⟩, R, rfl, ⟨g1, by omega, by omega, by omega, g5, ?_, ?_⟩, by omega⟩⟩
    · rw [hdd1, if_neg hc, ← g6, List.take_add_one, take_set_lt (Nat.le_refl _), List.getElem?_set_self q9]
      rfl
    · rw [hdd1, if_pos hc, g6]
    · have := congrArg (List.drop 1) g7
      rwa [List.drop_drop, List.drop_drop] at this
  · have q1 : ¬ ((k2 : Int) < ((l.length - (k + 1) : Nat) : Int)) := by omega
    have q2 : (kk : Int) ≤ (R.length : Int) := by omega
    simp [q1, q2]
    have hX : (List.take kk (vrows (List.map irow R))).length = kk := by simp [vrows]; omega
    have hX2 : List.take kk (vrows (List.map irow R)) = vrows (List.map irow (ddL l)) := by
      rw [ddL, show l.length = k + 1 + k2 by omega, ← g6]
      simp [vrows, List.map_take]
    rw [List.take_left' hX, hX2]
    exact ⟨by omega, by omega, by simp, rfl⟩
namespace Plain
/-- slices.Compact[[]int,int] -/
def c87 : ACode :=
  (.seq (.reg none [⟨some 2, none, .q (.mv (.c .nil))⟩])
  (.keep [0]
  (.seq (.seq (.reg none [⟨some 6, none, .q (.mv (.t 0))⟩, ⟨some 7, none, .q (.len false (.t 6))⟩, ⟨some 8, none, .q (.bin .lss (.t 7) (.c (.i .i64 2)))⟩])
    (.keep [0, 8]
    (.cond (.t 8) (.seq (.reg none [⟨some 9, none, .q (.mv (.t 0))⟩, ⟨some 2, none, .q (.mv (.t 9))⟩])
      .ret)
    .skip)))
  (.seq (.seq (.reg none [⟨some 3, none, .q (.mv (.c (.i .i64 1)))⟩])
    (.keep [0, 3]
    (.blk 0 (.keep [0, 3]
    (.loop (.fin [0, 3]
      (.seq (.seq (.reg none [⟨some 10, none, .q (.mv (.t 3))⟩, ⟨some 11, none, .q (.mv (.t 0))⟩, ⟨some 12, none, .q (.len false (.t 11))⟩, ⟨some 13, none, .q (.bin .lss (.t 10) (.t 12))⟩])
        (.keep [0, 3, 13]
        (.cond (.t 13) .skip
        (.exit 0))))
      (.seq (.blk 1 (.seq (.reg (some (10, [])) [⟨some 16, none, .q (.mv (.t 0))⟩, ⟨some 17, none, .q (.mv (.t 3))⟩, ⟨some 18, none, .q (.ias 1 (.t 16) (.t 17))⟩, ⟨some 19, none, .q (.ld none (.t 18))⟩, ⟨some 20, none, .q (.mv (.t 0))⟩, ⟨some 21, none, .q (.mv (.t 3))⟩, ⟨some 22, none, .q (.bin .sub (.t 21) (.c (.i .i64 1)))⟩, ⟨some 23, none, .q (.ias 1 (.t 20) (.t 22))⟩, ⟨some 24, none, .q (.ld none (.t 23))⟩, ⟨some 25, none, .q (.bin .eql (.t 19) (.t 24))⟩])
        (.keep [0, 3, 25]
        (.cond (.t 25) (.seq (.reg none [⟨some 26, none, .q (.mv (.t 0))⟩, ⟨some 27, none, .q (.mv (.t 3))⟩, ⟨some 28, none, .q (.sls 1 (.t 26) (some (.t 27)) none)⟩, ⟨some 4, none, .q (.mv (.t 28))⟩])
          (.keep [0, 3, 4]
          (.seq (.seq (.reg none [⟨some 5, none, .q (.mv (.c (.i .i64 1)))⟩])
            (.keep [0, 3, 4, 5]
            (.blk 2 (.keep [0, 3, 4, 5]
            (.loop (.fin [0, 3, 4, 5]
              (.seq (.seq (.reg none [⟨some 29, none, .q (.mv (.t 5))⟩, ⟨some 30, none, .q (.mv (.t 4))⟩, ⟨some 31, none, .q (.len false (.t 30))⟩, ⟨some 32, none, .q (.bin .lss (.t 29) (.t 31))⟩])
                (.keep [0, 3, 4, 5, 32]
                (.cond (.t 32) .skip
                (.exit 2))))
              (.seq (.blk 3 (.seq (.reg (some (10, [])) [⟨some 35, none, .q (.mv (.t 4))⟩, ⟨some 36, none, .q (.mv (.t 5))⟩, ⟨some 37, none, .q (.ias 1 (.t 35) (.t 36))⟩, ⟨some 38, none, .q (.ld none (.t 37))⟩, ⟨some 39, none, .q (.mv (.t 4))⟩, ⟨some 40, none, .q (.mv (.t 5))⟩, ⟨some 41, none, .q (.bin .sub (.t 40) (.c (.i .i64 1)))⟩, ⟨some 42, none, .q (.ias 1 (.t 39) (.t 41))⟩, ⟨some 43, none, .q (.ld none (.t 42))⟩, ⟨some 44, none, .q (.bin .neq (.t 38) (.t 43))⟩])
                (.keep [0, 3, 4, 5, 44]
                (.cond (.t 44) (.seq (.reg none [⟨some 45, none, .q (.mv (.t 0))⟩, ⟨some 46, none, .q (.mv (.t 3))⟩, ⟨some 47, none, .q (.mv (.t 4))⟩, ⟨some 48, none, .q (.mv (.t 5))⟩, ⟨some 49, none, .q (.ias 1 (.t 47) (.t 48))⟩, ⟨some 50, none, .q (.ld none (.t 49))⟩, ⟨some 51, none, .q (.ias 1 (.t 45) (.t 46))⟩, ⟨none, none, .m (.st 1 (.t 51) (.t 50))⟩])
                  (.keep [0, 3, 4, 5]
                  (.reg none [⟨some 52, none, .q (.mv (.t 3))⟩, ⟨some 53, none, .q (.bin .add (.t 52) (.c (.i .i64 1)))⟩, ⟨some 3, none, .q (.mv (.t 53))⟩])))
                .skip))))
              (.keep [0, 3, 4, 5]
              (.reg none [⟨some 33, none, .q (.mv (.t 5))⟩, ⟨some 34, none, .q (.bin .add (.t 33) (.c (.i .i64 1)))⟩, ⟨some 5, none, .q (.mv (.t 34))⟩]))))))))))
          (.seq (.reg none [⟨some 54, none, .q (.mv (.t 0))⟩, ⟨some 55, none, .q (.mv (.t 3))⟩, ⟨some 56, none, .q (.sls 1 (.t 54) (some (.t 55)) none)⟩, ⟨none, none, .m (.clr 1 [(.i .i64 0)] (.t 56))⟩])
          (.keep [0, 3]
          (.seq (.reg none [⟨some 57, none, .q (.mv (.t 0))⟩, ⟨some 58, none, .q (.mv (.t 3))⟩, ⟨some 59, none, .q (.sls 1 (.t 57) none (some (.t 58)))⟩, ⟨some 2, none, .q (.mv (.t 59))⟩])
          .ret))))))
        .skip))))
      (.keep [0, 3]
      (.reg none [⟨some 14, none, .q (.mv (.t 3))⟩, ⟨some 15, none, .q (.bin .add (.t 14) (.c (.i .i64 1)))⟩, ⟨some 3, none, .q (.mv (.t 15))⟩]))))))))))
  (.seq (.reg none [⟨some 60, none, .q (.mv (.t 0))⟩, ⟨some 2, none, .q (.mv (.t 60))⟩])
  .ret)))))
theorem r87 : (Try.f87.body.bind (resC Try.prog Try.f87.ntmps)) = some (strip c87) := by kernel_rfl
theorem s87 : Try.f87.results.toList.mapM (resRes Try.prog) = some [.t 2] := by kernel_rfl
theorem compact_nil : PureS Try.prog 87 [.sl 1 []] (.sl 1 []) := by
  refine fun_go hmx Try.func87 r87 s87 (by rw [Try.ntmps87]; simp) ?_
  unfold c87
  simp
end Plain
/-- (scarab/order.table).closed -/
def c90 : ACode :=
  (.seq (.reg none [⟨some 2, none, .m (.box (.t 0))⟩, ⟨some 4, none, .q (.mv (.c .nil))⟩])
  (.keep [1, 2]
  (.seq (.gst (.pimT 2)
    (.reg none [⟨some 8, none, .q (.mv (.t 1))⟩, ⟨some 9, none, .call (.f 108) [(.t 8)]⟩, ⟨some 5, none, .q (.mv (.t 9))⟩]))
  (.keep [1, 2, 5]
  (.seq (.seq (.reg none [⟨some 10, none, .q (.mv (.t 1))⟩, ⟨some 11, none, .q (.len false (.t 10))⟩, ⟨some 12, none, .q (.mv (.c (.i .i64 0)))⟩])
    (.keep [2, 5, 10, 11, 12]
    (.blk 0 (.keep [2, 5, 10, 11, 12]
    (.loop (.fin [2, 5, 10, 11, 12]
      (.seq (.reg none [⟨some 13, none, .q (.bin .lss (.t 12) (.t 11))⟩])
      (.keep [2, 5, 10, 11, 12, 13]
      (.seq (.cond (.t 13) .skip
        (.exit 0))
      (.seq (.blk 1 (.seq (.reg none [⟨some 14, none, .q (.ias 1 (.t 10) (.t 12))⟩, ⟨some 15, none, .q (.ld none (.t 14))⟩, ⟨some 7, none, .q (.mv (.t 15))⟩])
        (.keep [2, 5, 7, 10, 11, 12]
        (.reg none [⟨some 16, none, .q (.mv (.t 5))⟩, ⟨some 17, none, .q (.ld (some 2) (.t 2))⟩, ⟨some 18, none, .q (.mv (.t 7))⟩, ⟨some 19, none, .call (.f 61) [(.t 17), (.t 18)]⟩, ⟨some 20, none, .call (.f 102) [(.t 16), (.t 19)]⟩, ⟨some 5, none, .q (.mv (.t 20))⟩]))))
      (.keep [2, 5, 10, 11, 12]
      (.reg none [⟨some 21, none, .q (.bin .add (.t 12) (.c (.i .i64 1)))⟩, ⟨some 12, none, .q (.mv (.t 21))⟩]))))))))))))
  (.seq (.reg none [⟨some 22, none, .q (.mv (.t 5))⟩, ⟨some 23, none, .call (.f 106) [(.t 22)]⟩])
  (.keep [5]
  (.seq (.reg none [⟨some 24, none, .q (.mv (.t 5))⟩, ⟨some 25, none, .call (.f 87) [(.t 24)]⟩, ⟨some 4, none, .q (.mv (.t 25))⟩])
  .ret))))))))
theorem r90 : (Try.f90.body.bind (resC Try.prog Try.f90.ntmps)) = some (strip c90) := by kernel_rfl
theorem s90 : Try.f90.results.toList.mapM (resRes Try.prog) = some [.t 4] := by kernel_rfl
/-- Places with their pasts, as they are gathered. -/
def gath (t : List Ev) (l m : List Nat) : List Nat := l ++ (m.map fun i => pastR t i).flatten
def closedI (t : List Ev) (l : List Nat) : List Int := ddL (sortI ((gath t l l).map fun n : Nat => (n : Int)))
theorem gath_len (t : List Ev) (ht : t.length ≤ 256) (l m : List Nat) (hm : ∀ i ∈ m, i < t.length) : (gath t l m).length ≤ l.length + 256 * m.length := by
  unfold gath
  rw [List.length_append]
  have : ((m.map fun i => pastR t i).flatten).length ≤ 256 * m.length := by
    induction m with
    | nil => simp
    | cons a m ih =>
      have h1 := pastD_len (p := fun j => befT t j a) a
      have h2 := ih fun i hi => hm i (by simp [hi])
      have h3 := hm a (by simp)
      simp only [List.map_cons, List.flatten_cons, List.length_append, List.length_cons]
      unfold pastR at h2 ⊢
      omega
  omega
theorem closed_nil (t : List Ev) : PureS Try.prog 90 [tabV t, .sl 1 []] (.sl 1 []) := by
  refine fun_go hmx Try.func90 r90 s90 (by rw [Try.ntmps90]; simp) ?_
  unfold c90
  simp [tabV]
  first
    | refine callk rfl Try.call108 clone_nil rfl ?_
    | refine callks rfl Try.call108 clone_nil rfl ?_
    | refine callq rfl Try.call108 clone_nil rfl ?_
    | refine callqe rfl Try.call108 clone_nil rfl ?_
  simp
  refine go_unroll hmx 1 ?_
  rw [goU_succ]
  simp
  first
    | refine callk rfl Try.call106 sortN_p rfl ?_
    | refine callks rfl Try.call106 sortN_p rfl ?_
    | refine callq rfl Try.call106 sortN_p rfl ?_
    | refine callqe rfl Try.call106 sortN_p rfl ?_
  simp
  first
    | refine callk rfl Try.call87 Plain.compact_nil rfl ?_
    | refine callks rfl Try.call87 Plain.compact_nil rfl ?_
    | refine callq rfl Try.call87 Plain.compact_nil rfl ?_
    | refine callqe rfl Try.call87 Plain.compact_nil rfl ?_
  simp
theorem closed_p (t : List Ev) (h : Good t) (l : List Nat) (hl : l.length ≤ 256) (hp : ∀ i ∈ l, i < t.length) (h0 : l ≠ []) : PureS Try.prog 90 [tabV t, .sl 1 (l.map nrow)] (.sl 1 ((closedI t l).map irow)) := by
  have hlen := h.len
  have hln : l.map nrow = (l.map fun n : Nat => (n : Int)).map irow := by simp
  have hll : (l.map fun n : Nat => (n : Int)).length = l.length := by simp
  refine pure_of ?_
  refine fun_go hmx Try.func90 r90 s90 (by rw [Try.ntmps90]; simp) ?_
  unfold c90
  simp only [hln]
  simp [tabV, -List.map_map]
  refine callo rfl Try.call108 (clone_c (l.map fun n : Nat => (n : Int)) (by rw [hll]; omega) (by simpa using h0)) ?_ ⟨.v _, trivial⟩ ?_
  · intro row hr y hy
    simp only [List.mem_map] at hr
    obtain ⟨_, ⟨n, _, rfl⟩, rfl⟩ := hr
    simp [irow] at hy; subst hy; exact .i _ _
  simp [-List.map_map]
  refine go_while hmx 2 (fun (s : Nat × Nat) => [(5, .os 1 s.2), (12, .v (.i .i64 (s.1 : Int)))]) (fun s => [.none, .arr s.2 1 (vrows (((gath t l (l.take s.1)).map fun n : Nat => (n : Int)).map irow))]) (fun s => s.1 ≤ l.length) (fun s => l.length - s.1) (0, 0) rfl (by simp) (by simp [gath]) (by simp) (by simp) (by simp) (Nat.zero_le _) ?_
  rintro ⟨k, v⟩ hk
  simp only at hk
  have hgl := gath_len t hlen l (l.take k) fun i hi => hp i (List.mem_of_mem_take hi)
  have htk : (l.take k).length ≤ 256 := by rw [List.length_take]; omega
  by_cases hkl : k < l.length
  · have hI : (k : Int) < (l.length : Int) := by omega
    have hw : IntKind.i64.wrap ((k : Int) + 1) = (k : Int) + 1 := wrap_in (by omega) (by omega)
    have hpk : l[k] < t.length := hp _ (List.getElem_mem hkl)
    have hpl : (pastR t l[k]).length ≤ 256 := by
      have := pastD_len (p := fun j => befT t j l[k]) l[k]
      unfold pastR; omega
    have hga : gath t l (l.take (k + 1)) = gath t l (l.take k) ++ pastR t l[k] := by
      unfold gath
      rw [List.take_succ_eq_append_getElem hkl, List.map_append, List.flatten_append, ← List.append_assoc]
      simp only [List.map_cons, List.map_nil, List.flatten_cons, List.flatten_nil, List.append_nil]
    simp [hI, hkl, irow, -List.map_map]
    first
      | refine callk rfl Try.call61 (past_p t l[k]) rfl ?_
      | refine callks rfl Try.call61 (past_p t l[k]) rfl ?_
      | refine callq rfl Try.call61 (past_p t l[k]) rfl ?_
      | refine callqe rfl Try.call61 (past_p t l[k]) rfl ?_
    simp [-List.map_map]
    refine callf [1] rfl Try.call102 (append_p ((gath t l (l.take k)).map fun n : Nat => (n : Int)) v _ _ ((pastR t l[k]).map fun n : Nat => (n : Int)) (by simp; omega) (by rw [List.map_map]; exact past_iter t h l[k] hpk) Try.call96) (by decide) rfl (by simp) (by simp) (by simp) ?_
    rintro _ _ ⟨v', rfl, rfl⟩
    simp [hw, -List.map_map]
    exact ⟨k + 1, v', ⟨rfl, rfl⟩, ⟨rfl, by rw [hga, List.map_append, List.map_append]⟩, by omega, by omega⟩
  · obtain rfl : k = l.length := by omega
    rw [List.take_length] at hgl htk ⊢
    simp [-List.map_map]
    have hgn : ((gath t l l).map fun n : Nat => (n : Int)).length < 1000000 := by rw [List.length_map]; omega
    refine callf [1] rfl Try.call106 (sortI_p ((gath t l l).map fun n : Nat => (n : Int)) hgn v) (by decide) rfl (by simp) (by simp) (by simp) ?_
    rintro _ _ ⟨rfl, rfl⟩
    simp [-List.map_map]
    refine callf [1] rfl Try.call87 (compact_p (sortI ((gath t l l).map fun n : Nat => (n : Int))) v (by unfold sortI; rw [List.length_mergeSort]; omega)) (by decide) rfl (by simp) (by simp) (by simp) ?_
    rintro _ _ ⟨v', rfl, rfl⟩
    simp [-List.map_map]
    exact Frz.plain rfl
end Go.Sc.Or
