/- Chapter 12: lists of places: sorted, cloned, closed. No condition. -/
import Derived.Test.YtgipkikbefnokaaXOrO
import Derived.Test.YtgipkikbefnokaaXAv24
import Derived.Test.YtgipkikbefnokaaXSrt
set_option linter.constructorNameAsVariable false
namespace Go.Sc.Or
open Go Go.RowKit Go.Av Go.Proofs Go.Sc Go.Shelf Go.Sort Go.Sc.Srt
set_option linter.unusedSimpArgs false
set_option linter.unusedVariables false
def c108 : ACode :=
  (.seq (.reg none [⟨some 2, none, .q (.mv (.c .nil))⟩])
  (.keep [0]
  (.seq (.seq (.reg none [⟨some 3, none, .q (.mv (.t 0))⟩, ⟨some 4, none, .q (.isn false true (.t 3))⟩])
    (.keep [0, 4]
    (.cond (.t 4) (.seq (.reg none [⟨some 2, none, .q (.mv (.c .nil))⟩])
      .ret)
    .skip)))
  (.seq (.reg none [⟨some 5, none, .m (.bsl 0 1 [(.i .i64 0)] [])⟩, ⟨some 6, none, .q (.mv (.t 0))⟩, ⟨some 7, none, .m (.app 1 8 (.t 5) (.t 6))⟩, ⟨some 2, none, .q (.mv (.t 7))⟩])
  .ret))))
theorem r108 : (Try.f108.body.bind (resC Try.prog Try.f108.ntmps)) = some (strip c108) := by kernel_rfl
theorem s108 : Try.f108.results.toList.mapM (resRes Try.prog) = some [.t 2] := by kernel_rfl
def c102 : ACode :=
  (.seq (.reg none [⟨some 2, none, .m (.box (.t 0))⟩, ⟨some 4, none, .q (.mv (.c .nil))⟩])
  (.keep [1, 2]
  (.seq (.seq (.reg none [⟨some 6, none, .q (.mv (.t 1))⟩])
    (.keep [2, 6]
    (.blk 0 (.keep [2, 6]
    (.rf (.t 6) [7] (.keep [2, 7]
      (.reg none [⟨some 5, none, .q (.mv (.t 7))⟩]))
    (.keep [2, 5]
      (.blk 1 (.reg none [⟨some 8, none, .q (.ld none (.t 2))⟩, ⟨some 9, none, .q (.mv (.t 5))⟩, ⟨some 10, none, .m (.bsl 1 1 [(.i .i64 0)] [(0, 1, .t 9)])⟩, ⟨some 11, none, .m (.app 1 8 (.t 8) (.t 10))⟩, ⟨none, none, .m (.st 1 (.t 2) (.t 11))⟩]))))))))
  (.seq (.reg none [⟨some 12, none, .q (.ld none (.t 2))⟩, ⟨some 4, none, .q (.mv (.t 12))⟩])
  .ret))))
theorem r102 : (Try.f102.body.bind (resC Try.prog Try.f102.ntmps)) = some (strip c102) := by kernel_rfl
theorem s102 : Try.f102.results.toList.mapM (resRes Try.prog) = some [.t 4] := by kernel_rfl
def c107 : ACode :=
  (.seq (.reg none [⟨some 5, none, .q (.ld none (.t 1))⟩, ⟨some 6, none, .q (.len false (.t 5))⟩, ⟨some 7, none, .q (.mv (.c (.i .i64 0)))⟩])
  (.keep [0, 5, 6, 7]
  (.blk 0 (.keep [0, 5, 6, 7]
  (.loop (.fin [0, 5, 6, 7]
    (.seq (.reg none [⟨some 8, none, .q (.bin .lss (.t 7) (.t 6))⟩])
    (.keep [0, 5, 6, 7, 8]
    (.seq (.cond (.t 8) .skip
      (.exit 0))
    (.seq (.blk 1 (.seq (.reg none [⟨some 9, none, .q (.ias 1 (.t 5) (.t 7))⟩, ⟨some 10, none, .q (.ld none (.t 9))⟩, ⟨some 4, none, .q (.mv (.t 10))⟩])
      (.keep [0, 4, 5, 6, 7]
      (.seq (.reg none [⟨some 11, none, .q (.mv (.t 0))⟩, ⟨some 12, none, .q (.mv (.t 4))⟩, ⟨some 13, none, .call (.t 11) [(.t 12)]⟩, ⟨some 14, none, .q (.un .not (.t 13))⟩])
      (.keep [0, 5, 6, 7, 14]
      (.cond (.t 14) .ret
      .skip))))))
    (.keep [0, 5, 6, 7]
    (.reg none [⟨some 15, none, .q (.bin .add (.t 7) (.c (.i .i64 1)))⟩, ⟨some 7, none, .q (.mv (.t 15))⟩]))))))))))))
theorem r107 : (Try.f107.body.bind (resC Try.prog Try.f107.ntmps)) = some (strip c107) := by kernel_rfl
theorem s107 : Try.f107.results.toList.mapM (resRes Try.prog) = some [] := by kernel_rfl
def c86 : ACode :=
  (.seq (.reg none [⟨some 1, none, .m (.box (.t 0))⟩, ⟨some 2, none, .q (.mv (.c .nf))⟩])
  (.keep [1]
  (.seq (.gst (.pimT 1)
    (.reg none [⟨some 3, none, .q (.mkf 107 [(.t 1)])⟩, ⟨some 2, none, .q (.mv (.t 3))⟩]))
  .ret)))
theorem r86 : (Try.f86.body.bind (resC Try.prog Try.f86.ntmps)) = some (strip c86) := by kernel_rfl
theorem s86 : Try.f86.results.toList.mapM (resRes Try.prog) = some [.t 2] := by kernel_rfl
def c85 : ACode :=
  (.seq (.reg none [⟨some 2, none, .q (.mv (.c .nil))⟩])
  (.keep [0]
  (.seq (.reg none [⟨some 4, none, .q (.mv (.t 0))⟩, ⟨some 5, none, .call (.f 72) [(.t 4)]⟩, ⟨some 3, none, .q (.mv (.t 5))⟩])
  (.keep [3]
  (.seq (.reg none [⟨some 6, none, .q (.mv (.t 3))⟩, ⟨some 7, none, .call (.f 106) [(.t 6)]⟩])
  (.keep [3]
  (.seq (.reg none [⟨some 8, none, .q (.mv (.t 3))⟩, ⟨some 2, none, .q (.mv (.t 8))⟩])
  .ret)))))))
theorem r85 : (Try.f85.body.bind (resC Try.prog Try.f85.ntmps)) = some (strip c85) := by kernel_rfl
theorem s85 : Try.f85.results.toList.mapM (resRes Try.prog) = some [.t 2] := by kernel_rfl
def c87 : ACode :=
  (.seq (.reg none [⟨some 2, none, .q (.mv (.c .nil))⟩])
  (.gst (.cutT 2)
  (.keep [0]
  (.seq (.seq (.reg none [⟨some 6, none, .q (.mv (.t 0))⟩, ⟨some 7, none, .q (.len false (.t 6))⟩, ⟨some 8, none, .q (.bin .lss (.t 7) (.c (.i .i64 2)))⟩])
    (.keep [0, 8]
    (.cond (.t 8) (.seq (.reg none [⟨some 9, none, .q (.mv (.t 0))⟩, ⟨some 2, none, .q (.mv (.t 9))⟩])
      (.gst (.cutT 2)
      .ret))
    .skip)))
  (.seq (.seq (.reg none [⟨some 3, none, .q (.mv (.c (.i .i64 1)))⟩])
    (.keep [0, 3]
    (.blk 0 (.keep [0, 3]
    (.loop (.fin [0, 3]
      (.seq (.seq (.reg none [⟨some 10, none, .q (.mv (.t 3))⟩, ⟨some 11, none, .q (.mv (.t 0))⟩, ⟨some 12, none, .q (.len false (.t 11))⟩, ⟨some 13, none, .q (.bin .lss (.t 10) (.t 12))⟩])
        (.keep [0, 3, 13]
        (.cond (.t 13) .skip
        (.exit 0))))
      (.seq (.blk 1 (.seq (.reg (some (10, [])) [⟨some 16, none, .q (.mv (.t 0))⟩, ⟨some 17, none, .q (.mv (.t 3))⟩, ⟨some 18, none, .q (.ias 1 (.t 16) (.t 17))⟩, ⟨some 19, none, .q (.ld none (.t 18))⟩, ⟨some 20, none, .q (.mv (.t 0))⟩, ⟨some 21, none, .q (.mv (.t 3))⟩, ⟨some 22, none, .q (.bin .sub (.t 21) (.c (.i .i64 1)))⟩, ⟨some 23, none, .q (.ias 1 (.t 20) (.t 22))⟩, ⟨some 24, none, .q (.ld none (.t 23))⟩, ⟨some 25, none, .q (.bin .eql (.t 19) (.t 24))⟩])
        (.keep [0, 3, 25]
        (.cond (.t 25) (.seq (.reg none [⟨some 26, none, .q (.mv (.t 0))⟩, ⟨some 27, none, .q (.mv (.t 3))⟩, ⟨some 28, none, .q (.sls 1 (.t 26) (some (.t 27)) none)⟩, ⟨some 4, none, .q (.mv (.t 28))⟩])
          (.keep [0, 3, 4]
          (.seq (.seq (.reg none [⟨some 5, none, .q (.mv (.c (.i .i64 1)))⟩])
            (.keep [0, 3, 4, 5]
            (.blk 2 (.keep [0, 3, 4, 5]
            (.loop (.fin [0, 3, 4, 5]
              (.seq (.seq (.reg none [⟨some 29, none, .q (.mv (.t 5))⟩, ⟨some 30, none, .q (.mv (.t 4))⟩, ⟨some 31, none, .q (.len false (.t 30))⟩, ⟨some 32, none, .q (.bin .lss (.t 29) (.t 31))⟩])
                (.keep [0, 3, 4, 5, 32]
                (.cond (.t 32) .skip
                (.exit 2))))
              (.seq (.blk 3 (.seq (.reg (some (10, [])) [⟨some 35, none, .q (.mv (.t 4))⟩, ⟨some 36, none, .q (.mv (.t 5))⟩, ⟨some 37, none, .q (.ias 1 (.t 35) (.t 36))⟩, ⟨some 38, none, .q (.ld none (.t 37))⟩, ⟨some 39, none, .q (.mv (.t 4))⟩, ⟨some 40, none, .q (.mv (.t 5))⟩, ⟨some 41, none, .q (.bin .sub (.t 40) (.c (.i .i64 1)))⟩, ⟨some 42, none, .q (.ias 1 (.t 39) (.t 41))⟩, ⟨some 43, none, .q (.ld none (.t 42))⟩, ⟨some 44, none, .q (.bin .neq (.t 38) (.t 43))⟩])
                (.keep [0, 3, 4, 5, 44]
                (.cond (.t 44) (.seq (.reg none [⟨some 45, none, .q (.mv (.t 0))⟩, ⟨some 46, none, .q (.mv (.t 3))⟩, ⟨some 47, none, .q (.mv (.t 4))⟩, ⟨some 48, none, .q (.mv (.t 5))⟩, ⟨some 49, none, .q (.ias 1 (.t 47) (.t 48))⟩, ⟨some 50, none, .q (.ld none (.t 49))⟩, ⟨some 51, none, .q (.ias 1 (.t 45) (.t 46))⟩, ⟨none, none, .m (.st 1 (.t 51) (.t 50))⟩])
                  (.keep [0, 3, 4, 5]
                  (.reg none [⟨some 52, none, .q (.mv (.t 3))⟩, ⟨some 53, none, .q (.bin .add (.t 52) (.c (.i .i64 1)))⟩, ⟨some 3, none, .q (.mv (.t 53))⟩])))
                .skip))))
              (.keep [0, 3, 4, 5]
              (.reg none [⟨some 33, none, .q (.mv (.t 5))⟩, ⟨some 34, none, .q (.bin .add (.t 33) (.c (.i .i64 1)))⟩, ⟨some 5, none, .q (.mv (.t 34))⟩]))))))))))
          (.seq (.reg none [⟨some 54, none, .q (.mv (.t 0))⟩, ⟨some 55, none, .q (.mv (.t 3))⟩, ⟨some 56, none, .q (.sls 1 (.t 54) (some (.t 55)) none)⟩, ⟨none, none, .m (.clr 1 [(.i .i64 0)] (.t 56))⟩])
          (.keep [0, 3]
          (.seq (.reg none [⟨some 57, none, .q (.mv (.t 0))⟩, ⟨some 58, none, .q (.mv (.t 3))⟩, ⟨some 59, none, .q (.sls 1 (.t 57) none (some (.t 58)))⟩, ⟨some 2, none, .q (.mv (.t 59))⟩])
          (.gst (.cutT 2)
          .ret)))))))
        .skip))))
      (.keep [0, 3]
      (.reg none [⟨some 14, none, .q (.mv (.t 3))⟩, ⟨some 15, none, .q (.bin .add (.t 14) (.c (.i .i64 1)))⟩, ⟨some 3, none, .q (.mv (.t 15))⟩]))))))))))
  (.seq (.reg none [⟨some 60, none, .q (.mv (.t 0))⟩, ⟨some 2, none, .q (.mv (.t 60))⟩])
  (.gst (.cutT 2)
  .ret)))))))
theorem r87 : (Try.f87.body.bind (resC Try.prog Try.f87.ntmps)) = some (strip c87) := by kernel_rfl
theorem s87 : Try.f87.results.toList.mapM (resRes Try.prog) = some [.t 2] := by kernel_rfl
def sortI (l : List Int) : List Int := l.mergeSort fun x y => decide (x ≤ y)
theorem int_enc : RowEnc irow (fun x : Int => [Value.int .i64 x]) 1 := ⟨fun _ => rfl, fun _ => rfl, fun x j a v h1 h2 => by
  rcases j with _ | j
  · simp [irow] at h1 h2; subst h1; subst h2; exact detV_i _ _
  · simp [irow] at h1, fun x v hv => by simp at hv; subst hv; rfl⟩
theorem sortI_p (l : List Int) (hl : l.length < 1000000) (v : Nat) : CallS Try.prog 106 [.os 0 v] [.arr v 1 (vrows (l.map irow))] fun r K => r = .v (.tup []) ∧ K = [.arr v 1 (vrows ((sortI l).map irow))] := by
  refine sort_bridge int_enc [] (List.length_mergeSort _) v (fun blk cap e vs g hn hv _ hH hblk h0 => ?_) (fun p cap w vs hn h0 => ?_)
  · obtain rfl : vs = #[] := Array.eq_empty_of_size_eq_zero hn
    have := AnyM.slices_Sort_int layI blk 0 cap l e.w (holds_one hH) hblk (by omega)
    simp only [put_one]
    simp [sortI]
    exact this
  · subst h0
    obtain rfl : vs = #[] := Array.eq_empty_of_size_eq_zero hn
    exact AnyM.slices_Sort_int_none layI p cap w
theorem sortN_p : PureS Try.prog 106 [.sl 1 []] (.tup []) := by
  intro e vs g hH hvn hv
  obtain ⟨c, hc⟩ := array_get (vs := vs) (j := 0) hvn (by simp)
  have hvs : vs = #[c] := by
    apply Array.ext (by simpa using hvn)
    intro i h1 h2
    simp at h2
    subst h2
    rw [Array.getElem?_eq_getElem h1] at hc
    exact Option.some.inj hc
  have hc2 := vr_v (hv 0 (.v (.sl 1 [])) c rfl hc)
  obtain ⟨p, cap, rfl⟩ : ∃ p cap, c = .slice p 0 cap := by
    generalize hr : ([] : List (List AV)) = rows at hc2
    cases hc2 with
    | sl _ _ b off cap f _ _ _ _ _ => subst hr; exact ⟨_, _, rfl⟩
    | sle _ a cap => exact ⟨_, _, rfl⟩
  subst hvs
  refine (callsIn_wide.2 (AnyM.slices_Sort_int_none layI p cap e.w)).mono ?_
  rintro E w' ⟨rfl, rfl⟩
  exact ⟨_, e, _, rfl, rfl, g, .refl, .v (.tup [] #[] rfl (fun j a c h => by simp at h)), rfl⟩
theorem clone_cons (x : Int) (l : List Int) (hl : l.length < 1000000) : Own1 Try.prog 108 [.sl 1 ((x :: l).map irow)] 1 ((x :: l).map irow) := by
  unfold Own1
  refine fun_go hmx Try.func108 r108 s108 (by rw [Try.ntmps108]; simp) ?_
  unfold c108
  simp
  omega
theorem clone_c (l : List Int) (hl : l.length < 1000000) (h0 : l ≠ []) : Own1 Try.prog 108 [.sl 1 (l.map irow)] 1 (l.map irow) := by
  cases l with
  | nil => exact absurd rfl h0
  | cons x l => exact clone_cons x l (by simp at hl; omega)
theorem clone_nil : PureS Try.prog 108 [.sl 1 []] (.sl 1 []) := by
  refine pure_of ?_
  refine fun_go hmx Try.func108 r108 s108 (by rw [Try.ntmps108]; simp) ?_
  unfold c108
  simp
  exact ⟨.nil 1, Frz.plain rfl⟩
theorem append_p (l : List Int) (v : Nat) (gid : Nat) (caps : List AV) (m : List Int) (hl : l.length + m.length < 10000000) (it : IterS Try.prog gid caps (m.map irow)) (hc : ∀ vs w, (callFunc gid vs).run Try.prog w = .ok (.enter gid vs) w) :
    CallS Try.prog 102 [.os 0 v, .v (.fn gid caps)] [.arr v 1 (vrows (l.map irow))] fun r K => ∃ v', r = .os 0 v' ∧ K = [.arr v' 1 (vrows ((l ++ m).map irow))] := by
  refine fun_cut 1 hmx Try.func102 r102 s102 (by rw [Try.ntmps102]; simp) (by first | exact Nat.le_refl _ | decide | simp) ?_
  unfold c102
  simp
  refine go_rf hmx rfl hc it ?_ (fun k h => ∃ v, h = [.arr v 1 (vrows ((l ++ m.take k).map irow)), .var [.os 0 v]]) ?_ ⟨v, by simp⟩ ?_ ?_ ?_
  · rintro x hx; simp only [List.mem_map] at hx; obtain ⟨n, _, rfl⟩ := hx; rfl
  · rintro k h ⟨v, rfl⟩
    simp
  · simp
  · rintro i k h hk ⟨v, rfl⟩
    have hk' : k < m.length := by simpa using hk
    have hts := List.take_succ_eq_append_getElem hk'
    simp [irow]
    exact ⟨by omega, [.arr (v + 1) 1 (vrows (List.map irow l ++ List.take k (List.map irow m)) ++ [[.v (.i .i64 m[k])]]), .var [.os 0 (v + 1)]], ⟨[.arr 0 1 [[.v (.i .i64 m[k])]]], rfl⟩, v + 1, by
      have htm : (m.map irow).take (k + 1) = (m.map irow).take k ++ [irow m[k]] := by rw [List.take_add_one, List.getElem?_eq_getElem (by simpa using hk')]; simp
      rw [htm]; simp [vrows, irow]⟩
  · rintro h ⟨v, rfl⟩
    simp
theorem values_it (l : List Int) (hl : l.length < 1000000) : IterS Try.prog 107 [.pim [.sl 1 (l.map irow)]] (l.map irow) := by
  intro li s H J hs hJ hy h0
  refine fun_go hmx Try.func107 r107 s107 (by rw [Try.ntmps107]; simp) ?_
  unfold c107
  simp
  refine go_rounds hmx (fun (k : Nat) σ' => k ≤ l.length ∧ σ'.fr = [(0, RV.yl li s), (5, .v (.sl 1 (l.map irow))), (6, .v (.i .i64 (l.length : Int))), (7, .v (.i .i64 (k : Int)))] ∧ J k σ'.hp) (fun k => l.length - k) 0 ⟨Nat.zero_le _, rfl, h0⟩ ?_
  rintro k ⟨fr, hp⟩ ⟨hk, rfl, hj⟩
  simp only at hj
  obtain ⟨hl1, low1⟩ := hJ _ _ hj
  by_cases hkl : k < l.length
  · have hI : (k : Int) < (l.length : Int) := by omega
    have hw : IntKind.i64.wrap ((k : Int) + 1) = (k : Int) + 1 := wrap_in (by omega) (by omega)
    simp [hI, hkl, irow]
    have hyk := hy k hp (by simpa using hkl) hj
    simp [irow] at hyk
    refine callj (xs := [.i .i64 l[k]]) hJ hj [] rfl rfl (by simp) hyk hs ?_
    intro h' hj' hl'
    simp [hw]
    exact ⟨k + 1, ⟨by omega, rfl, hj'⟩, by omega⟩
  · obtain rfl : k = l.length := by omega
    simp
    exact ⟨hp, ⟨[], by simp⟩, by simpa using hj⟩
theorem values_p (l : List Int) : PureS Try.prog 86 [.sl 1 (l.map irow)] (.fn 107 [.pim [.sl 1 (l.map irow)]]) := by
  refine fun_go hmx Try.func86 r86 s86 (by rw [Try.ntmps86]; simp) ?_
  unfold c86
  simp
theorem sorted_p (l : List Int) (hl : l.length < 1000000) : Own1 Try.prog 85 [.fn 107 [.pim [.sl 1 (l.map irow)]]] 1 ((sortI l).map irow) := by
  unfold Own1
  refine fun_go hmx Try.func85 r85 s85 (by rw [Try.ntmps85]; simp) ?_
  unfold c85
  simp
  refine callo rfl Try.call72 (collect_p _ _ (l.map irow) (by intro x hx; simp only [List.mem_map] at hx; obtain ⟨n, _, rfl⟩ := hx; exact ⟨n, rfl⟩) (by simpa using hl) (values_it l hl) Try.call107) ?_ ⟨.v _, trivial⟩ ?_
  · intro row hr x hx
    simp only [List.mem_map] at hr
    obtain ⟨n, _, rfl⟩ := hr
    simp [irow] at hx; subst hx; exact .i _ _
  simp
  refine callf [0] rfl Try.call106 (sortI_p l hl 0) (by decide) rfl (by simp) (by simp) (by simp) ?_
  rintro _ _ ⟨rfl, rfl⟩
  simp
theorem take_set_lt {α : Type} {l : List α} {n k : Nat} {x : α} (h : n ≤ k) : (l.set k x).take n = l.take n := by
  rw [List.take_set, List.set_eq_of_length_le (by simp; omega)]
theorem compact_p (l : List Int) (v : Nat) (hl : l.length < 1099511627776) : CallS Try.prog 87 [.os 0 v] [.arr v 1 (vrows (l.map irow))] fun r K => ∃ v', r = .os 0 v' ∧ K = [.arr v' 1 (vrows ((ddL l).map irow))] := by
  refine fun_cut 1 hmx Try.func87 r87 s87 (by rw [Try.ntmps87]; simp) (by first | exact Nat.le_refl _ | decide | simp) ?_
  unfold c87
  simp
  by_cases h2 : l.length < 2
  · have h2I : (l.length : Int) < 2 := by omega
    have hdd : ddL l = l := by
      have := dd_all l l.length (Nat.le_refl _) (fun i h1 h2 => by omega)
      rw [ddL, this, List.take_length]
    simp [h2I, hdd]
    intro h3; omega
  have h2I : ¬ (l.length : Int) < 2 := by omega
  have h2J : (2 : Int) ≤ (l.length : Int) := by omega
  simp [h2I, h2J]
  refine go_while hmx 1 (fun (k : Nat) => [(3, .v (.i .i64 (k : Int)))]) (fun _ => [.arr v 1 (vrows (l.map irow))]) (fun k => 1 ≤ k ∧ k ≤ l.length ∧ ∀ i, 0 < i → i < k → l[i]? ≠ l[i - 1]?) (fun k => l.length - k) 1 rfl rfl rfl (by simp) (by simp) (by simp) ⟨Nat.le_refl _, by omega, fun i h1 h2 => by omega⟩ ?_
  rintro k ⟨hk1, hkl, hne⟩
  obtain ⟨k, rfl⟩ : ∃ k', k = k' + 1 := ⟨k - 1, by omega⟩
  by_cases hlt : k + 1 < l.length
  rotate_left
  · have hI : ¬ ((k : Int) + 1 < (l.length : Int)) := by omega
    have hdd : ddL l = l := by
      have := dd_all l l.length (Nat.le_refl _) (fun i h1 h2 => hne i h1 (by omega))
      rw [ddL, this, List.take_length]
    simp [hI, hdd]
  have hI : (k : Int) + 1 < (l.length : Int) := by omega
  have hI2 : (k : Int) < (l.length : Int) := by omega
  have hn1 : k < l.length := by omega
  have hw : IntKind.i64.wrap (k : Int) = (k : Int) := wrap_in (by omega) (by omega)
  have hw2 : IntKind.i64.wrap ((k : Int) + 1 + 1) = (k : Int) + 1 + 1 := wrap_in (by omega) (by omega)
  have h0 : (0 : Int) ≤ (k : Int) + 1 := by omega
  have hgx : l[k]? = some l[k] := List.getElem?_eq_getElem hn1
  have hgy : l[k + 1]? = some l[k + 1] := List.getElem?_eq_getElem hlt
  by_cases heq : l[k + 1] = l[k]
  rotate_left
  · simp [hI, hI2, hlt, hn1, hw, hw2, h0, irow, vrows_at, heq]
    refine ⟨k + 2, by omega, ⟨by omega, by omega, fun i h1 h2 => ?_⟩, by omega⟩
    by_cases hik : i = k + 1
    · subst hik
      simp only [Nat.add_sub_cancel]
      rw [hgx, hgy]
      exact fun e => heq (Option.some.inj e)
    · exact hne i h1 (by omega)
  simp [hI, hI2, hlt, hn1, hw, hw2, h0, irow, vrows_at, heq]
  refine ⟨by omega, ?_⟩
  have hdk : dd l (k + 1 + 1) = l.take (k + 1) := by
    have := dd_all l (k + 1) (by omega) hne
    rw [dd, hgy]
    simp only [Nat.add_sub_cancel]
    rw [if_pos ⟨by omega, by rw [hgx, heq]⟩, this]
  have hsub : l.length - (k + 1) + (k + 1) = l.length := by omega
  refine go_while hmx 1 (fun (s : Nat × Nat × List Int) => [(3, .v (.i .i64 (s.1 : Int))), (5, .v (.i .i64 (s.2.1 : Int)))]) (fun s => [.arr v 1 (vrows (s.2.2.map irow))]) (fun s => 1 ≤ s.1 ∧ 1 ≤ s.2.1 ∧ s.1 < k + 1 + s.2.1 ∧ k + 1 + s.2.1 ≤ l.length ∧ s.2.2.length = l.length ∧ s.2.2.take s.1 = dd l (k + 1 + s.2.1) ∧ s.2.2.drop (k + s.2.1) = l.drop (k + s.2.1)) (fun s => l.length - s.2.1) (k + 1, 1, l) rfl (by simp) rfl (by simp) (by simp) (by simp) ⟨by dsimp only; omega, by dsimp only; omega, by dsimp only; omega, by dsimp only; omega, rfl, hdk.symm, rfl⟩ ?_
  rintro ⟨kk, k2, R⟩ ⟨g1, g2, g3, g4, g5, g6, g7⟩
  simp only at g1 g2 g3 g4 g5 g6 g7
  have hk2I : ((l.length - (k + 1) : Nat) : Int) = (l.length : Int) - ((k : Int) + 1) := by omega
  by_cases hp : k + 1 + k2 < l.length
  · have q1 : k2 < l.length - (k + 1) := by omega
    have hR1 : R[k + 1 + k2]? = l[k + 1 + k2]? := by
      have := congrArg (·[1]?) g7
      simp only [List.getElem?_drop] at this
      rwa [show k + k2 + 1 = k + 1 + k2 by omega] at this
    have hR0 : R[k + k2]? = l[k + k2]? := by
      have := congrArg (·[0]?) g7
      simpa only [List.getElem?_drop, Nat.add_zero] using this
    obtain ⟨k2, rfl⟩ : ∃ j, k2 = j + 1 := ⟨k2 - 1, by omega⟩
    have q2 : IntKind.i64.wrap (k2 : Int) = (k2 : Int) := wrap_in (by omega) (by omega)
    have q3 : IntKind.i64.wrap ((k2 : Int) + 1 + 1) = (k2 : Int) + 1 + 1 := wrap_in (by omega) (by omega)
    have q4 : IntKind.i64.wrap ((kk : Int) + 1) = (kk : Int) + 1 := wrap_in (by omega) (by omega)
    have q5 : (k2 : Int) + 1 < ((l.length - (k + 1) : Nat) : Int) := by omega
    have q6 : (k2 : Int) < ((l.length - (k + 1) : Nat) : Int) := by omega
    have q7 : k + 1 + (k2 + 1) < R.length := by omega
    have q8 : k + 1 + k2 < R.length := by omega
    have q9 : kk < R.length := by omega
    have q10 : (kk : Int) < (R.length : Int) := by omega
    have q11 : (0 : Int) ≤ (k2 : Int) + 1 := by omega
    simp [q1, q2, q3, q4, q5, q6, q7, q8, q9, q10, q11, irow, vrows_at]
    have hget1 : l[k + 1 + (k2 + 1)]? = some R[k + 1 + (k2 + 1)] := by rw [← hR1]; exact List.getElem?_eq_getElem q7
    have hget0 : l[k + 1 + k2]? = some R[k + 1 + k2] := by
      have e : k + (k2 + 1) = k + 1 + k2 := by omega
      rw [e] at hR0
      rw [← hR0]; exact List.getElem?_eq_getElem q8
    have hdrop : ∀ x, List.drop (k + (k2 + 2)) (R.set kk x) = List.drop (k + (k2 + 2)) l := fun x => by
      rw [List.drop_set_of_lt (by omega)]
      have := congrArg (List.drop 1) g7
      rwa [List.drop_drop, List.drop_drop] at this
    have hdd1 : dd l (k + 1 + (k2 + 2)) = if R[k + 1 + (k2 + 1)] = R[k + 1 + k2] then dd l (k + 1 + (k2 + 1)) else dd l (k + 1 + (k2 + 1)) ++ [R[k + 1 + (k2 + 1)]] := by
      rw [show k + 1 + (k2 + 2) = k + 1 + (k2 + 1) + 1 by omega, dd, hget1]
      simp only
      rw [show k + 1 + (k2 + 1) - 1 = k + 1 + k2 by omega, hget0]
      by_cases hc : R[k + 1 + (k2 + 1)] = R[k + 1 + k2]
      · rw [if_pos ⟨by omega, by rw [hc]⟩, if_pos hc]
      · rw [if_neg (fun h => hc (Option.some.inj h.2).symm), if_neg hc]
    refine ⟨fun hc => ⟨kk + 1, k2 + 2, ⟨by omega, by omega⟩, R.set kk R[k + 1 + (k2 + 1)], by simp [vrows, List.map_set, irow], ⟨by omega, by omega, by omega, by omega, by simpa using g5, ?_, hdrop _⟩, by omega⟩, fun hc => ⟨kk, k2 + 2, ⟨rfl, by omega⟩, R, rfl, ⟨g1, by omega, by omega, by omega, g5, ?_, ?_⟩, by omega⟩⟩
    · rw [hdd1, if_neg hc, ← g6, List.take_add_one, take_set_lt (Nat.le_refl _), List.getElem?_set_self q9]
      rfl
    · rw [hdd1, if_pos hc, g6]
    · have := congrArg (List.drop 1) g7
      rwa [List.drop_drop, List.drop_drop] at this
  · have q1 : ¬ ((k2 : Int) < ((l.length - (k + 1) : Nat) : Int)) := by omega
    have q2 : (kk : Int) ≤ (R.length : Int) := by omega
    simp [q1, q2]
    have hX : (List.take kk (vrows (List.map irow R))).length = kk := by simp [vrows]; omega
    have hX2 : List.take kk (vrows (List.map irow R)) = vrows (List.map irow (ddL l)) := by
      rw [ddL, show l.length = k + 1 + k2 by omega, ← g6]
      simp [vrows, List.map_take]
    rw [List.take_left' hX, hX2]
    exact ⟨by omega, by omega, by simp, rfl⟩
namespace Plain
def c87 : ACode :=
  (.seq (.reg none [⟨some 2, none, .q (.mv (.c .nil))⟩])
  (.keep [0]
  (.seq (.seq (.reg none [⟨some 6, none, .q (.mv (.t 0))⟩, ⟨some 7, none, .q (.len false (.t 6))⟩, ⟨some 8, none, .q (.bin .lss (.t 7) (.c (.i .i64 2)))⟩])
    (.keep [0, 8]
    (.cond (.t 8) (.seq (.reg none [⟨some 9, none, .q (.mv (.t 0))⟩, ⟨some 2, none, .q (.mv (.t 9))⟩])
      .ret)
    .skip)))
  (.seq (.seq (.reg none [⟨some 3, none, .q (.mv (.c (.i .i64 1)))⟩])
    (.keep [0, 3]
    (.blk 0 (.keep [0, 3]
    (.loop (.fin [0, 3]
      (.seq (.seq (.reg none [⟨some 10, none, .q (.mv (.t 3))⟩, ⟨some 11, none, .q (.mv (.t 0))⟩, ⟨some 12, none, .q (.len false (.t 11))⟩, ⟨some 13, none, .q (.bin .lss (.t 10) (.t 12))⟩])
        (.keep [0, 3, 13]
        (.cond (.t 13) .skip
        (.exit 0))))
      (.seq (.blk 1 (.seq (.reg (some (10, [])) [⟨some 16, none, .q (.mv (.t 0))⟩, ⟨some 17, none, .q (.mv (.t 3))⟩, ⟨some 18, none, .q (.ias 1 (.t 16) (.t 17))⟩, ⟨some 19, none, .q (.ld none (.t 18))⟩, ⟨some 20, none, .q (.mv (.t 0))⟩, ⟨some 21, none, .q (.mv (.t 3))⟩, ⟨some 22, none, .q (.bin .sub (.t 21) (.c (.i .i64 1)))⟩, ⟨some 23, none, .q (.ias 1 (.t 20) (.t 22))⟩, ⟨some 24, none, .q (.ld none (.t 23))⟩, ⟨some 25, none, .q (.bin .eql (.t 19) (.t 24))⟩])
        (.keep [0, 3, 25]
        (.cond (.t 25) (.seq (.reg none [⟨some 26, none, .q (.mv (.t 0))⟩, ⟨some 27, none, .q (.mv (.t 3))⟩, ⟨some 28, none, .q (.sls 1 (.t 26) (some (.t 27)) none)⟩, ⟨some 4, none, .q (.mv (.t 28))⟩])
          (.keep [0, 3, 4]
          (.seq (.seq (.reg none [⟨some 5, none, .q (.mv (.c (.i .i64 1)))⟩])
            (.keep [0, 3, 4, 5]
            (.blk 2 (.keep [0, 3, 4, 5]
            (.loop (.fin [0, 3, 4, 5]
              (.seq (.seq (.reg none [⟨some 29, none, .q (.mv (.t 5))⟩, ⟨some 30, none, .q (.mv (.t 4))⟩, ⟨some 31, none, .q (.len false (.t 30))⟩, ⟨some 32, none, .q (.bin .lss (.t 29) (.t 31))⟩])
                (.keep [0, 3, 4, 5, 32]
                (.cond (.t 32) .skip
                (.exit 2))))
              (.seq (.blk 3 (.seq (.reg (some (10, [])) [⟨some 35, none, .q (.mv (.t 4))⟩, ⟨some 36, none, .q (.mv (.t 5))⟩, ⟨some 37, none, .q (.ias 1 (.t 35) (.t 36))⟩, ⟨some 38, none, .q (.ld none (.t 37))⟩, ⟨some 39, none, .q (.mv (.t 4))⟩, ⟨some 40, none, .q (.mv (.t 5))⟩, ⟨some 41, none, .q (.bin .sub (.t 40) (.c (.i .i64 1)))⟩, ⟨some 42, none, .q (.ias 1 (.t 39) (.t 41))⟩, ⟨some 43, none, .q (.ld none (.t 42))⟩, ⟨some 44, none, .q (.bin .neq (.t 38) (.t 43))⟩])
                (.keep [0, 3, 4, 5, 44]
                (.cond (.t 44) (.seq (.reg none [⟨some 45, none, .q (.mv (.t 0))⟩, ⟨some 46, none, .q (.mv (.t 3))⟩, ⟨some 47, none, .q (.mv (.t 4))⟩, ⟨some 48, none, .q (.mv (.t 5))⟩, ⟨some 49, none, .q (.ias 1 (.t 47) (.t 48))⟩, ⟨some 50, none, .q (.ld none (.t 49))⟩, ⟨some 51, none, .q (.ias 1 (.t 45) (.t 46))⟩, ⟨none, none, .m (.st 1 (.t 51) (.t 50))⟩])
                  (.keep [0, 3, 4, 5]
                  (.reg none [⟨some 52, none, .q (.mv (.t 3))⟩, ⟨some 53, none, .q (.bin .add (.t 52) (.c (.i .i64 1)))⟩, ⟨some 3, none, .q (.mv (.t 53))⟩])))
                .skip))))
              (.keep [0, 3, 4, 5]
              (.reg none [⟨some 33, none, .q (.mv (.t 5))⟩, ⟨some 34, none, .q (.bin .add (.t 33) (.c (.i .i64 1)))⟩, ⟨some 5, none, .q (.mv (.t 34))⟩]))))))))))
          (.seq (.reg none [⟨some 54, none, .q (.mv (.t 0))⟩, ⟨some 55, none, .q (.mv (.t 3))⟩, ⟨some 56, none, .q (.sls 1 (.t 54) (some (.t 55)) none)⟩, ⟨none, none, .m (.clr 1 [(.i .i64 0)] (.t 56))⟩])
          (.keep [0, 3]
          (.seq (.reg none [⟨some 57, none, .q (.mv (.t 0))⟩, ⟨some 58, none, .q (.mv (.t 3))⟩, ⟨some 59, none, .q (.sls 1 (.t 57) none (some (.t 58)))⟩, ⟨some 2, none, .q (.mv (.t 59))⟩])
          .ret))))))
        .skip))))
      (.keep [0, 3]
      (.reg none [⟨some 14, none, .q (.mv (.t 3))⟩, ⟨some 15, none, .q (.bin .add (.t 14) (.c (.i .i64 1)))⟩, ⟨some 3, none, .q (.mv (.t 15))⟩]))))))))))
  (.seq (.reg none [⟨some 60, none, .q (.mv (.t 0))⟩, ⟨some 2, none, .q (.mv (.t 60))⟩])
  .ret)))))
theorem r87 : (Try.f87.body.bind (resC Try.prog Try.f87.ntmps)) = some (strip c87) := by kernel_rfl
theorem s87 : Try.f87.results.toList.mapM (resRes Try.prog) = some [.t 2] := by kernel_rfl
theorem compact_nil : PureS Try.prog 87 [.sl 1 []] (.sl 1 []) := by
  refine fun_go hmx Try.func87 r87 s87 (by rw [Try.ntmps87]; simp) ?_
  unfold c87
  simp
end Plain
def c90 : ACode :=
  (.seq (.reg none [⟨some 2, none, .m (.box (.t 0))⟩, ⟨some 4, none, .q (.mv (.c .nil))⟩])
  (.keep [1, 2]
  (.seq (.gst (.pimT 2)
    (.reg none [⟨some 8, none, .q (.mv (.t 1))⟩, ⟨some 9, none, .call (.f 108) [(.t 8)]⟩, ⟨some 5, none, .q (.mv (.t 9))⟩]))
  (.keep [1, 2, 5]
  (.seq (.seq (.reg none [⟨some 10, none, .q (.mv (.t 1))⟩, ⟨some 11, none, .q (.len false (.t 10))⟩, ⟨some 12, none, .q (.mv (.c (.i .i64 0)))⟩])
    (.keep [2, 5, 10, 11, 12]
    (.blk 0 (.keep [2, 5, 10, 11, 12]
    (.loop (.fin [2, 5, 10, 11, 12]
      (.seq (.reg none [⟨some 13, none, .q (.bin .lss (.t 12) (.t 11))⟩])
      (.keep [2, 5, 10, 11, 12, 13]
      (.seq (.cond (.t 13) .skip
        (.exit 0))
      (.seq (.blk 1 (.seq (.reg none [⟨some 14, none, .q (.ias 1 (.t 10) (.t 12))⟩, ⟨some 15, none, .q (.ld none (.t 14))⟩, ⟨some 7, none, .q (.mv (.t 15))⟩])
        (.keep [2, 5, 7, 10, 11, 12]
        (.reg none [⟨some 16, none, .q (.mv (.t 5))⟩, ⟨some 17, none, .q (.ld (some 2) (.t 2))⟩, ⟨some 18, none, .q (.mv (.t 7))⟩, ⟨some 19, none, .call (.f 61) [(.t 17), (.t 18)]⟩, ⟨some 20, none, .call (.f 102) [(.t 16), (.t 19)]⟩, ⟨some 5, none, .q (.mv (.t 20))⟩]))))
      (.keep [2, 5, 10, 11, 12]
      (.reg none [⟨some 21, none, .q (.bin .add (.t 12) (.c (.i .i64 1)))⟩, ⟨some 12, none, .q (.mv (.t 21))⟩]))))))))))))
  (.seq (.reg none [⟨some 22, none, .q (.mv (.t 5))⟩, ⟨some 23, none, .call (.f 106) [(.t 22)]⟩])
  (.keep [5]
  (.seq (.reg none [⟨some 24, none, .q (.mv (.t 5))⟩, ⟨some 25, none, .call (.f 87) [(.t 24)]⟩, ⟨some 4, none, .q (.mv (.t 25))⟩])
  .ret))))))))
theorem r90 : (Try.f90.body.bind (resC Try.prog Try.f90.ntmps)) = some (strip c90) := by kernel_rfl
theorem s90 : Try.f90.results.toList.mapM (resRes Try.prog) = some [.t 4] := by kernel_rfl
def gath (t : List Ev) (l m : List Nat) : List Nat := l ++ (m.map fun i => pastR t i).flatten
def closedI (t : List Ev) (l : List Nat) : List Int := ddL (sortI ((gath t l l).map fun n : Nat => (n : Int)))
theorem gath_len (t : List Ev) (ht : t.length ≤ 256) (l m : List Nat) (hm : ∀ i ∈ m, i < t.length) : (gath t l m).length ≤ l.length + 256 * m.length := by
  unfold gath
  rw [List.length_append]
  have : ((m.map fun i => pastR t i).flatten).length ≤ 256 * m.length := by
    induction m with
    | nil => simp
    | cons a m ih =>
      have h1 := pastD_len (p := fun j => befT t j a) a
      have h2 := ih fun i hi => hm i (by simp [hi])
      have h3 := hm a (by simp)
      simp only [List.map_cons, List.flatten_cons, List.length_append, List.length_cons]
      unfold pastR at h2 ⊢
      omega
  omega
theorem closed_nil (t : List Ev) : PureS Try.prog 90 [tabV t, .sl 1 []] (.sl 1 []) := by
  refine fun_go hmx Try.func90 r90 s90 (by rw [Try.ntmps90]; simp) ?_
  unfold c90
  simp [tabV]
  first
    | refine callk rfl Try.call108 clone_nil rfl ?_
    | refine callks rfl Try.call108 clone_nil rfl ?_
    | refine callq rfl Try.call108 clone_nil rfl ?_
    | refine callqe rfl Try.call108 clone_nil rfl ?_
  simp
  refine go_unroll hmx 1 ?_
  rw [goU_succ]
  simp
  first
    | refine callk rfl Try.call106 sortN_p rfl ?_
    | refine callks rfl Try.call106 sortN_p rfl ?_
    | refine callq rfl Try.call106 sortN_p rfl ?_
    | refine callqe rfl Try.call106 sortN_p rfl ?_
  simp
  first
    | refine callk rfl Try.call87 Plain.compact_nil rfl ?_
    | refine callks rfl Try.call87 Plain.compact_nil rfl ?_
    | refine callq rfl Try.call87 Plain.compact_nil rfl ?_
    | refine callqe rfl Try.call87 Plain.compact_nil rfl ?_
  simp
theorem closed_p (t : List Ev) (h : Good t) (l : List Nat) (hl : l.length ≤ 256) (hp : ∀ i ∈ l, i < t.length) (h0 : l ≠ []) : PureS Try.prog 90 [tabV t, .sl 1 (l.map nrow)] (.sl 1 ((closedI t l).map irow)) := by
  have hlen := h.len
  have hln : l.map nrow = (l.map fun n : Nat => (n : Int)).map irow := by simp
  have hll : (l.map fun n : Nat => (n : Int)).length = l.length := by simp
  refine pure_of ?_
  refine fun_go hmx Try.func90 r90 s90 (by rw [Try.ntmps90]; simp) ?_
  unfold c90
  simp only [hln]
  simp [tabV, -List.map_map]
  refine callo rfl Try.call108 (clone_c (l.map fun n : Nat => (n : Int)) (by rw [hll]; omega) (by simpa using h0)) ?_ ⟨.v _, trivial⟩ ?_
  · intro row hr y hy
    simp only [List.mem_map] at hr
    obtain ⟨_, ⟨n, _, rfl⟩, rfl⟩ := hr
    simp [irow] at hy; subst hy; exact .i _ _
  simp [-List.map_map]
  refine go_while hmx 2 (fun (s : Nat × Nat) => [(5, .os 1 s.2), (12, .v (.i .i64 (s.1 : Int)))]) (fun s => [.none, .arr s.2 1 (vrows (((gath t l (l.take s.1)).map fun n : Nat => (n : Int)).map irow))]) (fun s => s.1 ≤ l.length) (fun s => l.length - s.1) (0, 0) rfl (by simp) (by simp [gath]) (by simp) (by simp) (by simp) (Nat.zero_le _) ?_
  rintro ⟨k, v⟩ hk
  simp only at hk
  have hgl := gath_len t hlen l (l.take k) fun i hi => hp i (List.mem_of_mem_take hi)
  have htk : (l.take k).length ≤ 256 := by rw [List.length_take]; omega
  by_cases hkl : k < l.length
  · have hI : (k : Int) < (l.length : Int) := by omega
    have hw : IntKind.i64.wrap ((k : Int) + 1) = (k : Int) + 1 := wrap_in (by omega) (by omega)
    have hpk : l[k] < t.length := hp _ (List.getElem_mem hkl)
    have hpl : (pastR t l[k]).length ≤ 256 := by
      have := pastD_len (p := fun j => befT t j l[k]) l[k]
      unfold pastR; omega
    have hga : gath t l (l.take (k + 1)) = gath t l (l.take k) ++ pastR t l[k] := by
      unfold gath
      rw [List.take_succ_eq_append_getElem hkl, List.map_append, List.flatten_append, ← List.append_assoc]
      simp only [List.map_cons, List.map_nil, List.flatten_cons, List.flatten_nil, List.append_nil]
    simp [hI, hkl, irow, -List.map_map]
    first
      | refine callk rfl Try.call61 (past_p t l[k]) rfl ?_
      | refine callks rfl Try.call61 (past_p t l[k]) rfl ?_
      | refine callq rfl Try.call61 (past_p t l[k]) rfl ?_
      | refine callqe rfl Try.call61 (past_p t l[k]) rfl ?_
    simp [-List.map_map]
    refine callf [1] rfl Try.call102 (append_p ((gath t l (l.take k)).map fun n : Nat => (n : Int)) v _ _ ((pastR t l[k]).map fun n : Nat => (n : Int)) (by simp; omega) (by rw [List.map_map]; exact past_iter t h l[k] hpk) Try.call96) (by decide) rfl (by simp) (by simp) (by simp) ?_
    rintro _ _ ⟨v', rfl, rfl⟩
    simp [hw, -List.map_map]
    exact ⟨k + 1, v', ⟨rfl, rfl⟩, ⟨rfl, by rw [hga, List.map_append, List.map_append]⟩, by omega, by omega⟩
  · obtain rfl : k = l.length := by omega
    rw [List.take_length] at hgl htk ⊢
    simp [-List.map_map]
    have hgn : ((gath t l l).map fun n : Nat => (n : Int)).length < 1000000 := by rw [List.length_map]; omega
    refine callf [1] rfl Try.call106 (sortI_p ((gath t l l).map fun n : Nat => (n : Int)) hgn v) (by decide) rfl (by simp) (by simp) (by simp) ?_
    rintro _ _ ⟨rfl, rfl⟩
    simp [-List.map_map]
    refine callf [1] rfl Try.call87 (compact_p (sortI ((gath t l l).map fun n : Nat => (n : Int))) v (by unfold sortI; rw [List.length_mergeSort]; omega)) (by decide) rfl (by simp) (by simp) (by simp) ?_
    rintro _ _ ⟨v', rfl, rfl⟩
    simp [-List.map_map]
    exact Frz.plain rfl
end Go.Sc.Or
/- Chapter 12: Closed, Cut, Linear. No condition. -/
set_option linter.constructorNameAsVariable false
namespace Go.Sc.Or
open Go Go.RowKit Go.Av Go.Proofs Go.Sc Go.Shelf Go.Sort Go.Sc.Srt
set_option linter.unusedSimpArgs false
set_option linter.unusedVariables false
/-! ### In plain words -/
theorem rises_ext : ∀ {l m : List Int}, l.Pairwise (· < ·) → m.Pairwise (· < ·) → (∀ x, x ∈ l ↔ x ∈ m) → l = m
  | [], [], _, _, _ => rfl
  | [], b :: m, _, _, h => by have := (h b).2 (by simp); cases this
  | a :: l, [], _, _, h => by have := (h a).1 (by simp); cases this
  | a :: l, b :: m, hl, hm, h => by
    rw [List.pairwise_cons] at hl hm
    have hab : a = b := by
      have h1 := (h a).1 (by simp)
      have h2 := (h b).2 (by simp)
      rw [List.mem_cons] at h1 h2
      rcases h1 with h1 | h1
      · exact h1
      · rcases h2 with h2 | h2
        · exact h2.symm
        · have := hl.1 b h2; have := hm.1 a h1; omega
    subst hab
    congr 1
    refine rises_ext hl.2 hm.2 fun x => ?_
    have := h x
    rw [List.mem_cons, List.mem_cons] at this
    constructor
    · intro hx
      have hax := hl.1 x hx
      rcases this.1 (.inr hx) with rfl | h2
      · omega
      · exact h2
    · intro hx
      have hax := hm.1 x hx
      rcases this.2 (.inr hx) with rfl | h2
      · omega
      · exact h2
theorem sortI_perm (l : List Int) : (sortI l).Perm l := List.mergeSort_perm ..
theorem sortI_len (l : List Int) : (sortI l).length = l.length := List.length_mergeSort _
theorem sortI_sorted (l : List Int) : SortedTo (fun a b => decide (a < b)) (sortI l) (sortI l).length := by
  intro a b x y hab hb hx hy
  have hp : (sortI l).Pairwise fun x y => decide (x ≤ y) = true := List.pairwise_mergeSort (fun a b c h1 h2 => by simp at *; omega) (fun a b => by simp; omega) l
  obtain ⟨h1, rfl⟩ := List.getElem?_eq_some_iff.1 hx
  obtain ⟨h2, rfl⟩ := List.getElem?_eq_some_iff.1 hy
  have := List.pairwise_iff_getElem.1 hp a b h1 h2 hab
  simp at this ⊢
  exact this
def setI (l : List Int) : List Int := ddL (sortI l)
theorem setI_rises (l : List Int) : (setI l).Pairwise (· < ·) := dd_rises _ (sortI_sorted l) _ (Nat.le_refl _)
theorem setI_mem {l : List Int} {x : Int} : x ∈ setI l ↔ x ∈ l := by
  unfold setI ddL
  rw [dd_mem _ _ (Nat.le_refl _), List.take_length]
  exact (sortI_perm l).mem_iff
theorem dd_sub (l : List Int) : ∀ p, p ≤ l.length → (dd l p).length = p → dd l p = l.take p
  | 0, _, _ => by simp [dd]
  | p + 1, hp, h => by
    have hg : l[p]? = some l[p] := List.getElem?_eq_getElem (by omega)
    have hl := dd_len l p
    rw [dd, hg] at h ⊢
    simp only at h ⊢
    split at h
    · omega
    · rename_i hc
      rw [if_neg hc]
      rw [List.length_append] at h
      have := dd_sub l p (by omega) (by simpa using h)
      rw [this, List.take_succ_eq_append_getElem (by omega)]
theorem rises_nodup {l : List Int} (h : l.Pairwise (· < ·)) : l.Nodup := h.imp fun {a b} h hc => by omega
theorem setI_nodup {l : List Int} : (setI l).length = l.length ↔ l.Nodup := by
  constructor
  · intro h
    have h1 := rises_nodup (setI_rises l)
    have h2 : setI l = sortI l := by
      have := dd_sub (sortI l) (sortI l).length (Nat.le_refl _) (h.trans (sortI_len l).symm)
      rw [List.take_length] at this
      exact this
    rw [h2] at h1
    exact (sortI_perm l).nodup_iff.1 h1
  · intro h
    exact ((List.perm_ext_iff_of_nodup (rises_nodup (setI_rises l)) h).2 fun x => setI_mem).length_eq
def castL (l : List Nat) : List Int := l.map fun n : Nat => (n : Int)
theorem mem_castL {l : List Nat} {n : Nat} : (n : Int) ∈ castL l ↔ n ∈ l := by
  unfold castL
  rw [List.mem_map]
  constructor
  · rintro ⟨m, hm, he⟩; obtain rfl : m = n := by omega
    exact hm
  · exact fun h => ⟨n, h, rfl⟩
theorem castL_of {l : List Nat} {x : Int} (h : x ∈ castL l) : ∃ n : Nat, x = (n : Int) ∧ n ∈ l := by
  unfold castL at h
  rw [List.mem_map] at h
  obtain ⟨n, hn, rfl⟩ := h
  exact ⟨n, rfl, hn⟩
def closN (t : List Ev) (l : List Nat) : List Nat := selTo (fun i => l.any fun q => decide (i = q) || befT t i q) t.length
theorem mem_closN {t : List Ev} {l : List Nat} {i : Nat} : i ∈ closN t l ↔ i < t.length ∧ ∃ q ∈ l, i = q ∨ befT t i q = true := by
  unfold closN
  rw [selTo_mem, List.any_eq_true]
  simp only [Bool.or_eq_true, decide_eq_true_eq]
theorem closN_rises (t : List Ev) (l : List Nat) : (castL (closN t l)).Pairwise (· < ·) := by
  unfold castL
  refine List.Pairwise.map _ ?_ (selTo_sorted _ _)
  intro a b h; omega
theorem mem_gath {t : List Ev} {l : List Nat} {i : Nat} : i ∈ gath t l l ↔ ∃ q ∈ l, i = q ∨ befT t i q = true := by
  unfold gath
  rw [List.mem_append, List.mem_flatten]
  constructor
  · rintro (h | ⟨r, hr, hi⟩)
    · exact ⟨i, h, .inl rfl⟩
    · rw [List.mem_map] at hr
      obtain ⟨q, hq, rfl⟩ := hr
      exact ⟨q, hq, .inr (mem_past.1 hi)⟩
  · rintro ⟨q, hq, rfl | h⟩
    · exact .inl hq
    · exact .inr ⟨_, List.mem_map.2 ⟨q, hq, rfl⟩, mem_past.2 h⟩
theorem closedI_eq {t : List Ev} {l : List Nat} (hp : ∀ i ∈ l, i < t.length) : closedI t l = castL (closN t l) := by
  show setI (castL (gath t l l)) = _
  refine rises_ext (setI_rises _) (closN_rises t l) fun x => ?_
  rw [setI_mem]
  constructor
  · intro h
    obtain ⟨n, rfl, hn⟩ := castL_of h
    rw [mem_castL, mem_closN]
    rw [mem_gath] at hn
    refine ⟨?_, hn⟩
    obtain ⟨q, hq, rfl | hb⟩ := hn
    · exact hp _ hq
    · have := bef_lt hb; have := hp q hq; omega
  · intro h
    obtain ⟨n, rfl, hn⟩ := castL_of h
    rw [mem_castL, mem_gath]
    exact (mem_closN.1 hn).2
def cutN (t : List Ev) (l : List Nat) : Bool := (closN t l).all fun i => l.contains i
theorem cut_eq {t : List Ev} {l : List Nat} (hp : ∀ i ∈ l, i < t.length) : decide (setI (castL l) = closedI t l) = cutN t l := by
  rw [closedI_eq hp, Bool.eq_iff_iff, decide_eq_true_eq]
  unfold cutN
  rw [List.all_eq_true]
  simp only [List.contains_iff_mem]
  constructor
  · intro h i hi
    have : (i : Int) ∈ castL (closN t l) := mem_castL.2 hi
    rw [← h, setI_mem, mem_castL] at this
    exact this
  · intro h
    refine rises_ext (setI_rises _) (closN_rises t l) fun x => ?_
    rw [setI_mem]
    constructor
    · intro hx
      obtain ⟨n, rfl, hn⟩ := castL_of hx
      rw [mem_castL, mem_closN]
      exact ⟨hp n hn, n, hn, .inl rfl⟩
    · intro hx
      obtain ⟨n, rfl, hn⟩ := castL_of hx
      rw [mem_castL]
      exact h n hn
def linN (t : List Ev) (l : List Nat) : Bool := (List.range l.length).all fun b => (List.range b).all fun a => !befT t (l.getD b 0) (l.getD a 0)
theorem linN_iff {t : List Ev} {l : List Nat} : linN t l = true ↔ ∀ b, b < l.length → ∀ a, a < b → befT t (l.getD b 0) (l.getD a 0) = false := by
  unfold linN
  simp only [List.all_eq_true, List.mem_range, Bool.not_eq_true']
def listE (t : List Ev) (l : List Int) : Int := if checkT t = 0 then (if 256 < l.length then 2 else askT t l) else checkT t
theorem listE_wrong {t : List Ev} (h : ¬ checkT t = 0) (l : List Int) : listE t l = checkT t := if_neg h
theorem listE_ok {t : List Ev} {l : List Int} (h : listE t l = 0) : checkT t = 0 ∧ Good t ∧ l.length ≤ 256 ∧ ∃ m : List Nat, l = castL m ∧ ∀ i ∈ m, i < t.length := by
  unfold listE at h
  split at h
  · rename_i h0
    split at h
    · cases h
    · obtain ⟨hG, hp⟩ := ask_ok h
      refine ⟨h0, hG, by omega, l.map Int.toNat, ?_, fun i hi => ?_⟩
      · unfold castL
        rw [List.map_map]
        refine (List.map_id l).symm.trans (List.map_congr_left fun x hx => ?_)
        have := hp x hx
        simp only [id, Function.comp]
        omega
      · rw [List.mem_map] at hi
        obtain ⟨x, hx, rfl⟩ := hi
        have := hp x hx
        omega
  · rename_i h0; exact absurd h h0
/-! ### The walks -/
def c84 : ACode :=
  (.seq (.reg none [⟨some 4, none, .m (.alloc (.g [.nil, .nil]))⟩, ⟨some 5, none, .q (.mv (.c (.i .i64 0)))⟩])
  (.keep [0, 1, 4]
  (.seq (.seq (.reg none [⟨some 7, none, .q (.mv (.t 0))⟩, ⟨some 8, none, .call (.f 55) [(.t 7)]⟩, ⟨some 6, none, .q (.mv (.t 8))⟩])
    (.keep [0, 1, 4, 6]
    (.seq (.reg none [⟨some 9, none, .q (.mv (.t 6))⟩, ⟨some 10, none, .q (.bin .neq (.t 9) (.c (.i .i64 0)))⟩])
    (.keep [0, 1, 4, 6, 10]
    (.cond (.t 10) (.seq (.reg none [⟨some 11, none, .q (.bld [.nil, .nil] [])⟩, ⟨some 12, none, .q (.mv (.t 6))⟩, ⟨none, none, .m (.st 2 (.t 4) (.t 11))⟩, ⟨some 5, none, .q (.mv (.t 12))⟩])
      .ret)
    .skip)))))
  (.seq (.seq (.reg none [⟨some 13, none, .q (.mv (.t 1))⟩, ⟨some 14, none, .q (.len false (.t 13))⟩, ⟨some 15, none, .q (.bin .gtr (.t 14) (.c (.i .i64 256)))⟩])
    (.keep [0, 1, 4, 15]
    (.cond (.t 15) (.seq (.reg none [⟨some 16, none, .q (.bld [.nil, .nil] [])⟩, ⟨none, none, .m (.st 2 (.t 4) (.t 16))⟩, ⟨some 5, none, .q (.mv (.c (.i .i64 2)))⟩])
      .ret)
    .skip)))
  (.seq (.reg none [⟨some 17, none, .q (.mv (.t 0))⟩, ⟨some 18, none, .q (.mv (.t 1))⟩, ⟨some 19, none, .call (.f 60) [(.t 17), (.t 18)]⟩, ⟨some 20, none, .q (.ext 0 (.t 19))⟩, ⟨some 21, none, .q (.ext 1 (.t 19))⟩, ⟨none, none, .m (.st 2 (.t 4) (.t 20))⟩, ⟨some 5, none, .q (.mv (.t 21))⟩])
  .ret)))))
theorem r84 : (Try.f84.body.bind (resC Try.prog Try.f84.ntmps)) = some (strip c84) := by kernel_rfl
theorem s84 : Try.f84.results.toList.mapM (resRes Try.prog) = some [.c 4 (some 2), .t 5] := by kernel_rfl
def c51 : ACode :=
  (.seq (.reg none [⟨some 4, none, .q (.mv (.c .nil))⟩, ⟨some 5, none, .q (.mv (.c (.i .i64 0)))⟩])
  (.keep [0, 1]
  (.seq (.reg none [⟨some 9, none, .q (.mv (.t 0))⟩, ⟨some 10, none, .q (.mv (.t 1))⟩, ⟨some 11, none, .call (.f 84) [(.t 9), (.t 10)]⟩, ⟨some 8, none, .q (.mv (.t 11))⟩, ⟨some 12, none, .q (.ext 0 (.t 8))⟩, ⟨some 13, none, .q (.ext 1 (.t 8))⟩, ⟨some 6, none, .m (.alloc (.g [.nil, .nil]))⟩, ⟨none, none, .m (.st 2 (.t 6) (.t 12))⟩, ⟨some 7, none, .q (.mv (.t 13))⟩])
  (.keep [1, 6, 7]
  (.seq (.seq (.reg none [⟨some 14, none, .q (.mv (.t 7))⟩, ⟨some 15, none, .q (.bin .neq (.t 14) (.c (.i .i64 0)))⟩])
    (.keep [1, 6, 7, 15]
    (.cond (.t 15) (.seq (.reg none [⟨some 16, none, .q (.mv (.t 7))⟩, ⟨some 4, none, .q (.mv (.c .nil))⟩, ⟨some 5, none, .q (.mv (.t 16))⟩])
      .ret)
    .skip)))
  (.seq (.reg none [⟨some 17, none, .q (.ld (some 2) (.t 6))⟩, ⟨some 18, none, .q (.mv (.t 1))⟩, ⟨some 19, none, .call (.f 90) [(.t 17), (.t 18)]⟩, ⟨some 4, none, .q (.mv (.t 19))⟩, ⟨some 5, none, .q (.mv (.c (.i .i64 0)))⟩])
  .ret))))))
theorem r51 : (Try.f51.body.bind (resC Try.prog Try.f51.ntmps)) = some (strip c51) := by kernel_rfl
theorem s51 : Try.f51.results.toList.mapM (resRes Try.prog) = some [.t 4, .t 5] := by kernel_rfl
def c50 : ACode :=
  (.seq (.reg none [⟨some 4, none, .q (.mv (.c (.b false)))⟩, ⟨some 5, none, .q (.mv (.c (.i .i64 0)))⟩])
  (.keep [0, 1]
  (.seq (.reg none [⟨some 10, none, .q (.mv (.t 0))⟩, ⟨some 11, none, .q (.mv (.t 1))⟩, ⟨some 12, none, .call (.f 84) [(.t 10), (.t 11)]⟩, ⟨some 9, none, .q (.mv (.t 12))⟩, ⟨some 13, none, .q (.ext 0 (.t 9))⟩, ⟨some 14, none, .q (.ext 1 (.t 9))⟩, ⟨some 6, none, .m (.alloc (.g [.nil, .nil]))⟩, ⟨none, none, .m (.st 2 (.t 6) (.t 13))⟩, ⟨some 7, none, .q (.mv (.t 14))⟩])
  (.keep [1, 6, 7]
  (.seq (.seq (.reg none [⟨some 15, none, .q (.mv (.t 7))⟩, ⟨some 16, none, .q (.bin .neq (.t 15) (.c (.i .i64 0)))⟩])
    (.keep [1, 6, 7, 16]
    (.cond (.t 16) (.seq (.reg none [⟨some 17, none, .q (.mv (.t 7))⟩, ⟨some 4, none, .q (.mv (.c (.b false)))⟩, ⟨some 5, none, .q (.mv (.t 17))⟩])
      .ret)
    .skip)))
  (.seq (.reg none [⟨some 18, none, .q (.mv (.t 1))⟩, ⟨some 19, none, .call (.f 86) [(.t 18)]⟩, ⟨some 20, none, .call (.f 85) [(.t 19)]⟩, ⟨some 8, none, .q (.mv (.t 20))⟩])
  (.keep [1, 6, 8]
  (.seq (.reg (some (3, [1])) [⟨some 21, none, .q (.mv (.t 8))⟩, ⟨some 23, none, .q (.ld (some 2) (.t 6))⟩, ⟨some 24, none, .q (.mv (.t 1))⟩, ⟨some 22, none, .call (.f 87) [(.t 21)]⟩, ⟨some 25, none, .call (.f 90) [(.t 23), (.t 24)]⟩, ⟨some 26, none, .call (.f 89) [(.t 22), (.t 25)]⟩, ⟨some 4, none, .q (.mv (.t 26))⟩, ⟨some 5, none, .q (.mv (.c (.i .i64 0)))⟩])
  .ret))))))))
theorem r50 : (Try.f50.body.bind (resCX true Try.prog Try.f50.ntmps)) = some (strip c50) := by kernel_rfl
theorem s50 : Try.f50.results.toList.mapM (resRes Try.prog) = some [.t 4, .t 5] := by kernel_rfl
def c48 : ACode :=
  (.seq (.reg none [⟨some 4, none, .q (.mv (.c (.b false)))⟩, ⟨some 5, none, .q (.mv (.c (.i .i64 0)))⟩])
  (.keep [0, 1]
  (.seq (.reg none [⟨some 14, none, .q (.mv (.t 0))⟩, ⟨some 15, none, .q (.mv (.t 1))⟩, ⟨some 16, none, .call (.f 84) [(.t 14), (.t 15)]⟩, ⟨some 13, none, .q (.mv (.t 16))⟩, ⟨some 17, none, .q (.ext 0 (.t 13))⟩, ⟨some 18, none, .q (.ext 1 (.t 13))⟩, ⟨some 6, none, .m (.alloc (.g [.nil, .nil]))⟩, ⟨none, none, .m (.st 2 (.t 6) (.t 17))⟩, ⟨some 7, none, .q (.mv (.t 18))⟩])
  (.keep [0, 1, 6, 7]
  (.seq (.seq (.reg none [⟨some 19, none, .q (.mv (.t 7))⟩, ⟨some 20, none, .q (.bin .neq (.t 19) (.c (.i .i64 0)))⟩])
    (.keep [0, 1, 6, 7, 20]
    (.cond (.t 20) (.seq (.reg none [⟨some 21, none, .q (.mv (.t 7))⟩, ⟨some 4, none, .q (.mv (.c (.b false)))⟩, ⟨some 5, none, .q (.mv (.t 21))⟩])
      .ret)
    .skip)))
  (.seq (.reg none [⟨some 22, none, .q (.mv (.t 1))⟩, ⟨some 23, none, .call (.f 86) [(.t 22)]⟩, ⟨some 24, none, .call (.f 85) [(.t 23)]⟩, ⟨some 8, none, .q (.mv (.t 24))⟩])
  (.keep [0, 1, 6, 8]
  (.seq (.seq (.reg none [⟨some 25, none, .q (.mv (.t 8))⟩, ⟨some 26, none, .call (.f 87) [(.t 25)]⟩, ⟨some 27, none, .q (.len false (.t 26))⟩, ⟨some 28, none, .q (.mv (.t 0))⟩, ⟨some 29, none, .q (.len false (.t 28))⟩, ⟨some 30, none, .q (.bin .neq (.t 27) (.t 29))⟩, ⟨some 31, none, .q (.mv (.t 30))⟩, ⟨some 32, some (31, false), .q (.mv (.t 1))⟩, ⟨some 33, some (31, false), .q (.len false (.t 32))⟩, ⟨some 34, some (31, false), .q (.mv (.t 0))⟩, ⟨some 35, some (31, false), .q (.len false (.t 34))⟩, ⟨some 36, some (31, false), .q (.bin .neq (.t 33) (.t 35))⟩, ⟨some 37, none, .pk (.t 31) (.c (.b true)) (.t 36)⟩])
    (.keep [1, 6, 37]
    (.cond (.t 37) (.seq (.reg none [⟨some 4, none, .q (.mv (.c (.b false)))⟩, ⟨some 5, none, .q (.mv (.c (.i .i64 1)))⟩])
      .ret)
    .skip)))
  (.seq (.seq (.reg none [⟨some 38, none, .q (.mv (.t 1))⟩, ⟨some 39, none, .q (.len false (.t 38))⟩, ⟨some 40, none, .q (.mv (.c (.i .i64 0)))⟩])
    (.keep [1, 6, 38, 39, 40]
    (.blk 0 (.keep [1, 6, 38, 39, 40]
    (.loop (.fin [1, 6, 38, 39, 40]
      (.seq (.reg none [⟨some 41, none, .q (.bin .lss (.t 40) (.t 39))⟩])
      (.keep [1, 6, 38, 39, 40, 41]
      (.seq (.cond (.t 41) .skip
        (.exit 0))
      (.seq (.blk 1 (.seq (.reg none [⟨some 42, none, .q (.mv (.t 40))⟩, ⟨some 43, none, .q (.ias 1 (.t 38) (.t 40))⟩, ⟨some 44, none, .q (.ld none (.t 43))⟩, ⟨some 9, none, .q (.mv (.t 42))⟩, ⟨some 10, none, .q (.mv (.t 44))⟩])
        (.keep [1, 6, 9, 10, 38, 39, 40]
        (.seq (.reg none [⟨some 45, none, .q (.mv (.t 1))⟩, ⟨some 46, none, .q (.mv (.t 9))⟩, ⟨some 47, none, .q (.bin .add (.t 46) (.c (.i .i64 1)))⟩, ⟨some 48, none, .q (.sls 1 (.t 45) (some (.t 47)) none)⟩, ⟨some 49, none, .q (.len false (.t 48))⟩, ⟨some 50, none, .q (.mv (.c (.i .i64 0)))⟩])
        (.keep [1, 6, 10, 38, 39, 40, 48, 49, 50]
        (.blk 2 (.keep [1, 6, 10, 38, 39, 40, 48, 49, 50]
        (.loop (.fin [1, 6, 10, 38, 39, 40, 48, 49, 50]
          (.seq (.reg none [⟨some 51, none, .q (.bin .lss (.t 50) (.t 49))⟩])
          (.keep [1, 6, 10, 38, 39, 40, 48, 49, 50, 51]
          (.seq (.cond (.t 51) .skip
            (.exit 2))
          (.seq (.blk 3 (.seq (.reg none [⟨some 52, none, .q (.ias 1 (.t 48) (.t 50))⟩, ⟨some 53, none, .q (.ld none (.t 52))⟩, ⟨some 12, none, .q (.mv (.t 53))⟩])
            (.keep [1, 6, 10, 12, 38, 39, 40, 48, 49, 50]
            (.seq (.reg none [⟨some 54, none, .q (.ld (some 2) (.t 6))⟩, ⟨some 55, none, .q (.mv (.t 12))⟩, ⟨some 56, none, .q (.mv (.t 10))⟩, ⟨some 57, none, .call (.f 64) [(.t 54), (.t 55), (.t 56)]⟩])
            (.keep [1, 6, 10, 38, 39, 40, 48, 49, 50, 57]
            (.cond (.t 57) (.seq (.reg none [⟨some 4, none, .q (.mv (.c (.b false)))⟩, ⟨some 5, none, .q (.mv (.c (.i .i64 0)))⟩])
              .ret)
            .skip))))))
          (.keep [1, 6, 10, 38, 39, 40, 48, 49, 50]
          (.reg none [⟨some 58, none, .q (.bin .add (.t 50) (.c (.i .i64 1)))⟩, ⟨some 50, none, .q (.mv (.t 58))⟩])))))))))))))))
      (.keep [1, 6, 38, 39, 40]
      (.reg none [⟨some 59, none, .q (.bin .add (.t 40) (.c (.i .i64 1)))⟩, ⟨some 40, none, .q (.mv (.t 59))⟩]))))))))))))
  (.seq (.reg none [⟨some 4, none, .q (.mv (.c (.b true)))⟩, ⟨some 5, none, .q (.mv (.c (.i .i64 0)))⟩])
  .ret))))))))))
theorem r48 : (Try.f48.body.bind (resC Try.prog Try.f48.ntmps)) = some (strip c48) := by kernel_rfl
theorem s48 : Try.f48.results.toList.mapM (resRes Try.prog) = some [.t 4, .t 5] := by kernel_rfl
def c89 : ACode :=
  (.seq (.reg none [⟨some 4, none, .q (.mv (.c (.b false)))⟩])
  (.keep [0, 1]
  (.seq (.seq (.reg none [⟨some 6, none, .q (.mv (.t 0))⟩, ⟨some 7, none, .q (.len false (.t 6))⟩, ⟨some 8, none, .q (.mv (.t 1))⟩, ⟨some 9, none, .q (.len false (.t 8))⟩, ⟨some 10, none, .q (.bin .neq (.t 7) (.t 9))⟩])
    (.keep [0, 1, 10]
    (.cond (.t 10) (.seq (.reg none [⟨some 4, none, .q (.mv (.c (.b false)))⟩])
      .ret)
    .skip)))
  (.seq (.seq (.reg none [⟨some 11, none, .q (.mv (.t 0))⟩, ⟨some 12, none, .q (.len false (.t 11))⟩, ⟨some 13, none, .q (.mv (.c (.i .i64 0)))⟩])
    (.keep [0, 1, 12, 13]
    (.blk 0 (.keep [0, 1, 12, 13]
    (.loop (.fin [0, 1, 12, 13]
      (.seq (.reg none [⟨some 14, none, .q (.bin .lss (.t 13) (.t 12))⟩])
      (.keep [0, 1, 12, 13, 14]
      (.seq (.cond (.t 14) .skip
        (.exit 0))
      (.seq (.blk 1 (.seq (.reg none [⟨some 15, none, .q (.mv (.t 13))⟩, ⟨some 5, none, .q (.mv (.t 15))⟩])
        (.keep [0, 1, 5, 12, 13]
        (.seq (.reg (some (9, [])) [⟨some 16, none, .q (.mv (.t 0))⟩, ⟨some 17, none, .q (.mv (.t 5))⟩, ⟨some 18, none, .q (.ias 1 (.t 16) (.t 17))⟩, ⟨some 19, none, .q (.ld none (.t 18))⟩, ⟨some 20, none, .q (.mv (.t 1))⟩, ⟨some 21, none, .q (.mv (.t 5))⟩, ⟨some 22, none, .q (.ias 1 (.t 20) (.t 21))⟩, ⟨some 23, none, .q (.ld none (.t 22))⟩, ⟨some 24, none, .q (.bin .neq (.t 19) (.t 23))⟩])
        (.keep [0, 1, 12, 13, 24]
        (.cond (.t 24) (.seq (.reg none [⟨some 4, none, .q (.mv (.c (.b false)))⟩])
          .ret)
        .skip))))))
      (.keep [0, 1, 12, 13]
      (.reg none [⟨some 25, none, .q (.bin .add (.t 13) (.c (.i .i64 1)))⟩, ⟨some 13, none, .q (.mv (.t 25))⟩]))))))))))))
  (.seq (.reg none [⟨some 4, none, .q (.mv (.c (.b true)))⟩])
  .ret)))))
theorem r89 : (Try.f89.body.bind (resC Try.prog Try.f89.ntmps)) = some (strip c89) := by kernel_rfl
theorem s89 : Try.f89.results.toList.mapM (resRes Try.prog) = some [.t 4] := by kernel_rfl
theorem listed_p (t : List Ev) (ht : t.length < 4611686018427387904) (l : List Int) (hl : l.length < 100000000000000) : PureS Try.prog 84 [.sl 26 (t.map Ev.row), .sl 1 (l.map irow)] (.tup [if listE t l = 0 then tabV t else .g [.nil, .nil], .i .i64 (listE t l)]) := by
  refine fun_go hmx Try.func84 r84 s84 (by rw [Try.ntmps84]; simp) ?_
  unfold c84
  simp
  first
    | refine callk rfl Try.call55 (check_p t ht) rfl ?_
    | refine callks rfl Try.call55 (check_p t ht) rfl ?_
    | refine callq rfl Try.call55 (check_p t ht) rfl ?_
    | refine callqe rfl Try.call55 (check_p t ht) rfl ?_
  by_cases h0 : checkT t = 0
  rotate_left
  · simp [h0, listE]
  simp [h0]
  by_cases h2 : 256 < l.length
  · have h2I : (256 : Int) < (l.length : Int) := by omega
    simp [h0, listE, h2, h2I]
    intro h3; omega
  have h2I : ¬ (256 : Int) < (l.length : Int) := by omega
  simp [h2I]
  intro _
  first
    | refine callk rfl Try.call60 (asked_p t l ht (by omega)) rfl ?_
    | refine callks rfl Try.call60 (asked_p t l ht (by omega)) rfl ?_
    | refine callq rfl Try.call60 (asked_p t l ht (by omega)) rfl ?_
    | refine callqe rfl Try.call60 (asked_p t l ht (by omega)) rfl ?_
  by_cases ha : askT t l = 0 <;> simp [listE, h0, h2, askV, tabV, ha]
theorem closed_a (t : List Ev) (h : Good t) (m : List Nat) (hl : m.length ≤ 256) (hp : ∀ i ∈ m, i < t.length) : PureS Try.prog 90 [tabV t, .sl 1 ((castL m).map irow)] (.sl 1 ((castL (closN t m)).map irow)) := by
  by_cases h0 : m = []
  · subst h0
    have : closN t [] = [] := by simp [closN, selTo]
    rw [this]
    exact closed_nil t
  · have := closed_p t h m hl hp h0
    rw [closedI_eq hp] at this
    have e : m.map nrow = (castL m).map irow := by simp [castL]
    rw [e] at this
    exact this
theorem castL_nat (m : List Nat) : (castL m).map Int.toNat = m := by
  unfold castL
  rw [List.map_map]
  exact (List.map_congr_left fun x _ => by simp).trans (List.map_id m)
theorem closed_all (t : List Ev) (ht : t.length < 4611686018427387904) (l : List Int) (hl : l.length < 100000000000000) : PureS Try.prog 51 [.sl 26 (t.map Ev.row), .sl 1 (l.map irow)] (.tup [if listE t l = 0 then .sl 1 ((castL (closN t (l.map Int.toNat))).map irow) else .nil, .i .i64 (listE t l)]) := by
  refine fun_go hmx Try.func51 r51 s51 (by rw [Try.ntmps51]; simp) ?_
  unfold c51
  simp
  first
    | refine callk rfl Try.call84 (listed_p t ht l hl) rfl ?_
    | refine callks rfl Try.call84 (listed_p t ht l hl) rfl ?_
    | refine callq rfl Try.call84 (listed_p t ht l hl) rfl ?_
    | refine callqe rfl Try.call84 (listed_p t ht l hl) rfl ?_
  by_cases h0 : listE t l = 0
  rotate_left
  · simp [h0]
  obtain ⟨_, hG, hll, m, rfl, hm⟩ := listE_ok h0
  have hmm : (castL m).map Int.toNat = m := castL_nat m
  rw [hmm]
  simp [h0, tabV]
  first
    | refine callk rfl Try.call90 (closed_a t hG m (by simpa [castL] using hll) hm) rfl ?_
    | refine callks rfl Try.call90 (closed_a t hG m (by simpa [castL] using hll) hm) rfl ?_
    | refine callq rfl Try.call90 (closed_a t hG m (by simpa [castL] using hll) hm) rfl ?_
    | refine callqe rfl Try.call90 (closed_a t hG m (by simpa [castL] using hll) hm) rfl ?_
  simp
theorem equal_p (a b : List Int) (ha : a.length < 1000000) : PureS Try.prog 89 [.sl 1 (a.map irow), .sl 1 (b.map irow)] (.b (decide (a = b))) := by
  refine fun_go hmx Try.func89 r89 s89 (by rw [Try.ntmps89]; simp) ?_
  unfold c89
  simp
  refine ⟨fun hl hc => hl (by rw [hc]), fun hl => ?_⟩
  have hl : a.length = b.length := by omega
  refine go_while hmx 0 (fun (k : Nat) => [(13, .v (.i .i64 (k : Int)))]) (fun _ => []) (fun k => k ≤ a.length ∧ a.take k = b.take k) (fun k => a.length - k) 0 rfl (by simp) rfl (by simp) (by simp) (by simp) ⟨Nat.zero_le _, by simp⟩ ?_
  rintro k ⟨hk, he⟩
  by_cases hkl : k < a.length
  · have hI : (k : Int) < (a.length : Int) := by omega
    have hkb : k < b.length := by omega
    have hIb : (k : Int) < (b.length : Int) := by omega
    have hw : IntKind.i64.wrap ((k : Int) + 1) = (k : Int) + 1 := wrap_in (by omega) (by omega)
    simp [hI, hIb, hkl, hkb, irow]
    refine ⟨fun h1 h2 => h1 (by subst h2; rfl), fun h1 => ⟨k + 1, by rw [hw]; rfl, ⟨by omega, ?_⟩, by omega⟩⟩
    rw [List.take_succ_eq_append_getElem hkl, List.take_succ_eq_append_getElem hkb, he, h1]
  · obtain rfl : k = a.length := by omega
    rw [hl, List.take_length, ← hl, List.take_length] at he
    subst he
    simp
theorem cut_all (t : List Ev) (ht : t.length < 4611686018427387904) (l : List Int) (hl : l.length < 100000000000000) : PureS Try.prog 50 [.sl 26 (t.map Ev.row), .sl 1 (l.map irow)] (.tup [.b (decide (listE t l = 0) && cutN t (l.map Int.toNat)), .i .i64 (listE t l)]) := by
  refine fun_go hmx Try.func50 r50 s50 (by rw [Try.ntmps50]; simp) ?_
  unfold c50
  simp
  first
    | refine callk rfl Try.call84 (listed_p t ht l hl) rfl ?_
    | refine callks rfl Try.call84 (listed_p t ht l hl) rfl ?_
    | refine callq rfl Try.call84 (listed_p t ht l hl) rfl ?_
    | refine callqe rfl Try.call84 (listed_p t ht l hl) rfl ?_
  by_cases h0 : listE t l = 0
  rotate_left
  · simp [h0]
  obtain ⟨_, hG, hll, m, rfl, hm⟩ := listE_ok h0
  have hmm : (castL m).map Int.toNat = m := castL_nat m
  rw [hmm]
  simp [h0, tabV]
  first
    | refine callk rfl Try.call86 (values_p (castL m)) rfl ?_
    | refine callks rfl Try.call86 (values_p (castL m)) rfl ?_
    | refine callq rfl Try.call86 (values_p (castL m)) rfl ?_
    | refine callqe rfl Try.call86 (values_p (castL m)) rfl ?_
  simp
  refine callo rfl Try.call85 (sorted_p (castL m) (by omega)) ?_ ⟨.v _, trivial⟩ ?_
  · intro row hr y hy
    simp only [List.mem_map] at hr
    obtain ⟨n, _, rfl⟩ := hr
    simp [irow] at hy; subst hy; exact .i _ _
  simp
  refine callfs [1] rfl Try.call87 (compact_p (sortI (castL m)) 0 (by rw [sortI_len]; omega)) (by decide) rfl (by simp) (by simp) (by simp) ?_
  rintro _ _ ⟨v', rfl, rfl⟩
  refine ⟨.inr (by simp [stab, evQ]), ?_⟩
  simp
  first
    | refine callk rfl Try.call90 (closed_a t hG m (by simpa [castL] using hll) hm) rfl ?_
    | refine callks rfl Try.call90 (closed_a t hG m (by simpa [castL] using hll) hm) rfl ?_
    | refine callq rfl Try.call90 (closed_a t hG m (by simpa [castL] using hll) hm) rfl ?_
    | refine callqe rfl Try.call90 (closed_a t hG m (by simpa [castL] using hll) hm) rfl ?_
  simp
  refine callg1s 1 v' [] [.sl 1 ((castL (closN t m)).map irow)] rfl Try.call89 (equal_p (setI (castL m)) (castL (closN t m)) (by have := dd_len (sortI (castL m)) (sortI (castL m)).length; rw [sortI_len] at this; unfold setI ddL; rw [sortI_len]; omega)) rfl rfl (by simp [stab, evQ]) ?_
  have hce := cut_eq hm
  rw [closedI_eq hm] at hce
  simp [hce]
theorem linear_all (t : List Ev) (ht : t.length < 4611686018427387904) (l : List Int) (hl : l.length < 100000000000000) : PureS Try.prog 48 [.sl 26 (t.map Ev.row), .sl 1 (l.map irow)] (.tup [.b (decide (listE t l = 0) && (decide (l.length = t.length ∧ l.Nodup) && linN t (l.map Int.toNat))), .i .i64 (if listE t l = 0 then (if l.length = t.length ∧ l.Nodup then 0 else 1) else listE t l)]) := by
  refine fun_go hmx Try.func48 r48 s48 (by rw [Try.ntmps48]; simp) ?_
  unfold c48
  simp
  first
    | refine callk rfl Try.call84 (listed_p t ht l hl) rfl ?_
    | refine callks rfl Try.call84 (listed_p t ht l hl) rfl ?_
    | refine callq rfl Try.call84 (listed_p t ht l hl) rfl ?_
    | refine callqe rfl Try.call84 (listed_p t ht l hl) rfl ?_
  by_cases h0 : listE t l = 0
  rotate_left
  · simp [h0]
  obtain ⟨_, hG, hll, m, rfl, hm⟩ := listE_ok h0
  have hmm : (castL m).map Int.toNat = m := castL_nat m
  rw [hmm]
  simp [h0, tabV]
  first
    | refine callk rfl Try.call86 (values_p (castL m)) rfl ?_
    | refine callks rfl Try.call86 (values_p (castL m)) rfl ?_
    | refine callq rfl Try.call86 (values_p (castL m)) rfl ?_
    | refine callqe rfl Try.call86 (values_p (castL m)) rfl ?_
  simp
  refine callo rfl Try.call85 (sorted_p (castL m) (by omega)) ?_ ⟨.v _, trivial⟩ ?_
  · intro row hr y hy
    simp only [List.mem_map] at hr
    obtain ⟨n, _, rfl⟩ := hr
    simp [irow] at hy; subst hy; exact .i _ _
  simp
  refine callf [1] rfl Try.call87 (compact_p (sortI (castL m)) 0 (by rw [sortI_len]; omega)) (by decide) rfl (by simp) (by simp) (by simp) ?_
  rintro _ _ ⟨v', rfl, rfl⟩
  have hcl : (castL m).length = m.length := by simp [castL]
  have hset : (ddL (sortI (castL m))).length = (castL m).length ↔ (castL m).Nodup := setI_nodup
  have hsl : (ddL (sortI (castL m))).length ≤ (castL m).length := by
    have := dd_len (sortI (castL m)) (sortI (castL m)).length
    rw [sortI_len] at this
    unfold ddL
    rw [sortI_len]
    exact this
  simp [hcl]
  by_cases hok : (castL m).length = t.length ∧ (castL m).Nodup
  rotate_left
  · refine ⟨fun hc => ⟨fun h1 h2 => absurd ⟨hcl.trans h1, h2⟩ hok, fun h1 h2 => hok ⟨hcl.trans h1, h2⟩⟩, fun h1 h2 => absurd ?_ hok⟩
    have h2' : m.length = t.length := by omega
    exact ⟨by omega, hset.1 (by omega)⟩
  obtain ⟨hok1, hok2⟩ := hok
  have hok3 := hset.2 hok2
  rw [hcl] at hok1 hok3
  simp [hok1, hok2, hok3]
  have hml : m.length < 1000000 := by have := hG.len; omega
  have hcg : ∀ (k : Nat) (hk : k < m.length), (castL m)[k]'(by omega) = (m[k] : Int) := fun k hk => by simp [castL]
  obtain ⟨f, hf⟩ : ∃ f : Nat → Nat, ∀ k, m.getD k 0 = f k := ⟨fun k => m.getD k 0, fun _ => rfl⟩
  refine go_while hmx 2 (fun (a : Nat) => [(40, .v (.i .i64 (a : Int)))]) (fun _ => [.var [.v (.sl 26 (t.map Ev.row)), .v (.sl 6 ((clk t t.length).map crow))], .arr v' 1 (vrows ((ddL (sortI (castL m))).map irow))]) (fun a => a ≤ t.length ∧ ∀ b, b < t.length → ∀ a', a' < a → a' < b → befT t (f b) (f a') = false) (fun a => t.length - a) 0 rfl (by simp) rfl (by simp) (by simp) (by simp) ⟨Nat.zero_le _, fun b _ a' h => by omega⟩ ?_
  rintro a ⟨ha, hia⟩
  by_cases hal : a < t.length
  · have hA : (a : Int) < (t.length : Int) := by omega
    have hw : IntKind.i64.wrap ((a : Int) + 1) = (a : Int) + 1 := wrap_in (by omega) (by omega)
    have hlt : a < (castL m).length := by omega
    have ham : a < m.length := by omega
    have hA0 : (0 : Int) ≤ (a : Int) + 1 := by omega
    simp [hA, hal, hlt, hw, hA0, irow, hcl, hok1, hcg, -List.map_drop]
    refine ⟨by omega, ?_⟩
    have hD : List.drop (a + 1) (List.take t.length ((castL m).map irow)) = (m.drop (a + 1)).map nrow := by
      rw [List.take_of_length_le (by simp [hcl, hok1])]
      have : (castL m).map irow = m.map nrow := by unfold castL; rw [List.map_map]; rfl
      rw [this, List.map_drop]
    have hDl : (m.drop (a + 1)).length = t.length - (a + 1) := by rw [List.length_drop]; omega
    have hDg : ∀ (c : Nat) (hc : c < (m.drop (a + 1)).length), (m.drop (a + 1))[c] = f (a + 1 + c) := fun c hc => by
      rw [← hf, List.getElem_drop, List.getD_eq_getElem?_getD, List.getElem?_eq_getElem (by omega)]; rfl
    have hag : m[a] = f a := by rw [← hf, List.getD_eq_getElem?_getD, List.getElem?_eq_getElem ham]; rfl
    rw [hD, hag]
    generalize m.drop (a + 1) = D at *
    refine go_while hmx 2 (fun (c : Nat) => [(50, .v (.i .i64 (c : Int)))]) (fun _ => [.var [.v (.sl 26 (t.map Ev.row)), .v (.sl 6 ((clk t t.length).map crow))], .arr v' 1 (vrows ((ddL (sortI (castL m))).map irow))]) (fun c => c ≤ t.length - (a + 1) ∧ ∀ b, a < b → b < a + 1 + c → befT t (f b) (f a) = false) (fun c => t.length - (a + 1) - c) 0 rfl (by simp) rfl (by simp) (by simp) (by simp) ⟨Nat.zero_le _, fun b h1 h2 => by omega⟩ ?_
    rintro c ⟨hc, hic⟩
    by_cases hcl2 : c < t.length - (a + 1)
    · have hC : (c : Int) < ((t.length - (a + 1) : Nat) : Int) := by omega
      have hw2 : IntKind.i64.wrap ((c : Int) + 1) = (c : Int) + 1 := wrap_in (by omega) (by omega)
      have hcD : c < D.length := by omega
      have hcg2 := hDg c hcD
      have hbm : a + 1 + c < m.length := by omega
      have hx : f (a + 1 + c) < t.length := by
        rw [← hf, List.getD_eq_getElem?_getD, List.getElem?_eq_getElem hbm]; exact hm _ (List.getElem_mem hbm)
      have hy : f a < t.length := by rw [← hag]; exact hm _ (List.getElem_mem ham)
      simp [hC, hcl2, hcD, hcg2, nrow]
      first
        | refine callk rfl Try.call64 (before_p t hG (f (a + 1 + c)) (f a) hx hy) rfl ?_
        | refine callks rfl Try.call64 (before_p t hG (f (a + 1 + c)) (f a) hx hy) rfl ?_
        | refine callq rfl Try.call64 (before_p t hG (f (a + 1 + c)) (f a) hx hy) rfl ?_
        | refine callqe rfl Try.call64 (before_p t hG (f (a + 1 + c)) (f a) hx hy) rfl ?_
      simp [hw2]
      refine ⟨fun hb => ?_, fun hb => ⟨c + 1, by first | rfl | (rw [hw2]; rfl), ⟨by omega, fun b h1 h2 => ?_⟩, by omega⟩⟩
      · rw [Bool.eq_false_iff, Ne, linN_iff]
        intro h
        have := h (a + 1 + c) hbm a (by omega)
        rw [hf, hf] at this
        rw [hb] at this
        cases this
      · by_cases hbe : b = a + 1 + c
        · subst hbe; exact hb
        · exact hic b h1 (by omega)
    · obtain rfl : c = t.length - (a + 1) := by omega
      simp [hw]
      refine ⟨a + 1, rfl, ⟨by omega, fun b hb a' h1 h2 => ?_⟩, by omega⟩
      by_cases hae : a' = a
      · subst hae; exact hic b h2 (by omega)
      · exact hia b hb a' (by omega) h2
  · obtain rfl : a = t.length := by omega
    simp
    rw [linN_iff]
    intro b hb a' ha'
    rw [hf, hf]
    exact hia b (by omega) a' (by omega) ha'
end Go.Sc.Or
