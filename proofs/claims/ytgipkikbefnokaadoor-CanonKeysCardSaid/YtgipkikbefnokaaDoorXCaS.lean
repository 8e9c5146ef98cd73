/- Chapter 13: Same. No condition. -/
import Derived.Test.YtgipkikbefnokaaDoorXCb
import Derived.Test.YtgipkikbefnokaaDoorXEv6
set_option linter.constructorNameAsVariable false
namespace Go.Sc.Or
open Go Go.RowKit Go.Av Go.Proofs Go.Sc
set_option linter.unusedSimpArgs false
set_option linter.unusedVariables false
def c27 : ACode :=
  (.seq (.reg none [⟨some 4, none, .q (.mv (.c (.b false)))⟩])
  (.keep [0, 1]
  (.seq (.seq (.reg none [⟨some 6, none, .q (.mv (.t 0))⟩, ⟨some 7, none, .q (.len false (.t 6))⟩, ⟨some 8, none, .q (.mv (.t 1))⟩, ⟨some 9, none, .q (.len false (.t 8))⟩, ⟨some 10, none, .q (.bin .neq (.t 7) (.t 9))⟩])
    (.keep [0, 1, 10]
    (.cond (.t 10) (.seq (.reg none [⟨some 4, none, .q (.mv (.c (.b false)))⟩])
      .ret)
    .skip)))
  (.seq (.seq (.reg none [⟨some 11, none, .q (.mv (.t 0))⟩, ⟨some 12, none, .q (.len false (.t 11))⟩, ⟨some 13, none, .q (.mv (.c (.i .i64 0)))⟩])
    (.keep [0, 1, 12, 13]
    (.blk 0 (.keep [0, 1, 12, 13]
    (.loop (.fin [0, 1, 12, 13]
      (.seq (.reg none [⟨some 14, none, .q (.bin .lss (.t 13) (.t 12))⟩])
      (.keep [0, 1, 12, 13, 14]
      (.seq (.cond (.t 14) .skip
        (.exit 0))
      (.seq (.blk 1 (.seq (.reg none [⟨some 15, none, .q (.mv (.t 13))⟩, ⟨some 5, none, .q (.mv (.t 15))⟩])
        (.keep [0, 1, 5, 12, 13]
        (.seq (.reg (some (9, [])) [⟨some 16, none, .q (.mv (.t 0))⟩, ⟨some 17, none, .q (.mv (.t 5))⟩, ⟨some 18, none, .q (.ias 26 (.t 16) (.t 17))⟩, ⟨some 19, none, .q (.ld (some 26) (.t 18))⟩, ⟨some 20, none, .q (.mv (.t 1))⟩, ⟨some 21, none, .q (.mv (.t 5))⟩, ⟨some 22, none, .q (.ias 26 (.t 20) (.t 21))⟩, ⟨some 23, none, .q (.ld (some 26) (.t 22))⟩, ⟨some 24, none, .q (.eqg true [.i, .i, .i, .i, .i, .i, .i, .i, .i, .b, .i, .i, .b, .i, .i, .b, .i, .i, .b, .i, .i, .b, .i, .i, .b, .i] (.t 19) (.t 23))⟩])
        (.keep [0, 1, 12, 13, 24]
        (.cond (.t 24) (.seq (.reg none [⟨some 4, none, .q (.mv (.c (.b false)))⟩])
          .ret)
        .skip))))))
      (.keep [0, 1, 12, 13]
      (.reg none [⟨some 25, none, .q (.bin .add (.t 13) (.c (.i .i64 1)))⟩, ⟨some 13, none, .q (.mv (.t 25))⟩]))))))))))))
  (.seq (.reg none [⟨some 4, none, .q (.mv (.c (.b true)))⟩])
  .ret)))))
theorem r27 : (Tryd.f27.body.bind (resC Tryd.prog Tryd.f27.ntmps)) = some (strip c27) := by kernel_rfl
theorem s27 : Tryd.f27.results.toList.mapM (resRes Tryd.prog) = some [.t 4] := by kernel_rfl
def c10 : ACode :=
  (.seq (.reg none [⟨some 4, none, .q (.mv (.c (.b false)))⟩, ⟨some 5, none, .q (.mv (.c (.i .i64 0)))⟩])
  (.keep [0, 1]
  (.seq (.seq (.reg none [⟨some 9, none, .q (.mv (.t 0))⟩, ⟨some 10, none, .q (.mv (.t 1))⟩, ⟨some 11, none, .m (.bsl 2 1 [.nil] [(0, 1, .t 9), (1, 1, .t 10)])⟩, ⟨some 12, none, .q (.len false (.t 11))⟩, ⟨some 13, none, .q (.mv (.c (.i .i64 0)))⟩])
    (.keep [0, 1, 11, 12, 13]
    (.blk 0 (.keep [0, 1, 11, 12, 13]
    (.loop (.fin [0, 1, 11, 12, 13]
      (.seq (.reg none [⟨some 14, none, .q (.bin .lss (.t 13) (.t 12))⟩])
      (.keep [0, 1, 11, 12, 13, 14]
      (.seq (.cond (.t 14) .skip
        (.exit 0))
      (.seq (.blk 1 (.seq (.reg none [⟨some 15, none, .q (.ias 1 (.t 11) (.t 13))⟩, ⟨some 16, none, .q (.ld none (.t 15))⟩, ⟨some 7, none, .q (.mv (.t 16))⟩])
        (.keep [0, 1, 7, 11, 12, 13]
        (.seq (.reg none [⟨some 17, none, .q (.mv (.t 7))⟩, ⟨some 18, none, .call (.f 15) [(.t 17)]⟩, ⟨some 8, none, .q (.mv (.t 18))⟩])
        (.keep [0, 1, 8, 11, 12, 13]
        (.seq (.reg none [⟨some 19, none, .q (.mv (.t 8))⟩, ⟨some 20, none, .q (.bin .neq (.t 19) (.c (.i .i64 0)))⟩])
        (.keep [0, 1, 8, 11, 12, 13, 20]
        (.cond (.t 20) (.seq (.reg none [⟨some 21, none, .q (.mv (.t 8))⟩, ⟨some 4, none, .q (.mv (.c (.b false)))⟩, ⟨some 5, none, .q (.mv (.t 21))⟩])
          .ret)
        .skip))))))))
      (.keep [0, 1, 11, 12, 13]
      (.reg none [⟨some 22, none, .q (.bin .add (.t 13) (.c (.i .i64 1)))⟩, ⟨some 13, none, .q (.mv (.t 22))⟩]))))))))))))
  (.seq (.reg none [⟨some 23, none, .q (.mv (.t 0))⟩, ⟨some 24, none, .q (.mv (.t 0))⟩, ⟨some 25, none, .call (.f 20) [(.t 24)]⟩, ⟨some 26, none, .call (.f 19) [(.t 23), (.t 25)]⟩, ⟨some 27, none, .q (.mv (.t 1))⟩, ⟨some 28, none, .q (.mv (.t 1))⟩, ⟨some 29, none, .call (.f 20) [(.t 28)]⟩, ⟨some 30, none, .call (.f 19) [(.t 27), (.t 29)]⟩, ⟨some 31, none, .call (.f 27) [(.t 26), (.t 30)]⟩, ⟨some 4, none, .q (.mv (.t 31))⟩, ⟨some 5, none, .q (.mv (.c (.i .i64 0)))⟩])
  .ret))))
theorem r10 : (Tryd.f10.body.bind (resC Tryd.prog Tryd.f10.ntmps)) = some (strip c10) := by kernel_rfl
theorem s10 : Tryd.f10.results.toList.mapM (resRes Tryd.prog) = some [.t 4, .t 5] := by kernel_rfl
theorem equal_ev (a b : List Ev) (ha : a.length < 1000000000000) : PureS Tryd.prog 27 [.sl 26 (a.map Ev.row), .sl 26 (b.map Ev.row)] (.b (decide (a = b))) := by
  refine fun_go hmx Tryd.func27 r27 s27 (by rw [Tryd.ntmps27]; simp) ?_
  unfold c27
  simp
  by_cases hl : a.length = b.length
  rotate_left
  · have hlI : ¬ (a.length : Int) = (b.length : Int) := by omega
    have : ¬ a = b := fun h => hl (by rw [h])
    simp [hl, hlI, this]
  have hlI : (a.length : Int) = (b.length : Int) := by omega
  simp [hl, hlI]
  refine go_while hmx 0 (fun (k : Nat) => [(13, .v (.i .i64 (k : Int)))]) (fun _ => []) (fun k => k ≤ b.length ∧ a.take k = b.take k) (fun k => b.length - k) 0 rfl (by simp) rfl (by simp) (by simp) (by simp) ⟨Nat.zero_le _, by simp⟩ ?_
  rintro k ⟨hk, hs⟩
  by_cases hkl : k < b.length
  · have hI : (k : Int) < (b.length : Int) := by omega
    have hw : IntKind.i64.wrap ((k : Int) + 1) = (k : Int) + 1 := wrap_in (by omega) (by omega)
    have hka : k < a.length := by omega
    simp [hI, hkl, hka, hl, hlI, ev_fit, ev_eqA]
    refine ⟨fun hne => ?_, fun he => ⟨k + 1, hw, ⟨by omega, ?_⟩, by omega⟩⟩
    · intro hab; subst hab; exact hne rfl
    · rw [List.take_succ_eq_append_getElem hka, List.take_succ_eq_append_getElem hkl, hs, he]
  · obtain rfl : k = b.length := by omega
    rw [List.take_length, ← hl, List.take_length] at hs
    simp [hs]
def sameE (a b : List Ev) : Int := if checkT a = 0 then checkT b else checkT a
def sameR (a b : List Ev) : AV := .tup [.b (decide (sameE a b = 0) && decide (canonL a = canonL b)), .i .i64 (sameE a b)]
theorem laid_canon (t : List Ev) : laidN t (formT t) = canonL t := rfl
theorem canon_p (t : List Ev) (h0 : checkT t = 0) : PureS Tryd.prog 19 [.sl 26 (t.map Ev.row), .sl 1 ((formT t).map nrow)] (.sl 26 ((canonL t).map Ev.row)) := by
  have hlen := (good_of h0).len
  exact laid_p t (formT t) (by simp; omega) formT_lt
theorem same13_p (a b : List Ev) (ha : a.length < 1000000000000) (hb : b.length < 1000000000000) : PureS Tryd.prog 10 [.sl 26 (a.map Ev.row), .sl 26 (b.map Ev.row)] (sameR a b) := by
  unfold sameR
  refine fun_go hmx Tryd.func10 r10 s10 (by rw [Tryd.ntmps10]; simp) ?_
  unfold c10
  simp
  refine go_unroll hmx 3 ?_
  rw [goU_succ]
  simp
  first
    | refine callk rfl Tryd.call15 (check_p a (by omega)) rfl ?_
    | refine callks rfl Tryd.call15 (check_p a (by omega)) rfl ?_
    | refine callq rfl Tryd.call15 (check_p a (by omega)) rfl ?_
    | refine callqe rfl Tryd.call15 (check_p a (by omega)) rfl ?_
  by_cases h0 : checkT a = 0
  rotate_left
  · simp [h0, sameE]
  simp [h0]
  rw [goU_succ]
  simp
  first
    | refine callk rfl Tryd.call15 (check_p b (by omega)) rfl ?_
    | refine callks rfl Tryd.call15 (check_p b (by omega)) rfl ?_
    | refine callq rfl Tryd.call15 (check_p b (by omega)) rfl ?_
    | refine callqe rfl Tryd.call15 (check_p b (by omega)) rfl ?_
  by_cases h1 : checkT b = 0
  rotate_left
  · simp [h0, h1, sameE]
  simp [h1]
  rw [goU_succ]
  simp
  have hla := (good_of h0).len
  have hlb := (good_of h1).len
  first
    | refine callk rfl Tryd.call20 (form_p a h0) rfl ?_
    | refine callks rfl Tryd.call20 (form_p a h0) rfl ?_
    | refine callq rfl Tryd.call20 (form_p a h0) rfl ?_
    | refine callqe rfl Tryd.call20 (form_p a h0) rfl ?_
  simp
  first
    | refine callk rfl Tryd.call19 (canon_p a h0) rfl ?_
    | refine callks rfl Tryd.call19 (canon_p a h0) rfl ?_
    | refine callq rfl Tryd.call19 (canon_p a h0) rfl ?_
    | refine callqe rfl Tryd.call19 (canon_p a h0) rfl ?_
  simp
  first
    | refine callk rfl Tryd.call20 (form_p b h1) rfl ?_
    | refine callks rfl Tryd.call20 (form_p b h1) rfl ?_
    | refine callq rfl Tryd.call20 (form_p b h1) rfl ?_
    | refine callqe rfl Tryd.call20 (form_p b h1) rfl ?_
  simp
  first
    | refine callk rfl Tryd.call19 (canon_p b h1) rfl ?_
    | refine callks rfl Tryd.call19 (canon_p b h1) rfl ?_
    | refine callq rfl Tryd.call19 (canon_p b h1) rfl ?_
    | refine callqe rfl Tryd.call19 (canon_p b h1) rfl ?_
  simp
  first
    | refine callk rfl Tryd.call27 (equal_ev (canonL a) (canonL b) (by simp; omega)) rfl ?_
    | refine callks rfl Tryd.call27 (equal_ev (canonL a) (canonL b) (by simp; omega)) rfl ?_
    | refine callq rfl Tryd.call27 (equal_ev (canonL a) (canonL b) (by simp; omega)) rfl ?_
    | refine callqe rfl Tryd.call27 (equal_ev (canonL a) (canonL b) (by simp; omega)) rfl ?_
  simp [sameE, h0, h1]
end Go.Sc.Or
