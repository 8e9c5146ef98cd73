/- Chapter 13: the canonical order. No condition. -/
import Derived.Test.YtgipkikbefnokaaXCb
import Derived.Test.YtgipkikbefnokaaXCaP
import Derived.Test.YtgipkikbefnokaaXEv6
set_option linter.constructorNameAsVariable false
namespace Go.Sc.Or
open Go Go.RowKit Go.Av Go.Proofs Go.Sc
set_option linter.unusedSimpArgs false
set_option linter.unusedVariables false
def c88 : ACode :=
  (.seq (.reg none [⟨some 4, none, .q (.mv (.c (.b false)))⟩])
  (.keep [0, 1]
  (.seq (.seq (.reg none [⟨some 6, none, .q (.mv (.t 0))⟩, ⟨some 7, none, .q (.len false (.t 6))⟩, ⟨some 8, none, .q (.mv (.t 1))⟩, ⟨some 9, none, .q (.len false (.t 8))⟩, ⟨some 10, none, .q (.bin .neq (.t 7) (.t 9))⟩])
    (.keep [0, 1, 10]
    (.cond (.t 10) (.seq (.reg none [⟨some 4, none, .q (.mv (.c (.b false)))⟩])
      .ret)
    .skip)))
  (.seq (.seq (.reg none [⟨some 11, none, .q (.mv (.t 0))⟩, ⟨some 12, none, .q (.len false (.t 11))⟩, ⟨some 13, none, .q (.mv (.c (.i .i64 0)))⟩])
    (.keep [0, 1, 12, 13]
    (.blk 0 (.keep [0, 1, 12, 13]
    (.loop (.fin [0, 1, 12, 13]
      (.seq (.reg none [⟨some 14, none, .q (.bin .lss (.t 13) (.t 12))⟩])
      (.keep [0, 1, 12, 13, 14]
      (.seq (.cond (.t 14) .skip
        (.exit 0))
      (.seq (.blk 1 (.seq (.reg none [⟨some 15, none, .q (.mv (.t 13))⟩, ⟨some 5, none, .q (.mv (.t 15))⟩])
        (.keep [0, 1, 5, 12, 13]
        (.seq (.reg (some (9, [])) [⟨some 16, none, .q (.mv (.t 0))⟩, ⟨some 17, none, .q (.mv (.t 5))⟩, ⟨some 18, none, .q (.ias 26 (.t 16) (.t 17))⟩, ⟨some 19, none, .q (.ld (some 26) (.t 18))⟩, ⟨some 20, none, .q (.mv (.t 1))⟩, ⟨some 21, none, .q (.mv (.t 5))⟩, ⟨some 22, none, .q (.ias 26 (.t 20) (.t 21))⟩, ⟨some 23, none, .q (.ld (some 26) (.t 22))⟩, ⟨some 24, none, .q (.eqg true [.i, .i, .i, .i, .i, .i, .i, .i, .i, .b, .i, .i, .b, .i, .i, .b, .i, .i, .b, .i, .i, .b, .i, .i, .b, .i] (.t 19) (.t 23))⟩])
        (.keep [0, 1, 12, 13, 24]
        (.cond (.t 24) (.seq (.reg none [⟨some 4, none, .q (.mv (.c (.b false)))⟩])
          .ret)
        .skip))))))
      (.keep [0, 1, 12, 13]
      (.reg none [⟨some 25, none, .q (.bin .add (.t 13) (.c (.i .i64 1)))⟩, ⟨some 13, none, .q (.mv (.t 25))⟩]))))))))))))
  (.seq (.reg none [⟨some 4, none, .q (.mv (.c (.b true)))⟩])
  .ret)))))
theorem r88 : (Try.f88.body.bind (resC Try.prog Try.f88.ntmps)) = some (strip c88) := by kernel_rfl
theorem s88 : Try.f88.results.toList.mapM (resRes Try.prog) = some [.t 4] := by kernel_rfl
def c49 : ACode :=
  (.seq (.reg none [⟨some 4, none, .q (.mv (.c (.b false)))⟩, ⟨some 5, none, .q (.mv (.c (.i .i64 0)))⟩])
  (.keep [0, 1]
  (.seq (.seq (.reg none [⟨some 9, none, .q (.mv (.t 0))⟩, ⟨some 10, none, .q (.mv (.t 1))⟩, ⟨some 11, none, .m (.bsl 2 1 [.nil] [(0, 1, .t 9), (1, 1, .t 10)])⟩, ⟨some 12, none, .q (.len false (.t 11))⟩, ⟨some 13, none, .q (.mv (.c (.i .i64 0)))⟩])
    (.keep [0, 1, 11, 12, 13]
    (.blk 0 (.keep [0, 1, 11, 12, 13]
    (.loop (.fin [0, 1, 11, 12, 13]
      (.seq (.reg none [⟨some 14, none, .q (.bin .lss (.t 13) (.t 12))⟩])
      (.keep [0, 1, 11, 12, 13, 14]
      (.seq (.cond (.t 14) .skip
        (.exit 0))
      (.seq (.blk 1 (.seq (.reg none [⟨some 15, none, .q (.ias 1 (.t 11) (.t 13))⟩, ⟨some 16, none, .q (.ld none (.t 15))⟩, ⟨some 7, none, .q (.mv (.t 16))⟩])
        (.keep [0, 1, 7, 11, 12, 13]
        (.seq (.reg none [⟨some 17, none, .q (.mv (.t 7))⟩, ⟨some 18, none, .call (.f 55) [(.t 17)]⟩, ⟨some 8, none, .q (.mv (.t 18))⟩])
        (.keep [0, 1, 8, 11, 12, 13]
        (.seq (.reg none [⟨some 19, none, .q (.mv (.t 8))⟩, ⟨some 20, none, .q (.bin .neq (.t 19) (.c (.i .i64 0)))⟩])
        (.keep [0, 1, 8, 11, 12, 13, 20]
        (.cond (.t 20) (.seq (.reg none [⟨some 21, none, .q (.mv (.t 8))⟩, ⟨some 4, none, .q (.mv (.c (.b false)))⟩, ⟨some 5, none, .q (.mv (.t 21))⟩])
          .ret)
        .skip))))))))
      (.keep [0, 1, 11, 12, 13]
      (.reg none [⟨some 22, none, .q (.bin .add (.t 13) (.c (.i .i64 1)))⟩, ⟨some 13, none, .q (.mv (.t 22))⟩]))))))))))))
  (.seq (.reg none [⟨some 23, none, .q (.mv (.t 0))⟩, ⟨some 24, none, .q (.mv (.t 0))⟩, ⟨some 25, none, .call (.f 74) [(.t 24)]⟩, ⟨some 26, none, .call (.f 81) [(.t 23), (.t 25)]⟩, ⟨some 27, none, .q (.mv (.t 1))⟩, ⟨some 28, none, .q (.mv (.t 1))⟩, ⟨some 29, none, .call (.f 74) [(.t 28)]⟩, ⟨some 30, none, .call (.f 81) [(.t 27), (.t 29)]⟩, ⟨some 31, none, .call (.f 88) [(.t 26), (.t 30)]⟩, ⟨some 4, none, .q (.mv (.t 31))⟩, ⟨some 5, none, .q (.mv (.c (.i .i64 0)))⟩])
  .ret))))
theorem r49 : (Try.f49.body.bind (resC Try.prog Try.f49.ntmps)) = some (strip c49) := by kernel_rfl
theorem s49 : Try.f49.results.toList.mapM (resRes Try.prog) = some [.t 4, .t 5] := by kernel_rfl
def c14 : ACode :=
  (.seq (.reg none [⟨some 2, none, .q (.mv (.c (.b false)))⟩])
  (.keep [0]
  (.seq (.reg none [⟨some 15, none, .q (.mv (.t 0))⟩, ⟨some 16, none, .call (.f 39) [(.t 15)]⟩, ⟨some 14, none, .q (.mv (.t 16))⟩, ⟨some 17, none, .q (.ext 0 (.t 14))⟩, ⟨some 18, none, .q (.ext 1 (.t 14))⟩, ⟨some 3, none, .q (.mv (.t 17))⟩, ⟨some 4, none, .q (.mv (.t 18))⟩])
  (.keep [0, 3, 4]
  (.seq (.seq (.reg none [⟨some 19, none, .q (.mv (.t 4))⟩, ⟨some 20, none, .q (.bin .neq (.t 19) (.c (.i .i64 0)))⟩])
    (.keep [0, 3, 20]
    (.cond (.t 20) (.seq (.reg none [⟨some 21, none, .q (.mv (.t 0))⟩, ⟨some 22, none, .call (.f 22) [(.t 21)]⟩, ⟨some 23, none, .q (.bin .neq (.t 22) (.c (.i .i64 0)))⟩, ⟨some 24, none, .q (.mv (.t 23))⟩, ⟨some 25, some (24, true), .call (.f 19) []⟩, ⟨some 26, none, .pk (.t 24) (.t 25) (.c (.b false))⟩, ⟨some 2, none, .q (.mv (.t 26))⟩])
      .ret)
    .skip)))
  (.seq (.reg none [⟨some 28, none, .q (.mv (.t 0))⟩, ⟨some 29, none, .q (.mv (.t 3))⟩, ⟨some 30, none, .call (.f 48) [(.t 28), (.t 29)]⟩, ⟨some 27, none, .q (.mv (.t 30))⟩, ⟨some 31, none, .q (.ext 0 (.t 27))⟩, ⟨some 32, none, .q (.ext 1 (.t 27))⟩, ⟨some 5, none, .q (.mv (.t 31))⟩, ⟨some 6, none, .q (.mv (.t 32))⟩])
  (.keep [0, 3, 5, 6]
  (.seq (.reg none [⟨some 34, none, .q (.mv (.t 0))⟩, ⟨some 35, none, .q (.mv (.t 3))⟩, ⟨some 36, none, .call (.f 46) [(.t 34), (.t 35)]⟩, ⟨some 33, none, .q (.mv (.t 36))⟩, ⟨some 37, none, .q (.ext 0 (.t 33))⟩, ⟨some 38, none, .q (.ext 1 (.t 33))⟩, ⟨some 7, none, .q (.mv (.t 37))⟩, ⟨some 8, none, .q (.mv (.t 38))⟩])
  (.keep [0, 5, 6, 7, 8]
  (.seq (.reg none [⟨some 40, none, .q (.mv (.t 7))⟩, ⟨some 41, none, .call (.f 39) [(.t 40)]⟩, ⟨some 39, none, .q (.mv (.t 41))⟩, ⟨some 42, none, .q (.ext 0 (.t 39))⟩, ⟨some 43, none, .q (.ext 1 (.t 39))⟩, ⟨some 9, none, .q (.mv (.t 42))⟩, ⟨some 10, none, .q (.mv (.t 43))⟩])
  (.keep [0, 5, 6, 7, 8, 9, 10]
  (.seq (.seq (.reg none [⟨some 44, none, .q (.mv (.t 6))⟩, ⟨some 45, none, .q (.bin .neq (.t 44) (.c (.i .i64 0)))⟩, ⟨some 46, none, .q (.mv (.t 45))⟩, ⟨some 47, some (46, false), .q (.mv (.t 8))⟩, ⟨some 48, some (46, false), .q (.bin .neq (.t 47) (.c (.i .i64 0)))⟩, ⟨some 49, none, .pk (.t 46) (.c (.b true)) (.t 48)⟩, ⟨some 50, none, .q (.mv (.t 49))⟩, ⟨some 51, some (50, false), .q (.mv (.t 10))⟩, ⟨some 52, some (50, false), .q (.bin .neq (.t 51) (.c (.i .i64 0)))⟩, ⟨some 53, none, .pk (.t 50) (.c (.b true)) (.t 52)⟩, ⟨some 54, none, .q (.mv (.t 53))⟩, ⟨some 55, some (54, false), .q (.mv (.t 5))⟩, ⟨some 56, some (54, false), .q (.un .not (.t 55))⟩, ⟨some 57, none, .pk (.t 54) (.c (.b true)) (.t 56)⟩, ⟨some 58, none, .q (.mv (.t 57))⟩, ⟨some 59, some (58, false), .q (.mv (.t 9))⟩, ⟨some 60, some (58, false), .q (.len false (.t 59))⟩, ⟨some 61, some (58, false), .q (.mv (.t 0))⟩, ⟨some 62, some (58, false), .q (.len false (.t 61))⟩, ⟨some 63, some (58, false), .q (.bin .neq (.t 60) (.t 62))⟩, ⟨some 64, none, .pk (.t 58) (.c (.b true)) (.t 63)⟩])
    (.keep [0, 7, 9, 64]
    (.cond (.t 64) (.seq (.reg none [⟨some 2, none, .q (.mv (.c (.b false)))⟩])
      .ret)
    .skip)))
  (.seq (.seq (.reg none [⟨some 65, none, .q (.mv (.t 9))⟩, ⟨some 66, none, .q (.len false (.t 65))⟩, ⟨some 67, none, .q (.mv (.c (.i .i64 0)))⟩])
    (.keep [0, 7, 9, 66, 67]
    (.blk 0 (.keep [0, 7, 9, 66, 67]
    (.loop (.fin [0, 7, 9, 66, 67]
      (.seq (.reg none [⟨some 68, none, .q (.bin .lss (.t 67) (.t 66))⟩])
      (.keep [0, 7, 9, 66, 67, 68]
      (.seq (.cond (.t 68) .skip
        (.exit 0))
      (.seq (.blk 1 (.seq (.reg none [⟨some 69, none, .q (.mv (.t 67))⟩, ⟨some 11, none, .q (.mv (.t 69))⟩])
        (.keep [0, 7, 9, 11, 66, 67]
        (.seq (.reg none [⟨some 70, none, .q (.mv (.t 9))⟩, ⟨some 71, none, .q (.mv (.t 11))⟩, ⟨some 72, none, .q (.ias 1 (.t 70) (.t 71))⟩, ⟨some 73, none, .q (.ld none (.t 72))⟩, ⟨some 74, none, .q (.mv (.t 11))⟩, ⟨some 75, none, .q (.bin .neq (.t 73) (.t 74))⟩])
        (.keep [0, 7, 9, 66, 67, 75]
        (.cond (.t 75) (.seq (.reg none [⟨some 2, none, .q (.mv (.c (.b false)))⟩])
          .ret)
        .skip))))))
      (.keep [0, 7, 9, 66, 67]
      (.reg none [⟨some 76, none, .q (.bin .add (.t 67) (.c (.i .i64 1)))⟩, ⟨some 67, none, .q (.mv (.t 76))⟩]))))))))))))
  (.seq (.reg none [⟨some 78, none, .q (.mv (.t 0))⟩, ⟨some 79, none, .q (.mv (.t 7))⟩, ⟨some 80, none, .call (.f 49) [(.t 78), (.t 79)]⟩, ⟨some 77, none, .q (.mv (.t 80))⟩, ⟨some 81, none, .q (.ext 0 (.t 77))⟩, ⟨some 82, none, .q (.ext 1 (.t 77))⟩, ⟨some 12, none, .q (.mv (.t 81))⟩, ⟨some 13, none, .q (.mv (.t 82))⟩])
  (.keep [12, 13]
  (.seq (.reg none [⟨some 83, none, .q (.mv (.t 13))⟩, ⟨some 84, none, .q (.bin .eql (.t 83) (.c (.i .i64 0)))⟩, ⟨some 85, none, .q (.mv (.t 84))⟩, ⟨some 86, some (85, true), .q (.mv (.t 12))⟩, ⟨some 87, none, .pk (.t 85) (.t 86) (.c (.b false))⟩, ⟨some 2, none, .q (.mv (.t 87))⟩])
  .ret))))))))))))))))
theorem r14 : (Try.f14.body.bind (resC Try.prog Try.f14.ntmps)) = some (strip c14) := by kernel_rfl
theorem s14 : Try.f14.results.toList.mapM (resRes Try.prog) = some [.t 2] := by kernel_rfl
theorem equal_ev (a b : List Ev) (ha : a.length < 1000000000000) : PureS Try.prog 88 [.sl 26 (a.map Ev.row), .sl 26 (b.map Ev.row)] (.b (decide (a = b))) := by
  refine fun_go hmx Try.func88 r88 s88 (by rw [Try.ntmps88]; simp) ?_
  unfold c88
  simp
  by_cases hl : a.length = b.length
  rotate_left
  · have hlI : ¬ (a.length : Int) = (b.length : Int) := by omega
    have : ¬ a = b := fun h => hl (by rw [h])
    simp [hl, hlI, this]
  have hlI : (a.length : Int) = (b.length : Int) := by omega
  simp [hl, hlI]
  refine go_while hmx 0 (fun (k : Nat) => [(13, .v (.i .i64 (k : Int)))]) (fun _ => []) (fun k => k ≤ b.length ∧ a.take k = b.take k) (fun k => b.length - k) 0 rfl (by simp) rfl (by simp) (by simp) (by simp) ⟨Nat.zero_le _, by simp⟩ ?_
  rintro k ⟨hk, hs⟩
  by_cases hkl : k < b.length
  · have hI : (k : Int) < (b.length : Int) := by omega
    have hw : IntKind.i64.wrap ((k : Int) + 1) = (k : Int) + 1 := wrap_in (by omega) (by omega)
    have hka : k < a.length := by omega
    simp [hI, hkl, hka, hl, hlI, ev_fit, ev_eqA]
    refine ⟨fun hne => ?_, fun he => ⟨k + 1, hw, ⟨by omega, ?_⟩, by omega⟩⟩
    · intro hab; subst hab; exact hne rfl
    · rw [List.take_succ_eq_append_getElem hka, List.take_succ_eq_append_getElem hkl, hs, he]
  · obtain rfl : k = b.length := by omega
    rw [List.take_length, ← hl, List.take_length] at hs
    simp [hs]
def sameE (a b : List Ev) : Int := if checkT a = 0 then checkT b else checkT a
def sameR (a b : List Ev) : AV := .tup [.b (decide (sameE a b = 0) && decide (canonL a = canonL b)), .i .i64 (sameE a b)]
theorem laid_canon (t : List Ev) : laidN t (formT t) = canonL t := rfl
theorem canon_p (t : List Ev) (h0 : checkT t = 0) : PureS Try.prog 81 [.sl 26 (t.map Ev.row), .sl 1 ((formT t).map nrow)] (.sl 26 ((canonL t).map Ev.row)) := by
  have hlen := (good_of h0).len
  exact laid_p t (formT t) (by simp; omega) formT_lt
theorem same13_p (a b : List Ev) (ha : a.length < 1000000000000) (hb : b.length < 1000000000000) : PureS Try.prog 49 [.sl 26 (a.map Ev.row), .sl 26 (b.map Ev.row)] (sameR a b) := by
  unfold sameR
  refine fun_go hmx Try.func49 r49 s49 (by rw [Try.ntmps49]; simp) ?_
  unfold c49
  simp
  refine go_unroll hmx 3 ?_
  rw [goU_succ]
  simp
  first
    | refine callk rfl Try.call55 (check_p a (by omega)) rfl ?_
    | refine callks rfl Try.call55 (check_p a (by omega)) rfl ?_
    | refine callq rfl Try.call55 (check_p a (by omega)) rfl ?_
    | refine callqe rfl Try.call55 (check_p a (by omega)) rfl ?_
  by_cases h0 : checkT a = 0
  rotate_left
  · simp [h0, sameE]
  simp [h0]
  rw [goU_succ]
  simp
  first
    | refine callk rfl Try.call55 (check_p b (by omega)) rfl ?_
    | refine callks rfl Try.call55 (check_p b (by omega)) rfl ?_
    | refine callq rfl Try.call55 (check_p b (by omega)) rfl ?_
    | refine callqe rfl Try.call55 (check_p b (by omega)) rfl ?_
  by_cases h1 : checkT b = 0
  rotate_left
  · simp [h0, h1, sameE]
  simp [h1]
  rw [goU_succ]
  simp
  have hla := (good_of h0).len
  have hlb := (good_of h1).len
  first
    | refine callk rfl Try.call74 (form_p a h0) rfl ?_
    | refine callks rfl Try.call74 (form_p a h0) rfl ?_
    | refine callq rfl Try.call74 (form_p a h0) rfl ?_
    | refine callqe rfl Try.call74 (form_p a h0) rfl ?_
  simp
  first
    | refine callk rfl Try.call81 (canon_p a h0) rfl ?_
    | refine callks rfl Try.call81 (canon_p a h0) rfl ?_
    | refine callq rfl Try.call81 (canon_p a h0) rfl ?_
    | refine callqe rfl Try.call81 (canon_p a h0) rfl ?_
  simp
  first
    | refine callk rfl Try.call74 (form_p b h1) rfl ?_
    | refine callks rfl Try.call74 (form_p b h1) rfl ?_
    | refine callq rfl Try.call74 (form_p b h1) rfl ?_
    | refine callqe rfl Try.call74 (form_p b h1) rfl ?_
  simp
  first
    | refine callk rfl Try.call81 (canon_p b h1) rfl ?_
    | refine callks rfl Try.call81 (canon_p b h1) rfl ?_
    | refine callq rfl Try.call81 (canon_p b h1) rfl ?_
    | refine callqe rfl Try.call81 (canon_p b h1) rfl ?_
  simp
  first
    | refine callk rfl Try.call88 (equal_ev (canonL a) (canonL b) (by simp; omega)) rfl ?_
    | refine callks rfl Try.call88 (equal_ev (canonL a) (canonL b) (by simp; omega)) rfl ?_
    | refine callq rfl Try.call88 (equal_ev (canonL a) (canonL b) (by simp; omega)) rfl ?_
    | refine callqe rfl Try.call88 (equal_ev (canonL a) (canonL b) (by simp; omega)) rfl ?_
  simp [sameE, h0, h1]
theorem check_good {t : List Ev} (h : Good t) : checkT t = 0 := by
  unfold checkT
  rw [if_neg (by have := h.len; omega), if_pos (List.all_eq_true.2 h.2)]
theorem linOk_form {t : List Ev} (h0 : checkT t = 0) : linOk t (castL (formT t)) = true := by
  have h := good_of h0
  have hlen := h.len
  rw [linOk_iff h0, castL_nat]
  have hcl : (castL (formT t)).length = (formT t).length := by simp [castL]
  refine ⟨by rw [hcl, formT_length], ?_, fun x hx => ?_, ?_⟩
  · unfold castL
    rw [List.Nodup, List.pairwise_map]
    exact (formT_nodup t).imp fun {a b} hab hc => hab (by omega)
  · obtain ⟨n, rfl, hn⟩ := castL_of hx
    have := formT_lt n hn
    omega
  · rw [linN_iff]
    intro b hb a hab
    rw [formT_length] at hb
    rw [Bool.eq_false_iff]
    intro hc
    have := form_keeps b a hb (by omega) hc
    omega
theorem canonOnce (t : List Ev) (ht : t.length < 1000000000000) : PureS Try.prog 14 [.sl 26 (t.map Ev.row)] (.b true) := by
  refine fun_go hmx Try.func14 r14 s14 (by rw [Try.ntmps14]; simp) ?_
  unfold c14
  simp
  first
    | refine callk rfl Try.call39 (Form_p t ht) rfl ?_
    | refine callks rfl Try.call39 (Form_p t ht) rfl ?_
    | refine callq rfl Try.call39 (Form_p t ht) rfl ?_
    | refine callqe rfl Try.call39 (Form_p t ht) rfl ?_
  unfold formR
  by_cases h0 : checkT t = 0
  rotate_left
  · simp [h0]
    first
      | refine callk rfl Try.call22 (checkR_p t (by omega)) rfl ?_
      | refine callks rfl Try.call22 (checkR_p t (by omega)) rfl ?_
      | refine callq rfl Try.call22 (checkR_p t (by omega)) rfl ?_
      | refine callqe rfl Try.call22 (checkR_p t (by omega)) rfl ?_
    simp [h0]
    first
      | refine callkg rfl Try.call19 rfl (fun _ => small_p) (fun hG => by first | (simp; done) | (simp at hG; done) | simpa using hG) rfl ?_
      | refine callksg rfl Try.call19 rfl (fun _ => small_p) (fun hG => by first | (simp; done) | (simp at hG; done) | simpa using hG) rfl ?_
      | refine callqg rfl Try.call19 rfl (fun _ => small_p) (fun hG => by first | (simp; done) | (simp at hG; done) | simpa using hG) rfl ?_
    simp [h0]
  have h := good_of h0
  have hlen := h.len
  have hrow : (formT t).map nrow = (castL (formT t)).map irow := by simp [castL, List.map_map, Function.comp_def]
  have hok := linOk_form h0
  have hcl : (castL (formT t)).length = t.length := by simp [castL]
  have hu : checkT (canonL t) = 0 := check_good (canonL_good h)
  have hag : formT (canonL t) = List.range t.length := form_again h
  have hl := linear_all t (by omega) (castL (formT t)) (by omega)
  have hlk := (linOk_iff h0).1 hok
  have hE : listE t (castL (formT t)) = 0 := by
    unfold linOk at hok
    rw [Bool.and_eq_true, decide_eq_true_eq] at hok
    exact hok.1
  have ha := apply_p t ht (castL (formT t)) (by omega)
  rw [← hrow] at ha hl
  rw [appR, appE, if_pos h0, if_pos hok, if_pos rfl, castL_nat, laid_canon] at ha
  simp [hE, hlk.1, hlk.2.1, hlk.2.2.2] at hl
  simp [h0]
  first
    | refine callk rfl Try.call48 hl rfl ?_
    | refine callks rfl Try.call48 hl rfl ?_
    | refine callq rfl Try.call48 hl rfl ?_
    | refine callqe rfl Try.call48 hl rfl ?_
  simp
  first
    | refine callk rfl Try.call46 ha rfl ?_
    | refine callks rfl Try.call46 ha rfl ?_
    | refine callq rfl Try.call46 ha rfl ?_
    | refine callqe rfl Try.call46 ha rfl ?_
  simp
  first
    | refine callk rfl Try.call39 (Form_p (canonL t) (by simp; omega)) rfl ?_
    | refine callks rfl Try.call39 (Form_p (canonL t) (by simp; omega)) rfl ?_
    | refine callq rfl Try.call39 (Form_p (canonL t) (by simp; omega)) rfl ?_
    | refine callqe rfl Try.call39 (Form_p (canonL t) (by simp; omega)) rfl ?_
  rw [formR, hu, hag]
  simp
  refine go_while hmx 0 (fun (i : Nat) => [(67, .v (.i .i64 (i : Int)))]) (fun _ => []) (fun i => i ≤ t.length) (fun i => t.length - i) 0 rfl (by simp) rfl (by simp) (by simp) (by simp) (Nat.zero_le _) ?_
  intro i hi
  by_cases hil : i < t.length
  · have hI : (i : Int) < (t.length : Int) := by omega
    have hw : IntKind.i64.wrap ((i : Int) + 1) = (i : Int) + 1 := wrap_in (by omega) (by omega)
    simp [hI, hil, nrow]
    exact ⟨i + 1, hw, by omega, by omega⟩
  · obtain rfl : i = t.length := by omega
    simp
    first
      | refine callk rfl Try.call49 (same13_p t (canonL t) ht (by simp; omega)) rfl ?_
      | refine callks rfl Try.call49 (same13_p t (canonL t) ht (by simp; omega)) rfl ?_
      | refine callq rfl Try.call49 (same13_p t (canonL t) ht (by simp; omega)) rfl ?_
      | refine callqe rfl Try.call49 (same13_p t (canonL t) ht (by simp; omega)) rfl ?_
    rw [sameR, sameE, if_pos h0, hu, canonL_again h]
    simp
end Go.Sc.Or
