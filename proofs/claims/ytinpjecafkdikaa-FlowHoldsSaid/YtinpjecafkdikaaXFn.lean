/- Chapter 06: the document's lists of accesses. No condition. -/
import Derived.Test.YtinpjecafkdikaaXFt
import Derived.Test.YtinpjecafkdikaaXFlo
set_option linter.constructorNameAsVariable false
namespace Go.Sc.Fl
open Go Go.RowKit Go.Av Go.Proofs Go.Sc
set_option linter.unusedSimpArgs false
set_option linter.unusedVariables false
/-- scarab/scarabref06.Add -/
def c56 : ACode :=
  (.seq (.reg none [⟨some 3, none, .m (.box (.t 1))⟩, ⟨some 4, none, .q (.mv (.c .nil))⟩])
  (.gst (.pimT 3)
  (.keep [0, 3]
  (.seq (.reg none [⟨some 5, none, .q (.mv (.c .nil))⟩])
  (.gst (.nilT 5 3)
  (.keep [0, 3, 5]
  (.seq (.reg none [⟨some 6, none, .q (.mv (.c (.b false)))⟩])
  (.keep [0, 3, 5, 6]
  (.seq (.seq (.reg none [⟨some 7, none, .q (.mv (.c (.i .i64 0)))⟩])
    (.keep [0, 3, 5, 6, 7]
    (.blk 0 (.keep [0, 3, 5, 6, 7]
    (.loop (.fin [0, 3, 5, 6, 7]
      (.seq (.seq (.reg none [⟨some 9, none, .q (.mv (.t 7))⟩, ⟨some 10, none, .q (.mv (.t 0))⟩, ⟨some 11, none, .q (.len false (.t 10))⟩, ⟨some 12, none, .q (.bin .lss (.t 9) (.t 11))⟩])
        (.keep [0, 3, 5, 6, 7, 12]
        (.cond (.t 12) .skip
        (.exit 0))))
      (.seq (.blk 1 (.seq (.reg none [⟨some 15, none, .q (.mv (.t 0))⟩, ⟨some 16, none, .q (.mv (.t 7))⟩, ⟨some 17, none, .q (.ias 3 (.t 15) (.t 16))⟩, ⟨some 18, none, .q (.ld (some 3) (.t 17))⟩, ⟨some 8, none, .m (.alloc (.g [(.i .i64 0), (.i .i64 0), (.b false)]))⟩, ⟨none, none, .m (.st 3 (.t 8) (.t 18))⟩])
        (.keep [0, 3, 5, 6, 7, 8]
        (.seq (.seq (.reg none [⟨some 19, none, .q (.mv (.t 6))⟩, ⟨some 20, none, .q (.un .not (.t 19))⟩, ⟨some 21, none, .q (.mv (.t 20))⟩, ⟨some 22, some (21, true), .q (.fa 0 (.t 8))⟩, ⟨some 23, some (21, true), .q (.ld none (.t 22))⟩, ⟨some 24, some (21, true), .q (.fa 0 (.t 3))⟩, ⟨some 25, some (21, true), .q (.ld none (.t 24))⟩, ⟨some 26, some (21, true), .q (.bin .eql (.t 23) (.t 25))⟩, ⟨some 27, none, .pk (.t 21) (.t 26) (.c (.b false))⟩, ⟨some 28, none, .q (.mv (.t 27))⟩, ⟨some 29, some (28, true), .q (.fa 1 (.t 8))⟩, ⟨some 30, some (28, true), .q (.ld none (.t 29))⟩, ⟨some 31, some (28, true), .q (.fa 1 (.t 3))⟩, ⟨some 32, some (28, true), .q (.ld none (.t 31))⟩, ⟨some 33, some (28, true), .q (.bin .eql (.t 30) (.t 32))⟩, ⟨some 34, none, .pk (.t 28) (.t 33) (.c (.b false))⟩])
          (.keep [0, 3, 5, 6, 7, 8, 34]
          (.cond (.t 34) (.seq (.reg none [⟨some 35, none, .q (.fa 2 (.t 8))⟩, ⟨some 36, none, .q (.ld none (.t 35))⟩, ⟨some 37, none, .q (.mv (.t 36))⟩, ⟨some 38, some (37, false), .q (.fa 2 (.t 3))⟩, ⟨some 39, some (37, false), .q (.ld none (.t 38))⟩, ⟨some 40, none, .pk (.t 37) (.c (.b true)) (.t 39)⟩, ⟨some 41, none, .q (.fa 2 (.t 8))⟩, ⟨none, none, .m (.st 1 (.t 41) (.t 40))⟩])
            (.keep [0, 3, 5, 7, 8]
            (.reg none [⟨some 6, none, .q (.mv (.c (.b true)))⟩])))
          .skip)))
        (.seq (.seq (.reg none [⟨some 42, none, .q (.mv (.t 6))⟩, ⟨some 43, none, .q (.un .not (.t 42))⟩, ⟨some 44, none, .q (.mv (.t 43))⟩, ⟨some 45, some (44, true), .q (.fa 0 (.t 8))⟩, ⟨some 46, some (44, true), .q (.ld none (.t 45))⟩, ⟨some 47, some (44, true), .q (.fa 0 (.t 3))⟩, ⟨some 48, some (44, true), .q (.ld none (.t 47))⟩, ⟨some 49, some (44, true), .q (.bin .gtr (.t 46) (.t 48))⟩, ⟨some 50, some (44, true), .q (.mv (.t 49))⟩, ⟨some 51, some (50, false), .q (.fa 0 (.t 8))⟩, ⟨some 52, some (50, false), .q (.ld none (.t 51))⟩, ⟨some 53, some (50, false), .q (.fa 0 (.t 3))⟩, ⟨some 54, some (50, false), .q (.ld none (.t 53))⟩, ⟨some 55, some (50, false), .q (.bin .eql (.t 52) (.t 54))⟩, ⟨some 56, some (50, false), .q (.mv (.t 55))⟩, ⟨some 57, some (56, true), .q (.fa 1 (.t 8))⟩, ⟨some 58, some (56, true), .q (.ld none (.t 57))⟩, ⟨some 59, some (56, true), .q (.fa 1 (.t 3))⟩, ⟨some 60, some (56, true), .q (.ld none (.t 59))⟩, ⟨some 61, some (56, true), .q (.bin .gtr (.t 58) (.t 60))⟩, ⟨some 62, some (50, false), .pk (.t 56) (.t 61) (.c (.b false))⟩, ⟨some 63, some (44, true), .pk (.t 50) (.c (.b true)) (.t 62)⟩, ⟨some 64, none, .pk (.t 44) (.t 63) (.c (.b false))⟩])
          (.keep [0, 3, 5, 6, 7, 8, 64]
          (.cond (.t 64) (.seq (.reg none [⟨some 65, none, .q (.mv (.t 5))⟩, ⟨some 66, none, .q (.ld (some 3) (.t 3))⟩, ⟨some 67, none, .m (.bsl 1 3 [(.i .i64 0), (.i .i64 0), (.b false)] [(0, 3, .t 66)])⟩, ⟨some 68, none, .m (.app 3 24 (.t 65) (.t 67))⟩, ⟨some 5, none, .q (.mv (.t 68))⟩])
            (.keep [0, 3, 5, 7, 8]
            (.reg none [⟨some 6, none, .q (.mv (.c (.b true)))⟩])))
          .skip)))
        (.reg none [⟨some 69, none, .q (.mv (.t 5))⟩, ⟨some 70, none, .q (.ld (some 3) (.t 8))⟩, ⟨some 71, none, .m (.bsl 1 3 [(.i .i64 0), (.i .i64 0), (.b false)] [(0, 3, .t 70)])⟩, ⟨some 72, none, .m (.app 3 24 (.t 69) (.t 71))⟩, ⟨some 5, none, .q (.mv (.t 72))⟩]))))))
      (.keep [0, 3, 5, 6, 7]
      (.reg none [⟨some 13, none, .q (.mv (.t 7))⟩, ⟨some 14, none, .q (.bin .add (.t 13) (.c (.i .i64 1)))⟩, ⟨some 7, none, .q (.mv (.t 14))⟩]))))))))))
  (.seq (.seq (.reg none [⟨some 73, none, .q (.mv (.t 6))⟩, ⟨some 74, none, .q (.un .not (.t 73))⟩])
    (.keep [3, 5, 74]
    (.cond (.t 74) (.reg none [⟨some 75, none, .q (.mv (.t 5))⟩, ⟨some 76, none, .q (.ld (some 3) (.t 3))⟩, ⟨some 77, none, .m (.bsl 1 3 [(.i .i64 0), (.i .i64 0), (.b false)] [(0, 3, .t 76)])⟩, ⟨some 78, none, .m (.app 3 24 (.t 75) (.t 77))⟩, ⟨some 5, none, .q (.mv (.t 78))⟩])
    .skip)))
  (.seq (.gst (.letT 5 3)
    (.reg none [⟨some 79, none, .q (.mv (.t 5))⟩, ⟨some 4, none, .q (.mv (.t 79))⟩]))
  .ret)))))))))))
theorem r56 : (Try.f56.body.bind (resC Try.prog Try.f56.ntmps)) = some (strip c56) := by kernel_rfl
theorem s56 : Try.f56.results.toList.mapM (resRes Try.prog) = some [.t 4] := by kernel_rfl
theorem add_p (l : List Acc) (a : Acc) (hl : l.length < 1000000) : PureS Try.prog 56 [.sl 3 (l.map Acc.row), .g a.row] (.sl 3 ((addA a l).map Acc.row)) := by
  have hall := addStep_all a l []
  rw [List.nil_append] at hall
  refine fun_go hmx Try.func56 r56 s56 (by rw [Try.ntmps56]; simp) ?_
  unfold c56
  simp [Acc.row]
  refine go_while hmx 2 (fun (s : Nat × Nat) => [(5, .os 1 s.2), (6, .v (.b ((l.take s.1).foldl (addStep a) ([], false)).2)), (7, .v (.i .i64 (s.1 : Int)))]) (fun s => [.none, .arr s.2 3 (vrows (((l.take s.1).foldl (addStep a) ([], false)).1.map Acc.row))]) (fun s => s.1 ≤ l.length ∧ ((l.take s.1).foldl (addStep a) ([], false)).1.length ≤ s.1 + ((l.take s.1).foldl (addStep a) ([], false)).2.toNat) (fun s => l.length - s.1) (0, 0) rfl (by simp) rfl (by simp) (by simp) (by simp) ⟨Nat.zero_le _, by simp⟩ ?_
  rintro ⟨i, v⟩ ⟨hi, hlen⟩
  simp only at hi hlen
  by_cases hlt : i < l.length
  · have hI : (i : Int) < (l.length : Int) := by omega
    have hw : IntKind.i64.wrap ((i : Int) + 1) = ((i : Int) + 1) := wrap_in (by omega) (by omega)
    have hft := foldl_take (addStep a) ([], false) (List.getElem?_eq_getElem hlt)
    generalize hS : (l.take i).foldl (addStep a) ([], false) = S at *
    obtain ⟨o, d⟩ := S
    generalize hx : l[i] = x at *
    simp only at hlen
    cases d with
    | true =>
      have hst : addStep a (o, true) x = (o ++ [x], true) := by simp [addStep]
      rw [hst] at hft
      simp at hlen
      simp [hI, hlt, hw, Acc.row, hx, hS]
      exact ⟨⟨by omega, by omega⟩, i + 1, v + 1, ⟨rfl, by rw [hft], by omega⟩, ⟨rfl, by rw [hft]; simp [vrows, Acc.row]⟩, ⟨by omega, by rw [hft]; simp; omega⟩, by omega⟩
    | false =>
      simp at hlen
      by_cases h1 : x.k = a.k ∧ x.n = a.n
      · have hst : addStep a (o, false) x = (o ++ [⟨x.k, x.n, x.w || a.w⟩], true) := by simp [addStep, Acc.at, h1]
        rw [hst] at hft
        simp [hI, hlt, hw, Acc.row, hx, hS, h1]
        exact ⟨⟨by omega, by omega⟩, i + 1, v + 1, ⟨rfl, by rw [hft], by omega⟩, ⟨rfl, by rw [hft]; simp [vrows, Acc.row, h1]⟩, ⟨by omega, by rw [hft]; simp; omega⟩, by omega⟩
      · by_cases h2 : a.k < x.k ∨ a.k = x.k ∧ a.n < x.n
        · have hst : addStep a (o, false) x = (o ++ [a, x], true) := by simp [addStep, Acc.at, Acc.lt, h1, h2]
          rw [hst] at hft
          simp [hI, hlt, hw, Acc.row, hx, hS]
          exact ⟨fun e1 e2 => absurd ⟨e1, e2⟩ h1, fun _ => ⟨fun h => ⟨h, fun e => ⟨h, e⟩⟩, fun h => ⟨⟨by omega, by omega⟩, ⟨by omega, by omega⟩, i + 1, v + 1 + 1, ⟨rfl, by rw [hft], by omega⟩, ⟨rfl, by rw [hft]; simp [vrows, Acc.row]⟩, ⟨by omega, by rw [hft]; simp; omega⟩, by omega⟩, fun h3 h4 => absurd h2 (by omega)⟩⟩
        · have hst : addStep a (o, false) x = (o ++ [x], false) := by simp [addStep, Acc.at, Acc.lt, h1, h2]
          rw [hst] at hft
          simp [hI, hlt, hw, Acc.row, hx, hS]
          exact ⟨fun e1 e2 => absurd ⟨e1, e2⟩ h1, fun _ => ⟨fun h => ⟨h, fun e => ⟨h, e⟩⟩, fun h => absurd h (by omega), fun h3 h4 => ⟨⟨by omega, by omega⟩, i + 1, v + 1, ⟨rfl, by rw [hft], by omega⟩, ⟨rfl, by rw [hft]; simp [vrows, Acc.row]⟩, ⟨by omega, by rw [hft]; simp; omega⟩, by omega⟩⟩⟩
  · have hI : ¬ (i : Int) < (l.length : Int) := by omega
    obtain rfl : i = l.length := by omega
    simp only [List.take_length] at hlen
    generalize hS : l.foldl (addStep a) ([], false) = S at *
    obtain ⟨o, d⟩ := S
    simp only at hlen hall
    have hd1 : d.toNat ≤ 1 := by cases d <;> simp
    simp [hI, hS]
    refine ⟨fun h => ⟨⟨by omega, by omega⟩, ?_⟩, fun h => ?_⟩
    · rw [← hall, h]; simp [Acc.row]
    · rw [← hall, h]; simp
/-- Touches of several objects. -/
def sevT (k f : Int) (n : Nat) (h : Int) : List Tch := (List.range n).map fun (j : Nat) => (k, f + (j : Int), h)
theorem sevT_take (k f : Int) (n : Nat) (h : Int) {j : Nat} (hj : j < n) : (sevT k f n h)[j]? = some (k, f + (j : Int), h) := by simp [sevT, hj]
@[simp] theorem sevT_length (k f : Int) (n : Nat) (h : Int) : (sevT k f n h).length = n := by simp [sevT]
/-- scarab/scarabref06.several -/
def c55 : ACode :=
  (.seq (.reg none [⟨some 10, none, .q (.mv (.c .nil))⟩])
  (.keep [0, 1, 2, 3, 4]
  (.seq (.seq (.reg none [⟨some 12, none, .q (.mv (.t 2))⟩, ⟨some 11, none, .q (.mv (.t 12))⟩])
    (.keep [0, 1, 3, 4, 11]
    (.blk 0 (.keep [0, 1, 3, 4, 11]
    (.loop (.fin [0, 1, 3, 4, 11]
      (.seq (.seq (.reg none [⟨some 13, none, .q (.mv (.t 11))⟩, ⟨some 14, none, .q (.mv (.t 3))⟩, ⟨some 15, none, .q (.bin .lss (.t 13) (.t 14))⟩])
        (.keep [0, 1, 3, 4, 11, 15]
        (.cond (.t 15) .skip
        (.exit 0))))
      (.seq (.blk 1 (.reg none [⟨some 18, none, .q (.mv (.t 0))⟩, ⟨some 19, none, .q (.mv (.t 1))⟩, ⟨some 20, none, .q (.mv (.t 11))⟩, ⟨some 21, none, .q (.mv (.t 4))⟩, ⟨some 22, none, .q (.bld [(.i .i64 0), (.i .i64 0), (.b false)] [(0, 1, .t 19), (1, 1, .t 20), (2, 1, .t 21)])⟩, ⟨some 23, none, .call (.f 56) [(.t 18), (.t 22)]⟩, ⟨some 0, none, .q (.mv (.t 23))⟩]))
      (.keep [0, 1, 3, 4, 11]
      (.reg none [⟨some 16, none, .q (.mv (.t 11))⟩, ⟨some 17, none, .q (.bin .add (.t 16) (.c (.i .i64 1)))⟩, ⟨some 11, none, .q (.mv (.t 17))⟩]))))))))))
  (.seq (.reg none [⟨some 24, none, .q (.mv (.t 0))⟩, ⟨some 10, none, .q (.mv (.t 24))⟩])
  .ret))))
theorem r55 : (Try.f55.body.bind (resC Try.prog Try.f55.ntmps)) = some (strip c55) := by kernel_rfl
theorem s55 : Try.f55.results.toList.mapM (resRes Try.prog) = some [.t 10] := by kernel_rfl
theorem several_p (b : List Int) (hb : Bag b) (k f : Int) (n : Nat) (h m : Int) (hm : m = f + (n : Int)) (hn : n ≤ 8) (ht : ∀ t ∈ sevT k f n h, InB t) (hf : -100 ≤ f ∧ f ≤ 100) :
    PureS Try.prog 55 [.sl 3 (accRows b), .i .i64 k, .i .i64 f, .i .i64 m, .b (decide (h = 2))] (.sl 3 (accRows (putsB b (sevT k f n h)))) := by
  subst hm
  refine fun_go hmx Try.func55 r55 s55 (by rw [Try.ntmps55]; simp) ?_
  unfold c55
  simp
  refine go_while hmx 0 (fun (j : Nat) => [(0, .v (.sl 3 (accRows (putsB b ((sevT k f n h).take j))))), (11, .v (.i .i64 (f + (j : Int))))]) (fun _ => []) (fun j => j ≤ n) (fun j => n - j) 0 rfl (by simp [putsB]) rfl (by simp) (by simp) (by simp) (Nat.zero_le _) ?_
  intro j hj
  by_cases hjl : j < n
  · have hw : IntKind.i64.wrap (f + (j : Int) + 1) = f + ((j + 1 : Nat) : Int) := by rw [wrap_in (by omega) (by omega)]; omega
    have htj := sevT_take k f n h hjl
    have hin := ht _ (List.mem_of_getElem? htj)
    have hpt := putsB_take b htj
    have hbj : Bag (putsB b ((sevT k f n h).take j)) := putsB_ok hb fun t h => ht t (List.mem_of_mem_take h)
    have hadd := addA_accs hbj hin
    have hlen := accs_len (putsB b ((sevT k f n h).take j))
    simp [hjl]
    first
      | refine callk rfl Try.call56 (add_p (accs (putsB b ((sevT k f n h).take j))) ⟨k, f + (j : Int), decide (h = 2)⟩ (by omega)) rfl ?_
      | refine callks rfl Try.call56 (add_p (accs (putsB b ((sevT k f n h).take j))) ⟨k, f + (j : Int), decide (h = 2)⟩ (by omega)) rfl ?_
      | refine callq rfl Try.call56 (add_p (accs (putsB b ((sevT k f n h).take j))) ⟨k, f + (j : Int), decide (h = 2)⟩ (by omega)) rfl ?_
      | refine callqe rfl Try.call56 (add_p (accs (putsB b ((sevT k f n h).take j))) ⟨k, f + (j : Int), decide (h = 2)⟩ (by omega)) rfl ?_
    rw [hadd, ← hpt]
    simp [hw]
    exact ⟨j + 1, ⟨rfl, by omega⟩, by omega, by omega⟩
  · obtain rfl : j = n := by omega
    have htk : (sevT k f j h).take j = sevT k f j h := List.take_of_length_le (by simp)
    simp [htk]
end Go.Sc.Fl
/- Chapter 06: what an instruction touches, by the document. No condition. -/
set_option linter.constructorNameAsVariable false
namespace Go.Sc.Fl
open Go Go.RowKit Go.Av Go.Proofs Go.Sc
set_option linter.unusedSimpArgs false
set_option linter.unusedVariables false
/-- scarab/scarabref06.Touches -/
def c30 : ACode :=
  (.seq (.reg none [⟨some 3, none, .m (.box (.t 0))⟩, ⟨some 6, none, .q (.mv (.c .nil))⟩])
  (.gst (.pimT 3)
  (.keep [1, 2, 3]
  (.seq (.reg none [⟨some 11, none, .q (.fa 3 (.t 3))⟩, ⟨some 12, none, .q (.ld none (.t 11))⟩, ⟨some 13, none, .q (.mv (.t 1))⟩, ⟨some 14, none, .q (.ias 4 (.t 12) (.t 13))⟩, ⟨some 15, none, .q (.fa 2 (.t 14))⟩, ⟨some 16, none, .q (.ld none (.t 15))⟩, ⟨some 17, none, .q (.mv (.t 2))⟩, ⟨some 18, none, .q (.ias 5 (.t 16) (.t 17))⟩, ⟨some 19, none, .q (.ld (some 5) (.t 18))⟩, ⟨some 7, none, .m (.alloc (.g [(.i .i64 0), (.i .i64 0), (.i .i64 0), (.i .i64 0), (.i .i64 0)]))⟩, ⟨none, none, .m (.st 5 (.t 7) (.t 19))⟩])
  (.keep [1, 3, 7]
  (.seq (.reg none [⟨some 8, none, .q (.mv (.c .nil))⟩])
  (.gst (.letT 8 3)
  (.keep [1, 3, 7, 8]
  (.seq (.seq (.reg none [⟨some 20, none, .q (.fa 0 (.t 7))⟩, ⟨some 21, none, .q (.ld none (.t 20))⟩])
    (.keep [1, 3, 7, 8, 21]
    (.blk 0 (.seq (.reg none [⟨some 23, none, .q (.bin .eql (.t 21) (.c (.i .i64 50)))⟩, ⟨some 22, none, .q (.mv (.t 23))⟩])
    (.keep [1, 3, 7, 8, 21, 22]
    (.cond (.t 22) (.reg none [⟨some 24, none, .q (.mv (.t 8))⟩, ⟨some 25, none, .q (.fa 2 (.t 7))⟩, ⟨some 26, none, .q (.ld none (.t 25))⟩, ⟨some 27, none, .q (.fa 2 (.t 7))⟩, ⟨some 28, none, .q (.ld none (.t 27))⟩, ⟨some 29, none, .q (.bin .add (.t 28) (.c (.i .i64 1)))⟩, ⟨some 30, none, .call (.f 55) [(.t 24), (.c (.i .i64 1)), (.t 26), (.t 29), (.c (.b false))]⟩, ⟨some 8, none, .q (.mv (.t 30))⟩])
    (.seq (.reg none [⟨some 32, none, .q (.bin .eql (.t 21) (.c (.i .i64 54)))⟩, ⟨some 31, none, .q (.mv (.t 32))⟩])
      (.keep [1, 3, 7, 8, 21, 31]
      (.cond (.t 31) (.reg none [⟨some 33, none, .q (.mv (.t 8))⟩, ⟨some 34, none, .q (.fa 1 (.t 7))⟩, ⟨some 35, none, .q (.ld none (.t 34))⟩, ⟨some 36, none, .q (.fa 1 (.t 7))⟩, ⟨some 37, none, .q (.ld none (.t 36))⟩, ⟨some 38, none, .q (.bin .add (.t 37) (.c (.i .i64 1)))⟩, ⟨some 39, none, .call (.f 55) [(.t 33), (.c (.i .i64 1)), (.t 35), (.t 38), (.c (.b false))]⟩, ⟨some 8, none, .q (.mv (.t 39))⟩])
      (.seq (.reg none [⟨some 41, none, .q (.bin .eql (.t 21) (.c (.i .i64 51)))⟩, ⟨some 40, none, .q (.mv (.t 41))⟩])
        (.keep [1, 3, 7, 8, 21, 40]
        (.cond (.t 40) (.reg none [⟨some 42, none, .q (.mv (.t 8))⟩, ⟨some 43, none, .q (.fa 1 (.t 7))⟩, ⟨some 44, none, .q (.ld none (.t 43))⟩, ⟨some 45, none, .q (.fa 1 (.t 7))⟩, ⟨some 46, none, .q (.ld none (.t 45))⟩, ⟨some 47, none, .q (.bin .add (.t 46) (.c (.i .i64 1)))⟩, ⟨some 48, none, .call (.f 55) [(.t 42), (.c (.i .i64 1)), (.t 44), (.t 47), (.c (.b true))]⟩, ⟨some 8, none, .q (.mv (.t 48))⟩])
        (.seq (.seq (.reg none [⟨some 50, none, .q (.bin .eql (.t 21) (.c (.i .i64 52)))⟩, ⟨some 49, none, .q (.mv (.t 50))⟩])
            (.keep [1, 3, 7, 8, 21, 49]
            (.cond (.t 49) .skip
            (.reg none [⟨some 51, none, .q (.bin .eql (.t 21) (.c (.i .i64 53)))⟩, ⟨some 49, none, .q (.mv (.t 51))⟩]))))
          (.cond (.t 49) (.reg none [⟨some 52, none, .q (.mv (.t 8))⟩, ⟨some 53, none, .q (.fa 2 (.t 7))⟩, ⟨some 54, none, .q (.ld none (.t 53))⟩, ⟨some 55, none, .q (.fa 2 (.t 7))⟩, ⟨some 56, none, .q (.ld none (.t 55))⟩, ⟨some 57, none, .q (.bin .add (.t 56) (.c (.i .i64 1)))⟩, ⟨some 58, none, .call (.f 55) [(.t 52), (.c (.i .i64 1)), (.t 54), (.t 57), (.c (.b true))]⟩, ⟨some 8, none, .q (.mv (.t 58))⟩])
          (.seq (.seq (.reg none [⟨some 60, none, .q (.bin .eql (.t 21) (.c (.i .i64 55)))⟩, ⟨some 59, none, .q (.mv (.t 60))⟩])
              (.keep [1, 3, 7, 8, 21, 59]
              (.cond (.t 59) .skip
              (.reg none [⟨some 61, none, .q (.bin .eql (.t 21) (.c (.i .i64 56)))⟩, ⟨some 59, none, .q (.mv (.t 61))⟩]))))
            (.cond (.t 59) (.reg none [⟨some 62, none, .q (.mv (.t 8))⟩, ⟨some 63, none, .q (.fa 1 (.t 7))⟩, ⟨some 64, none, .q (.ld none (.t 63))⟩, ⟨some 65, none, .q (.fa 1 (.t 7))⟩, ⟨some 66, none, .q (.ld none (.t 65))⟩, ⟨some 67, none, .q (.bin .add (.t 66) (.c (.i .i64 1)))⟩, ⟨some 68, none, .call (.f 55) [(.t 62), (.c (.i .i64 2)), (.t 64), (.t 67), (.c (.b true))]⟩, ⟨some 8, none, .q (.mv (.t 68))⟩])
            (.seq (.reg none [⟨some 70, none, .q (.bin .eql (.t 21) (.c (.i .i64 57)))⟩, ⟨some 69, none, .q (.mv (.t 70))⟩])
              (.keep [1, 3, 7, 8, 21, 69]
              (.cond (.t 69) (.reg none [⟨some 71, none, .q (.mv (.t 8))⟩, ⟨some 72, none, .q (.fa 2 (.t 7))⟩, ⟨some 73, none, .q (.ld none (.t 72))⟩, ⟨some 74, none, .q (.fa 2 (.t 7))⟩, ⟨some 75, none, .q (.ld none (.t 74))⟩, ⟨some 76, none, .q (.bin .add (.t 75) (.c (.i .i64 1)))⟩, ⟨some 77, none, .call (.f 55) [(.t 71), (.c (.i .i64 2)), (.t 73), (.t 76), (.c (.b true))]⟩, ⟨some 8, none, .q (.mv (.t 77))⟩])
              (.seq (.seq (.reg none [⟨some 79, none, .q (.bin .eql (.t 21) (.c (.i .i64 58)))⟩, ⟨some 78, none, .q (.mv (.t 79))⟩])
                  (.keep [1, 3, 7, 8, 21, 78]
                  (.cond (.t 78) .skip
                  (.reg none [⟨some 80, none, .q (.bin .eql (.t 21) (.c (.i .i64 60)))⟩, ⟨some 78, none, .q (.mv (.t 80))⟩]))))
                (.cond (.t 78) (.reg none [⟨some 81, none, .q (.mv (.t 8))⟩, ⟨some 82, none, .q (.fa 1 (.t 7))⟩, ⟨some 83, none, .q (.ld none (.t 82))⟩, ⟨some 84, none, .q (.fa 1 (.t 7))⟩, ⟨some 85, none, .q (.ld none (.t 84))⟩, ⟨some 86, none, .q (.bin .add (.t 85) (.c (.i .i64 1)))⟩, ⟨some 87, none, .call (.f 55) [(.t 81), (.c (.i .i64 3)), (.t 83), (.t 86), (.c (.b true))]⟩, ⟨some 8, none, .q (.mv (.t 87))⟩])
                (.seq (.reg none [⟨some 89, none, .q (.bin .eql (.t 21) (.c (.i .i64 59)))⟩, ⟨some 88, none, .q (.mv (.t 89))⟩])
                  (.keep [1, 3, 7, 8, 21, 88]
                  (.cond (.t 88) (.reg none [⟨some 90, none, .q (.mv (.t 8))⟩, ⟨some 91, none, .q (.fa 2 (.t 7))⟩, ⟨some 92, none, .q (.ld none (.t 91))⟩, ⟨some 93, none, .q (.fa 2 (.t 7))⟩, ⟨some 94, none, .q (.ld none (.t 93))⟩, ⟨some 95, none, .q (.bin .add (.t 94) (.c (.i .i64 1)))⟩, ⟨some 96, none, .call (.f 55) [(.t 90), (.c (.i .i64 3)), (.t 92), (.t 95), (.c (.b true))]⟩, ⟨some 8, none, .q (.mv (.t 96))⟩])
                  (.seq (.reg none [⟨some 98, none, .q (.bin .eql (.t 21) (.c (.i .i64 61)))⟩, ⟨some 97, none, .q (.mv (.t 98))⟩])
                    (.keep [1, 3, 7, 8, 21, 97]
                    (.cond (.t 97) (.seq (.reg (some (10, [0, 1, 3, 4, 5, 6, 7, 8, 9])) [⟨some 99, none, .q (.fa 3 (.t 3))⟩, ⟨some 100, none, .q (.ld none (.t 99))⟩, ⟨some 101, none, .q (.mv (.t 1))⟩, ⟨some 102, none, .q (.ias 4 (.t 100) (.t 101))⟩, ⟨some 103, none, .q (.fa 3 (.t 102))⟩, ⟨some 104, none, .q (.ld none (.t 103))⟩, ⟨some 105, none, .q (.fa 1 (.t 7))⟩, ⟨some 106, none, .q (.ld none (.t 105))⟩, ⟨some 107, none, .q (.ias 2 (.t 104) (.t 106))⟩, ⟨some 108, none, .q (.ld (some 2) (.t 107))⟩, ⟨some 9, none, .m (.alloc (.g [.nil, (.i .i64 0)]))⟩, ⟨none, none, .m (.st 2 (.t 9) (.t 108))⟩])
                      (.keep [8, 9]
                      (.seq (.reg none [⟨some 10, none, .q (.mv (.c (.i .i64 0)))⟩])
                      (.keep [8, 9, 10]
                      (.blk 1 (.keep [8, 9, 10]
                      (.loop (.fin [8, 9, 10]
                        (.seq (.seq (.reg none [⟨some 109, none, .q (.mv (.t 10))⟩, ⟨some 110, none, .q (.fa 0 (.t 9))⟩, ⟨some 111, none, .q (.ld none (.t 110))⟩, ⟨some 112, none, .q (.len false (.t 111))⟩, ⟨some 113, none, .q (.bin .lss (.t 109) (.t 112))⟩])
                          (.keep [8, 9, 10, 113]
                          (.cond (.t 113) .skip
                          (.exit 1))))
                        (.seq (.blk 2 (.reg (some (14, [])) [⟨some 116, none, .q (.mv (.t 8))⟩, ⟨some 117, none, .q (.fa 0 (.t 9))⟩, ⟨some 118, none, .q (.ld none (.t 117))⟩, ⟨some 119, none, .q (.mv (.t 10))⟩, ⟨some 120, none, .q (.ias 4 (.t 118) (.t 119))⟩, ⟨some 121, none, .q (.fa 1 (.t 120))⟩, ⟨some 122, none, .q (.ld none (.t 121))⟩, ⟨some 123, none, .q (.fa 0 (.t 9))⟩, ⟨some 124, none, .q (.ld none (.t 123))⟩, ⟨some 125, none, .q (.mv (.t 10))⟩, ⟨some 126, none, .q (.ias 4 (.t 124) (.t 125))⟩, ⟨some 127, none, .q (.fa 1 (.t 126))⟩, ⟨some 128, none, .q (.ld none (.t 127))⟩, ⟨some 129, none, .q (.bin .add (.t 128) (.c (.i .i64 1)))⟩, ⟨some 130, none, .call (.f 55) [(.t 116), (.c (.i .i64 3)), (.t 122), (.t 129), (.c (.b true))]⟩, ⟨some 8, none, .q (.mv (.t 130))⟩]))
                        (.keep [8, 9, 10]
                        (.reg none [⟨some 114, none, .q (.mv (.t 10))⟩, ⟨some 115, none, .q (.bin .add (.t 114) (.c (.i .i64 1)))⟩, ⟨some 10, none, .q (.mv (.t 115))⟩]))))))))))))
                    (.seq (.reg none [⟨some 132, none, .q (.bin .eql (.t 21) (.c (.i .i64 62)))⟩, ⟨some 131, none, .q (.mv (.t 132))⟩])
                      (.keep [8, 21, 131]
                      (.cond (.t 131) (.seq (.reg none [⟨some 133, none, .q (.mv (.t 8))⟩, ⟨some 134, none, .call (.f 55) [(.t 133), (.c (.i .i64 4)), (.c (.i .i64 0)), (.c (.i .i64 1)), (.c (.b true))]⟩, ⟨some 8, none, .q (.mv (.t 134))⟩])
                        (.keep [8]
                        (.reg none [⟨some 135, none, .q (.mv (.t 8))⟩, ⟨some 136, none, .call (.f 55) [(.t 135), (.c (.i .i64 5)), (.c (.i .i64 1)), (.c (.i .i64 6)), (.c (.b true))]⟩, ⟨some 8, none, .q (.mv (.t 136))⟩])))
                      (.seq (.reg none [⟨some 138, none, .q (.bin .eql (.t 21) (.c (.i .i64 63)))⟩, ⟨some 137, none, .q (.mv (.t 138))⟩])
                        (.keep [8, 21, 137]
                        (.cond (.t 137) (.seq (.reg none [⟨some 139, none, .q (.mv (.t 8))⟩, ⟨some 140, none, .call (.f 55) [(.t 139), (.c (.i .i64 4)), (.c (.i .i64 0)), (.c (.i .i64 1)), (.c (.b false))]⟩, ⟨some 8, none, .q (.mv (.t 140))⟩])
                          (.keep [8]
                          (.reg none [⟨some 141, none, .q (.mv (.t 8))⟩, ⟨some 142, none, .call (.f 55) [(.t 141), (.c (.i .i64 5)), (.c (.i .i64 0)), (.c (.i .i64 6)), (.c (.b false))]⟩, ⟨some 8, none, .q (.mv (.t 142))⟩])))
                        (.seq (.reg none [⟨some 144, none, .q (.bin .eql (.t 21) (.c (.i .i64 65)))⟩, ⟨some 143, none, .q (.mv (.t 144))⟩])
                          (.keep [8, 143]
                          (.cond (.t 143) (.reg none [⟨some 145, none, .q (.mv (.t 8))⟩, ⟨some 146, none, .call (.f 55) [(.t 145), (.c (.i .i64 6)), (.c (.i .i64 0)), (.c (.i .i64 1)), (.c (.b true))]⟩, ⟨some 8, none, .q (.mv (.t 146))⟩])
                          .skip))))))))))))))))))))))))))))))))))))
  (.seq (.reg none [⟨some 147, none, .q (.mv (.t 8))⟩, ⟨some 6, none, .q (.mv (.t 147))⟩])
  .ret))))))))))
theorem r30 : (Try.f30.body.bind (resC Try.prog Try.f30.ntmps)) = some (strip c30) := by kernel_rfl
theorem s30 : Try.f30.results.toList.mapM (resRes Try.prog) = some [.t 6] := by kernel_rfl
theorem sevT_one (k x h : Int) : sevT k x 1 h = [(k, x, h)] := by simp [sevT]
theorem accRows_zero : accRows bag0 = [] := by rw [accRows, accs_zero]; rfl
theorem sev1_p (b : List Int) (hb : Bag b) (k x h : Int) (ht : InB (k, x, h)) : PureS Try.prog 55 [.sl 3 (accRows b), .i .i64 k, .i .i64 x, .i .i64 (x + 1), .b (decide (h = 2))] (.sl 3 (accRows (putB b (k, x, h)))) := by
  have := several_p b hb k x 1 h (x + 1) rfl (by omega) (by rw [sevT_one]; simpa using ht) (by unfold InB at ht; simp only at ht; omega)
  rwa [sevT_one] at this
theorem sev0_p (k x h : Int) (ht : InB (k, x, h)) : PureS Try.prog 55 [.sl 3 [], .i .i64 k, .i .i64 x, .i .i64 (x + 1), .b (decide (h = 2))] (.sl 3 (accRows (putB bag0 (k, x, h)))) := by
  have := sev1_p bag0 bag0_ok k x h ht
  rwa [accRows_zero] at this
theorem touchesR_p (p : Prog) (hp : p.Ok) (f pc : Nat) (F : Func) (hF : p.funcs[f]? = some F) (hpc : pc < F.code.length) (h4 : ∀ s ∈ F.selects, s.cases.length ≤ 64) (hs : (F.code.getD pc default).op = 61 → 0 ≤ (F.code.getD pc default).a ∧ (F.code.getD pc default).a < F.selects.length) (hn : ∀ t ∈ tcAt F pc, InB t) :
    PureS Try.prog 30 [.g p.row, .i .i64 (f : Int), .i .i64 (pc : Int)] (.sl 3 (accRows (putsB bag0 (tcAt F pc)))) := by
  have hlt := (List.getElem?_eq_some_iff.1 hF).1
  have hgF := (List.getElem?_eq_some_iff.1 hF).2
  have hib : F.code.getD pc default = F.code[pc] := by rw [List.getD_eq_getElem?_getD, List.getElem?_eq_getElem hpc]; rfl
  rw [tcAt, hib] at hn ⊢
  rw [hib] at hs
  have hwr : ∀ x : Int, 0 ≤ x → x < 8 → IntKind.i64.wrap (x + 1) = x + 1 := fun x h0 h1 => wrap_in (by omega) (by omega)
  refine fun_go hmx Try.func30 r30 s30 (by rw [Try.ntmps30]; simp) ?_
  unfold c30
  simp [Prog.row, hlt, hgF, Func.row, hpc, Instr.row]
  generalize F.code[pc] = i at *
  by_cases e50 : i.op = 50
  · have ht : tcI F i = [(1, i.b, 1)] := by simp [tcI, e50]
    rw [ht] at hn ⊢
    have this := hn _ (List.mem_singleton.2 rfl)
    have hc := sev0_p 1 (i.b) 1 this
    simp [e50, hwr i.b this.2.2.1 this.2.2.2.1]
    simp at hc
    first
      | refine callk rfl Try.call55 hc rfl ?_
      | refine callks rfl Try.call55 hc rfl ?_
      | refine callq rfl Try.call55 hc rfl ?_
      | refine callqe rfl Try.call55 hc rfl ?_
    simp [putsB]
  by_cases e54 : i.op = 54
  · have ht : tcI F i = [(1, i.a, 1)] := by simp [tcI, e54]
    rw [ht] at hn ⊢
    have this := hn _ (List.mem_singleton.2 rfl)
    have hc := sev0_p 1 (i.a) 1 this
    simp [e54, hwr i.a this.2.2.1 this.2.2.2.1]
    simp at hc
    first
      | refine callk rfl Try.call55 hc rfl ?_
      | refine callks rfl Try.call55 hc rfl ?_
      | refine callq rfl Try.call55 hc rfl ?_
      | refine callqe rfl Try.call55 hc rfl ?_
    simp [putsB]
  by_cases e51 : i.op = 51
  · have ht : tcI F i = [(1, i.a, 2)] := by simp [tcI, e51]
    rw [ht] at hn ⊢
    have this := hn _ (List.mem_singleton.2 rfl)
    have hc := sev0_p 1 (i.a) 2 this
    simp [e51, hwr i.a this.2.2.1 this.2.2.2.1]
    simp at hc
    first
      | refine callk rfl Try.call55 hc rfl ?_
      | refine callks rfl Try.call55 hc rfl ?_
      | refine callq rfl Try.call55 hc rfl ?_
      | refine callqe rfl Try.call55 hc rfl ?_
    simp [putsB]
  by_cases e52 : i.op = 52
  · have ht : tcI F i = [(1, i.b, 2)] := by simp [tcI, e52]
    rw [ht] at hn ⊢
    have this := hn _ (List.mem_singleton.2 rfl)
    have hc := sev0_p 1 (i.b) 2 this
    simp [e52, hwr i.b this.2.2.1 this.2.2.2.1]
    simp at hc
    first
      | refine callk rfl Try.call55 hc rfl ?_
      | refine callks rfl Try.call55 hc rfl ?_
      | refine callq rfl Try.call55 hc rfl ?_
      | refine callqe rfl Try.call55 hc rfl ?_
    simp [putsB]
  by_cases e53 : i.op = 53
  · have ht : tcI F i = [(1, i.b, 2)] := by simp [tcI, e53]
    rw [ht] at hn ⊢
    have this := hn _ (List.mem_singleton.2 rfl)
    have hc := sev0_p 1 (i.b) 2 this
    simp [e53, hwr i.b this.2.2.1 this.2.2.2.1]
    simp at hc
    first
      | refine callk rfl Try.call55 hc rfl ?_
      | refine callks rfl Try.call55 hc rfl ?_
      | refine callq rfl Try.call55 hc rfl ?_
      | refine callqe rfl Try.call55 hc rfl ?_
    simp [putsB]
  by_cases e55 : i.op = 55
  · have ht : tcI F i = [(2, i.a, 2)] := by simp [tcI, e55]
    rw [ht] at hn ⊢
    have this := hn _ (List.mem_singleton.2 rfl)
    have hc := sev0_p 2 (i.a) 2 this
    simp [e55, hwr i.a this.2.2.1 this.2.2.2.1]
    simp at hc
    first
      | refine callk rfl Try.call55 hc rfl ?_
      | refine callks rfl Try.call55 hc rfl ?_
      | refine callq rfl Try.call55 hc rfl ?_
      | refine callqe rfl Try.call55 hc rfl ?_
    simp [putsB]
  by_cases e56 : i.op = 56
  · have ht : tcI F i = [(2, i.a, 2)] := by simp [tcI, e56]
    rw [ht] at hn ⊢
    have this := hn _ (List.mem_singleton.2 rfl)
    have hc := sev0_p 2 (i.a) 2 this
    simp [e56, hwr i.a this.2.2.1 this.2.2.2.1]
    simp at hc
    first
      | refine callk rfl Try.call55 hc rfl ?_
      | refine callks rfl Try.call55 hc rfl ?_
      | refine callq rfl Try.call55 hc rfl ?_
      | refine callqe rfl Try.call55 hc rfl ?_
    simp [putsB]
  by_cases e57 : i.op = 57
  · have ht : tcI F i = [(2, i.b, 2)] := by simp [tcI, e57]
    rw [ht] at hn ⊢
    have this := hn _ (List.mem_singleton.2 rfl)
    have hc := sev0_p 2 (i.b) 2 this
    simp [e57, hwr i.b this.2.2.1 this.2.2.2.1]
    simp at hc
    first
      | refine callk rfl Try.call55 hc rfl ?_
      | refine callks rfl Try.call55 hc rfl ?_
      | refine callq rfl Try.call55 hc rfl ?_
      | refine callqe rfl Try.call55 hc rfl ?_
    simp [putsB]
  by_cases e58 : i.op = 58
  · have ht : tcI F i = [(3, i.a, 2)] := by simp [tcI, e58]
    rw [ht] at hn ⊢
    have this := hn _ (List.mem_singleton.2 rfl)
    have hc := sev0_p 3 (i.a) 2 this
    simp [e58, hwr i.a this.2.2.1 this.2.2.2.1]
    simp at hc
    first
      | refine callk rfl Try.call55 hc rfl ?_
      | refine callks rfl Try.call55 hc rfl ?_
      | refine callq rfl Try.call55 hc rfl ?_
      | refine callqe rfl Try.call55 hc rfl ?_
    simp [putsB]
  by_cases e60 : i.op = 60
  · have ht : tcI F i = [(3, i.a, 2)] := by simp [tcI, e60]
    rw [ht] at hn ⊢
    have this := hn _ (List.mem_singleton.2 rfl)
    have hc := sev0_p 3 (i.a) 2 this
    simp [e60, hwr i.a this.2.2.1 this.2.2.2.1]
    simp at hc
    first
      | refine callk rfl Try.call55 hc rfl ?_
      | refine callks rfl Try.call55 hc rfl ?_
      | refine callq rfl Try.call55 hc rfl ?_
      | refine callqe rfl Try.call55 hc rfl ?_
    simp [putsB]
  by_cases e59 : i.op = 59
  · have ht : tcI F i = [(3, i.b, 2)] := by simp [tcI, e59]
    rw [ht] at hn ⊢
    have this := hn _ (List.mem_singleton.2 rfl)
    have hc := sev0_p 3 (i.b) 2 this
    simp [e59, hwr i.b this.2.2.1 this.2.2.2.1]
    simp at hc
    first
      | refine callk rfl Try.call55 hc rfl ?_
      | refine callks rfl Try.call55 hc rfl ?_
      | refine callq rfl Try.call55 hc rfl ?_
      | refine callqe rfl Try.call55 hc rfl ?_
    simp [putsB]
  by_cases e65 : i.op = 65
  · have ht : tcI F i = [(6, 0, 2)] := by simp [tcI, e65]
    rw [ht] at hn ⊢
    have this := hn _ (List.mem_singleton.2 rfl)
    have hc := sev0_p 6 (0) 2 this
    simp [e65]
    simp at hc
    first
      | refine callk rfl Try.call55 hc rfl ?_
      | refine callks rfl Try.call55 hc rfl ?_
      | refine callq rfl Try.call55 hc rfl ?_
      | refine callqe rfl Try.call55 hc rfl ?_
    simp [putsB]
  by_cases e61 : i.op = 61
  · obtain ⟨a0, a1⟩ := hs e61
    have hlt2 : i.a.toNat < F.selects.length := by omega
    have hsd : F.selects.getD i.a.toNat default = F.selects[i.a.toNat] := by rw [List.getD_eq_getElem?_getD, List.getElem?_eq_getElem hlt2]; rfl
    have ht : tcI F i = F.selects[i.a.toNat].cases.map fun c => (3, c.chan, 2) := by rw [← hsd]; simp [tcI, e61]
    have h4 := h4 _ (List.getElem_mem hlt2)
    rw [ht] at hn ⊢
    simp [e61, a0, a1, hlt, hgF, Func.row, hlt2]
    generalize F.selects[i.a.toNat] = S at *
    simp [Select.row]
    generalize hT : (S.cases.map fun c => ((3, c.chan, 2) : Tch)) = T at *
    have hTl : T.length = S.cases.length := by rw [← hT]; simp
    have hz : (AV.sl 3 []) = .sl 3 (accRows bag0) := by rw [accRows_zero]
    rw [hz]
    refine go_while hmx 3 (fun (k : Nat) => [(8, .v (.sl 3 (accRows (putsB bag0 (T.take k))))), (10, .v (.i .i64 (k : Int)))]) (fun _ => [.none, .var ([AV.i .i64 61, .i .i64 i.a, .i .i64 i.b, .i .i64 i.c, .i .i64 i.n].map .v), .var ([AV.sl 4 (S.cases.map Case.row), .i .i64 S.els].map .v)]) (fun k => k ≤ S.cases.length) (fun k => S.cases.length - k) 0 rfl rfl rfl (by simp) (by simp) (by simp) (Nat.zero_le _) ?_
    intro k hk
    by_cases hkl : k < S.cases.length
    · have hK : (k : Int) < (S.cases.length : Int) := by omega
      have hw : IntKind.i64.wrap ((k : Int) + 1) = (k : Int) + 1 := wrap_in (by omega) (by omega)
      have hTk : T[k]? = some (3, S.cases[k].chan, 2) := by rw [← hT]; simp [hkl]
      have hpt := putsB_take bag0 hTk
      have hin := hn _ (List.mem_of_getElem? hTk)
      have hbk : Bag (putsB bag0 (T.take k)) := putsB_ok bag0_ok fun t h => hn t (List.mem_of_mem_take h)
      have hc := sev1_p _ hbk 3 S.cases[k].chan 2 hin
      rw [← hpt] at hc
      have hcw := hwr S.cases[k].chan hin.2.2.1 hin.2.2.2.1
      simp [hK, hkl, Case.row, hcw]
      simp at hc
      first
        | refine callk rfl Try.call55 hc rfl ?_
        | refine callks rfl Try.call55 hc rfl ?_
        | refine callq rfl Try.call55 hc rfl ?_
        | refine callqe rfl Try.call55 hc rfl ?_
      simp [hw]
      exact ⟨k + 1, ⟨rfl, by omega⟩, by omega, by omega⟩
    · have hK : ¬ (k : Int) < (S.cases.length : Int) := by omega
      obtain rfl : k = S.cases.length := by omega
      have htk : T.take S.cases.length = T := by rw [← hTl]; exact List.take_length
      simp [hK, htk]
  by_cases e62 : i.op = 62
  · have ht : tcI F i = (4, 0, 2) :: sevT 5 1 5 2 := by simp [tcI, e62]; rfl
    rw [ht] at hn ⊢
    have hc := sev0_p 4 0 2 (hn _ (by simp))
    have hb1 : Bag (putB bag0 (4, 0, 2)) := putB_ok bag0_ok (hn _ (by simp))
    have hc2 := several_p _ hb1 5 1 5 2 6 rfl (by omega) (fun t h => hn t (by simp [h])) (by omega)
    simp [e62]
    simp at hc hc2
    first
      | refine callk rfl Try.call55 hc rfl ?_
      | refine callks rfl Try.call55 hc rfl ?_
      | refine callq rfl Try.call55 hc rfl ?_
      | refine callqe rfl Try.call55 hc rfl ?_
    simp
    first
      | refine callk rfl Try.call55 hc2 rfl ?_
      | refine callks rfl Try.call55 hc2 rfl ?_
      | refine callq rfl Try.call55 hc2 rfl ?_
      | refine callqe rfl Try.call55 hc2 rfl ?_
    simp [putsB]
  by_cases e63 : i.op = 63
  · have ht : tcI F i = (4, 0, 1) :: sevT 5 0 6 1 := by simp [tcI, e63]; rfl
    rw [ht] at hn ⊢
    have hc := sev0_p 4 0 1 (hn _ (by simp))
    have hb1 : Bag (putB bag0 (4, 0, 1)) := putB_ok bag0_ok (hn _ (by simp))
    have hc2 := several_p _ hb1 5 0 6 1 6 rfl (by omega) (fun t h => hn t (by simp [h])) (by omega)
    simp [e63]
    simp at hc hc2
    first
      | refine callk rfl Try.call55 hc rfl ?_
      | refine callks rfl Try.call55 hc rfl ?_
      | refine callq rfl Try.call55 hc rfl ?_
      | refine callqe rfl Try.call55 hc rfl ?_
    simp
    first
      | refine callk rfl Try.call55 hc2 rfl ?_
      | refine callks rfl Try.call55 hc2 rfl ?_
      | refine callq rfl Try.call55 hc2 rfl ?_
      | refine callqe rfl Try.call55 hc2 rfl ?_
    simp [putsB]
  have ht : tcI F i = [] := by simp [tcI, e50, e51, e52, e53, e54, e55, e56, e57, e58, e59, e60, e61, e62, e63, e65]
  rw [ht]
  simp [e50, e51, e52, e53, e54, e55, e56, e57, e58, e59, e60, e61, e62, e63, e65, putsB, accRows, accs_zero]
end Go.Sc.Fl
/- Chapter 06: what may be touched, by the document. No condition. -/
set_option linter.constructorNameAsVariable false
namespace Go.Sc.Fl
open Go Go.RowKit Go.Av Go.Proofs Go.Sc
set_option linter.unusedSimpArgs false
set_option linter.unusedVariables false
/-- scarab/scarabref06.May -/
def c31 : ACode :=
  (.seq (.reg none [⟨some 3, none, .m (.box (.t 0))⟩, ⟨some 6, none, .q (.mv (.c .nil))⟩])
  (.gst (.pimT 3)
  (.keep [1, 2, 3]
  (.seq (.reg none [⟨some 7, none, .q (.mv (.c .nil))⟩])
  (.gst (.letT 7 3)
  (.keep [1, 2, 3, 7]
  (.seq (.reg none [⟨some 15, none, .q (.fa 3 (.t 3))⟩, ⟨some 16, none, .q (.ld none (.t 15))⟩, ⟨some 17, none, .q (.len false (.t 16))⟩, ⟨some 18, none, .m (.mks 1 1 [(.b false)] (.t 17) (.t 17))⟩, ⟨some 8, none, .q (.mv (.t 18))⟩])
  (.keep [1, 2, 3, 7, 8]
  (.seq (.reg none [⟨some 19, none, .q (.fa 3 (.t 3))⟩, ⟨some 20, none, .q (.ld none (.t 19))⟩, ⟨some 21, none, .q (.len false (.t 20))⟩, ⟨some 22, none, .m (.mks 1 1 [(.b false)] (.t 21) (.t 21))⟩, ⟨some 9, none, .q (.mv (.t 22))⟩])
  (.keep [1, 2, 3, 7, 8, 9]
  (.seq (.reg none [⟨some 23, none, .q (.ld (some 4) (.t 3))⟩, ⟨some 24, none, .q (.mv (.t 1))⟩, ⟨some 25, none, .q (.mv (.t 2))⟩, ⟨some 26, none, .call (.f 15) [(.t 23), (.t 24), (.t 25)]⟩, ⟨some 10, none, .q (.mv (.t 26))⟩])
  (.keep [1, 3, 7, 8, 9, 10]
  (.seq (.reg none [⟨some 27, none, .q (.mv (.t 1))⟩, ⟨some 11, none, .q (.mv (.t 27))⟩])
  (.keep [3, 7, 8, 9, 10, 11]
  (.blk 0 (.keep [3, 7, 8, 9, 10, 11]
  (.loop (.fin [3, 7, 8, 9, 10, 11]
    (.blk 1 (.seq (.seq (.reg none [⟨some 12, none, .q (.mv (.c (.i .i64 0)))⟩])
      (.keep [3, 7, 8, 9, 10, 11, 12]
      (.blk 2 (.keep [3, 7, 8, 9, 10, 11, 12]
      (.loop (.fin [3, 7, 8, 9, 10, 11, 12]
        (.seq (.seq (.reg none [⟨some 28, none, .q (.mv (.t 12))⟩, ⟨some 29, none, .q (.mv (.t 10))⟩, ⟨some 30, none, .q (.len false (.t 29))⟩, ⟨some 31, none, .q (.bin .lss (.t 28) (.t 30))⟩])
          (.keep [3, 7, 8, 9, 10, 11, 12, 31]
          (.cond (.t 31) .skip
          (.exit 2))))
        (.seq (.blk 3 (.seq (.reg (some (6, [])) [⟨some 34, none, .q (.ld (some 4) (.t 3))⟩, ⟨some 35, none, .q (.mv (.t 11))⟩, ⟨some 36, none, .q (.mv (.t 10))⟩, ⟨some 37, none, .q (.mv (.t 12))⟩, ⟨some 38, none, .q (.ias 1 (.t 36) (.t 37))⟩, ⟨some 39, none, .q (.ld none (.t 38))⟩, ⟨some 40, none, .call (.f 30) [(.t 34), (.t 35), (.t 39)]⟩, ⟨some 13, none, .q (.mv (.t 40))⟩])
          (.keep [3, 7, 8, 9, 10, 11, 12, 13]
          (.seq (.seq (.reg none [⟨some 14, none, .q (.mv (.c (.i .i64 0)))⟩])
            (.keep [3, 7, 8, 9, 10, 11, 12, 13, 14]
            (.blk 4 (.keep [3, 7, 8, 9, 10, 11, 12, 13, 14]
            (.loop (.fin [3, 7, 8, 9, 10, 11, 12, 13, 14]
              (.seq (.seq (.reg none [⟨some 41, none, .q (.mv (.t 14))⟩, ⟨some 42, none, .q (.mv (.t 13))⟩, ⟨some 43, none, .q (.len false (.t 42))⟩, ⟨some 44, none, .q (.bin .lss (.t 41) (.t 43))⟩])
                (.keep [3, 7, 8, 9, 10, 11, 12, 13, 14, 44]
                (.cond (.t 44) .skip
                (.exit 4))))
              (.seq (.blk 5 (.reg none [⟨some 47, none, .q (.mv (.t 7))⟩, ⟨some 48, none, .q (.mv (.t 13))⟩, ⟨some 49, none, .q (.mv (.t 14))⟩, ⟨some 50, none, .q (.ias 3 (.t 48) (.t 49))⟩, ⟨some 51, none, .q (.ld (some 3) (.t 50))⟩, ⟨some 52, none, .call (.f 56) [(.t 47), (.t 51)]⟩, ⟨some 7, none, .q (.mv (.t 52))⟩]))
              (.keep [3, 7, 8, 9, 10, 11, 12, 13, 14]
              (.reg none [⟨some 45, none, .q (.mv (.t 14))⟩, ⟨some 46, none, .q (.bin .add (.t 45) (.c (.i .i64 1)))⟩, ⟨some 14, none, .q (.mv (.t 46))⟩]))))))))))
          (.seq (.reg (some (14, [])) [⟨some 53, none, .q (.fa 3 (.t 3))⟩, ⟨some 54, none, .q (.ld none (.t 53))⟩, ⟨some 55, none, .q (.mv (.t 11))⟩, ⟨some 56, none, .q (.ias 4 (.t 54) (.t 55))⟩, ⟨some 57, none, .q (.fa 2 (.t 56))⟩, ⟨some 58, none, .q (.ld none (.t 57))⟩, ⟨some 59, none, .q (.mv (.t 10))⟩, ⟨some 60, none, .q (.mv (.t 12))⟩, ⟨some 61, none, .q (.ias 1 (.t 59) (.t 60))⟩, ⟨some 62, none, .q (.ld none (.t 61))⟩, ⟨some 63, none, .q (.ias 5 (.t 58) (.t 62))⟩, ⟨some 64, none, .q (.fa 0 (.t 63))⟩, ⟨some 65, none, .q (.ld none (.t 64))⟩, ⟨some 66, none, .q (.bin .eql (.t 65) (.c (.i .i64 62)))⟩])
          (.keep [3, 7, 8, 9, 10, 11, 12, 66]
          (.cond (.t 66) (.reg (some (15, [])) [⟨some 67, none, .q (.mv (.t 8))⟩, ⟨some 68, none, .q (.fa 3 (.t 3))⟩, ⟨some 69, none, .q (.ld none (.t 68))⟩, ⟨some 70, none, .q (.mv (.t 11))⟩, ⟨some 71, none, .q (.ias 4 (.t 69) (.t 70))⟩, ⟨some 72, none, .q (.fa 2 (.t 71))⟩, ⟨some 73, none, .q (.ld none (.t 72))⟩, ⟨some 74, none, .q (.mv (.t 10))⟩, ⟨some 75, none, .q (.mv (.t 12))⟩, ⟨some 76, none, .q (.ias 1 (.t 74) (.t 75))⟩, ⟨some 77, none, .q (.ld none (.t 76))⟩, ⟨some 78, none, .q (.ias 5 (.t 73) (.t 77))⟩, ⟨some 79, none, .q (.fa 2 (.t 78))⟩, ⟨some 80, none, .q (.ld none (.t 79))⟩, ⟨some 81, none, .q (.ias 1 (.t 67) (.t 80))⟩, ⟨none, none, .m (.st 1 (.t 81) (.c (.b true)))⟩])
          .skip)))))))
        (.keep [3, 7, 8, 9, 10, 11, 12]
        (.reg none [⟨some 32, none, .q (.mv (.t 12))⟩, ⟨some 33, none, .q (.bin .add (.t 32) (.c (.i .i64 1)))⟩, ⟨some 12, none, .q (.mv (.t 33))⟩]))))))))))
    (.seq (.reg none [⟨some 11, none, .q (.mv (.c (.i .i64 0)))⟩])
    (.keep [3, 7, 8, 9, 11]
    (.seq (.blk 6 (.keep [3, 7, 8, 9, 11]
      (.loop (.fin [3, 7, 8, 9, 11]
        (.seq (.seq (.reg none [⟨some 82, none, .q (.mv (.t 11))⟩, ⟨some 83, none, .q (.mv (.t 8))⟩, ⟨some 84, none, .q (.len false (.t 83))⟩, ⟨some 85, none, .q (.bin .lss (.t 82) (.t 84))⟩, ⟨some 86, none, .q (.mv (.t 85))⟩, ⟨some 87, some (86, true), .q (.mv (.t 8))⟩, ⟨some 88, some (86, true), .q (.mv (.t 11))⟩, ⟨some 89, some (86, true), .q (.ias 1 (.t 87) (.t 88))⟩, ⟨some 90, some (86, true), .q (.ld none (.t 89))⟩, ⟨some 91, some (86, true), .q (.un .not (.t 90))⟩, ⟨some 92, some (86, true), .q (.mv (.t 91))⟩, ⟨some 93, some (92, false), .q (.mv (.t 9))⟩, ⟨some 94, some (92, false), .q (.mv (.t 11))⟩, ⟨some 95, some (92, false), .q (.ias 1 (.t 93) (.t 94))⟩, ⟨some 96, some (92, false), .q (.ld none (.t 95))⟩, ⟨some 97, some (86, true), .pk (.t 92) (.c (.b true)) (.t 96)⟩, ⟨some 98, none, .pk (.t 86) (.t 97) (.c (.b false))⟩])
          (.keep [3, 7, 8, 9, 11, 98]
          (.cond (.t 98) .skip
          (.exit 6))))
        (.blk 7 (.reg none [⟨some 99, none, .q (.mv (.t 11))⟩, ⟨some 100, none, .q (.bin .add (.t 99) (.c (.i .i64 1)))⟩, ⟨some 11, none, .q (.mv (.t 100))⟩])))))))
    (.keep [3, 7, 8, 9, 11]
    (.seq (.seq (.reg none [⟨some 101, none, .q (.mv (.t 11))⟩, ⟨some 102, none, .q (.mv (.t 8))⟩, ⟨some 103, none, .q (.len false (.t 102))⟩, ⟨some 104, none, .q (.bin .eql (.t 101) (.t 103))⟩])
      (.keep [3, 7, 8, 9, 11, 104]
      (.cond (.t 104) (.seq (.reg none [⟨some 105, none, .q (.mv (.t 7))⟩, ⟨some 6, none, .q (.mv (.t 105))⟩])
        .ret)
      .skip)))
    (.seq (.reg none [⟨some 106, none, .q (.mv (.t 9))⟩, ⟨some 107, none, .q (.mv (.t 11))⟩, ⟨some 108, none, .q (.ias 1 (.t 106) (.t 107))⟩, ⟨none, none, .m (.st 1 (.t 108) (.c (.b true)))⟩])
    (.keep [3, 7, 8, 9, 11]
    (.reg none [⟨some 109, none, .q (.ld (some 4) (.t 3))⟩, ⟨some 110, none, .q (.mv (.t 11))⟩, ⟨some 111, none, .call (.f 15) [(.t 109), (.t 110), (.c (.i .i64 0))]⟩, ⟨some 10, none, .q (.mv (.t 111))⟩]))))))))))))))))))))))))))))
theorem r31 : (Try.f31.body.bind (resC Try.prog Try.f31.ntmps)) = some (strip c31) := by kernel_rfl
theorem s31 : Try.f31.results.toList.mapM (resRes Try.prog) = some [.t 6] := by kernel_rfl
theorem tcL_take (f : Func) {l : List Nat} {k : Nat} {x : Nat} (h : l[k]? = some x) : tcL f (l.take (k + 1)) = tcL f (l.take k) ++ tcAt f x := by
  rw [List.take_add_one, h, tcL, List.flatMap_append]
  simp [tcL]
theorem falses (n : Nat) : List.replicate n [RV.v (AV.b false)] = vrows ((reps n false).map brw) := by simp [vrows, reps, brw]
theorem mayR_p (p : Prog) (hp : p.Ok) (hr : (check p).1 = 0) (f pc : Nat) (hf : f < p.funcs.length) (hpc : pc < (p.funcs.getD f default).code.length) : PureS Try.prog 31 [.g p.row, .i .i64 (f : Int), .i .i64 (pc : Int)] (.sl 3 (accRows (putsB bag0 (mayT p f pc)))) := by
  have hw := right_whole hr
  have h8 := hw.few
  have hne := right_neat hr
  have hFs := right_fines hr
  have h4s : ∀ F ∈ p.funcs, ∀ s ∈ F.selects, s.cases.length ≤ 64 := fun F h => right_cases hr h
  have h1s : ∀ F ∈ p.funcs, 1 ≤ F.code.length := fun F hF => ((right_of hr).func F hF).code.1
  have hq : p.funcs[f]? = some (p.funcs.getD f default) := by rw [List.getD_eq_getElem?_getD, List.getElem?_eq_getElem hf]; rfl
  have hFm : p.funcs.getD f default ∈ p.funcs := List.mem_of_getElem? hq
  refine fun_go hmx Try.func31 r31 s31 (by rw [Try.ntmps31]; simp) ?_
  unfold c31
  simp [Prog.row]
  refine ⟨⟨by omega, by omega⟩, ?_⟩
  first
    | refine callk rfl Try.call15 (reachR_p p hp f pc _ hq (hFs _ hFm) hpc (h4s _ hFm)) rfl ?_
    | refine callks rfl Try.call15 (reachR_p p hp f pc _ hq (hFs _ hFm) hpc (h4s _ hFm)) rfl ?_
    | refine callq rfl Try.call15 (reachR_p p hp f pc _ hq (hFs _ hFm) hpc (h4s _ hFm)) rfl ?_
    | refine callqe rfl Try.call15 (reachR_p p hp f pc _ hq (hFs _ hFm) hpc (h4s _ hFm)) rfl ?_
  rw [show reachL (p.funcs.getD f default) pc = ints (onC p f pc none) from rfl, falses]
  simp
  have hz : (AV.sl 3 []) = .sl 3 (accRows (putsB bag0 (⟨[], reps p.funcs.length false, reps p.funcs.length false, none⟩ : Work).S)) := by rw [show putsB bag0 (⟨[], reps p.funcs.length false, reps p.funcs.length false, none⟩ : Work).S = bag0 from rfl, accRows_zero]
  rw [hz]
  refine go_while hmx 3 (fun (w : Work) => [(7, .v (.sl 3 (accRows (putsB bag0 w.S)))), (10, .v (.sl 1 ((ints (onC p f pc w.c)).map irow))), (11, .v (.i .i64 ((w.c.getD f : Nat) : Int)))]) (fun w => [.none, .arr 0 1 (vrows (w.todo.map brw)), .arr 0 1 (vrows (w.done.map brw))]) (WInv p f pc) (fun w => p.funcs.length - (ones w.done p.funcs.length).length) ⟨[], reps p.funcs.length false, reps p.funcs.length false, none⟩ rfl rfl rfl (by simp) (by simp) (by simp) WInv.start ?_
  intro w hI
  have hcl := hI.all.lt hI
  have hlt : w.todo.length = p.funcs.length := hI.lt
  have hld : w.done.length = p.funcs.length := hI.ld
  have hgl : w.c.getD f < p.funcs.length := by
    cases hc : w.c with
    | none => exact hf
    | some g => exact hcl g hc
  have hqF : p.funcs[w.c.getD f]? = some (fnC p f w.c) := by rw [fnC, List.getD_eq_getElem?_getD, List.getElem?_eq_getElem hgl]; rfl
  have hgF : p.funcs[w.c.getD f] = fnC p f w.c := (List.getElem?_eq_some_iff.1 hqF).2
  have hGm := fnC_mem hf hcl
  have hGf := hFs _ hGm
  have h4G := h4s _ hGm
  have hnG := hne _ hGm
  have hln := hGf.len
  have hspw := hw.spawn _ hGm
  have hsi := hI.inb hne hf
  have hon : ∀ x ∈ onC p f pc w.c, x < (fnC p f w.c).code.length := ones_in
  have honl : (onC p f pc w.c).length ≤ (fnC p f w.c).code.length := ones_len _ _
  have htc : tcC p f pc w.c = tcL (fnC p f w.c) (onC p f pc w.c) := rfl
  have hsp : spC p f pc w.c = spL (fnC p f w.c) (onC p f pc w.c) := rfl
  generalize onC p f pc w.c = N at *
  generalize fnC p f w.c = G at *
  generalize w.c.getD f = g at *
  have hil2 : (ints N).length = N.length := by simp [ints]
  simp
  refine go_while hmx 3 (fun (k : Nat) => [(7, .v (.sl 3 (accRows (putsB bag0 (w.S ++ tcL G (N.take k)))))), (12, .v (.i .i64 (k : Int)))]) (fun k => [.none, .arr 0 1 (vrows ((mark w.todo (spL G (N.take k))).map brw)), .arr 0 1 (vrows (w.done.map brw))]) (fun k => k ≤ N.length) (fun k => N.length - k) 0 rfl (by simp [tcL]) rfl (by simp) (by simp) (by simp) (Nat.zero_le _) ?_
  intro k hk
  by_cases hkl : k < N.length
  · have hkI : (k : Int) < (N.length : Int) := by omega
    have hw2 : IntKind.i64.wrap ((k : Int) + 1) = ((k : Int) + 1) := wrap_in (by omega) (by omega)
    have hx := hon _ (List.getElem_mem hkl)
    have hst := spL_take G (List.getElem?_eq_getElem hkl)
    have htt := tcL_take G (List.getElem?_eq_getElem hkl)
    obtain ⟨x, hxe⟩ : ∃ x, N[k] = x := ⟨_, rfl⟩
    rw [hxe] at hx hst htt
    have hints : (ints N)[k]'(by rw [hil2]; exact hkl) = (x : Int) := by simp [ints, hxe]
    have hnx := hnG x hx
    have hbS : Bag (putsB bag0 (w.S ++ tcL G (N.take k))) := putsB_ok bag0_ok fun t ht => by
      rcases List.mem_append.1 ht with h | h
      · exact hsi t h
      · exact tcL_in hne hGm (fun pc h => hon pc (List.mem_of_mem_take h)) t h
    simp [hkI, hkl, hints, hil2, irow]
    first
      | refine callk rfl Try.call30 (touchesR_p p hp g x G hqF hx h4G (hGf.sel x hx) hnx) rfl ?_
      | refine callks rfl Try.call30 (touchesR_p p hp g x G hqF hx h4G (hGf.sel x hx) hnx) rfl ?_
      | refine callq rfl Try.call30 (touchesR_p p hp g x G hqF hx h4G (hGf.sel x hx) hnx) rfl ?_
      | refine callqe rfl Try.call30 (touchesR_p p hp g x G hqF hx h4G (hGf.sel x hx) hnx) rfl ?_
    simp
    have hb2 : Bag (putsB bag0 (tcAt G x)) := putsB_ok bag0_ok hnx
    have hpb := puts_bagT hbS hnx
    have hBl := accs_len (putsB bag0 (tcAt G x))
    have hBi := bagT_in hb2
    have hBn := bagT_len (putsB bag0 (tcAt G x))
    have hBa := fun i h => bagT_accs (putsB bag0 (tcAt G x)) (i := i) h
    have happ : putsB (putsB bag0 (w.S ++ tcL G (N.take k))) (tcAt G x) = putsB bag0 (w.S ++ tcL G (N.take (k + 1))) := by rw [htt, ← List.append_assoc, putsB_app bag0 (w.S ++ tcL G (N.take k))]
    rw [happ] at hpb
    generalize putsB bag0 (w.S ++ tcL G (N.take k)) = B at *
    generalize putsB bag0 (tcAt G x) = B2 at *
    generalize hQ : bagT B2 = Q at *
    refine go_while hmx 3 (fun (j : Nat) => [(7, .v (.sl 3 (accRows (putsB B (Q.take j))))), (14, .v (.i .i64 (j : Int)))]) (fun _ => [.none, .arr 0 1 (vrows ((mark w.todo (spL G (N.take k))).map brw)), .arr 0 1 (vrows (w.done.map brw))]) (fun j => j ≤ (accs B2).length) (fun j => (accs B2).length - j) 0 rfl rfl rfl (by simp) (by simp) (by simp) (Nat.zero_le _) ?_
    intro j hj
    by_cases hjl : j < (accs B2).length
    · have hJ : (j : Int) < ((accs B2).length : Int) := by omega
      have hw3 : IntKind.i64.wrap ((j : Int) + 1) = ((j : Int) + 1) := wrap_in (by omega) (by omega)
      obtain ⟨t, ht1, ht2⟩ := hBa j hjl
      have hti := hBi t (List.mem_of_getElem? ht1)
      have hbj : Bag (putsB B (Q.take j)) := putsB_ok hbS fun t h => hBi t (List.mem_of_mem_take h)
      have hadd := addA_accs hbj hti
      have hpt := putsB_take B ht1
      have hlen := accs_len (putsB B (Q.take j))
      simp [hJ, hjl, ht2]
      first
        | refine callk rfl Try.call56 (add_p (accs (putsB B (Q.take j))) ⟨t.1, t.2.1, decide (t.2.2 = 2)⟩ (by omega)) rfl ?_
        | refine callks rfl Try.call56 (add_p (accs (putsB B (Q.take j))) ⟨t.1, t.2.1, decide (t.2.2 = 2)⟩ (by omega)) rfl ?_
        | refine callq rfl Try.call56 (add_p (accs (putsB B (Q.take j))) ⟨t.1, t.2.1, decide (t.2.2 = 2)⟩ (by omega)) rfl ?_
        | refine callqe rfl Try.call56 (add_p (accs (putsB B (Q.take j))) ⟨t.1, t.2.1, decide (t.2.2 = 2)⟩ (by omega)) rfl ?_
      rw [hadd, ← hpt]
      simp [hw3]
      exact ⟨j + 1, ⟨rfl, by omega⟩, by omega, by omega⟩
    · have hJ : ¬ (j : Int) < ((accs B2).length : Int) := by omega
      obtain rfl : j = (accs B2).length := by omega
      have htk : Q.take (accs B2).length = Q := by rw [← hBn]; exact List.take_length
      rw [htk, hpb]
      have hib : G.code.getD x default = G.code[x] := by rw [List.getD_eq_getElem?_getD, List.getElem?_eq_getElem hx]; rfl
      have hsx := hspw x hx
      rw [hib] at hsx
      rw [spB, hib] at hst
      by_cases hop : G.code[x].op = 62
      · obtain ⟨hb0, hb1⟩ := hsx hop
        rw [if_pos hop] at hst
        have hbn : G.code[x].b.toNat < p.funcs.length := by omega
        simp [hJ, hgl, hgF, Func.row, hints, hil2, hkI, hkl, irow, hx, Instr.row, hop, hb0, hb1, hbn, hlt, vrows_at, brw, hw2]
        exact ⟨k + 1, ⟨rfl, by omega⟩, by rw [hst, mark_snoc]; simp [vrows, brw, List.map_set], by omega, by omega⟩
      · rw [if_neg hop, List.append_nil] at hst
        have hopb : (G.code[x].op == 62) = false := by simp [hop]
        simp [hJ, hgl, hgF, Func.row, hints, hil2, hkI, hkl, irow, hx, Instr.row, hop, hopb, hw2]
        exact ⟨k + 1, ⟨rfl, by omega⟩, by rw [hst], by omega, by omega⟩
  · have hkI : ¬ (k : Int) < (N.length : Int) := by omega
    obtain rfl : k = N.length := by omega
    simp [hkI, hil2]
    rw [← htc, ← hsp]
    generalize hTd : mark w.todo (spC p f pc w.c) = Td
    have hTl : Td.length = p.funcs.length := by rw [← hTd]; simp [hlt]
    refine go_while hmx 3 (fun (j : Nat) => [(11, .v (.i .i64 (j : Int)))]) (fun _ => [.none, .arr 0 1 (vrows (Td.map brw)), .arr 0 1 (vrows (w.done.map brw))]) (fun j => j ≤ p.funcs.length ∧ ∀ i, i < j → Td.getD i false = true → w.done.getD i false = true) (fun j => p.funcs.length - j) 0 rfl rfl rfl (by simp) (by simp) (by simp) ⟨Nat.zero_le _, fun i h => absurd h (by omega)⟩ ?_
    rintro j ⟨hj, hd⟩
    by_cases hjl : j < p.funcs.length
    · have hJ : (j : Int) < (p.funcs.length : Int) := by omega
      have hJ2 : ¬ (j : Int) = (p.funcs.length : Int) := by omega
      have hw3 : IntKind.i64.wrap ((j : Int) + 1) = ((j : Int) + 1) := wrap_in (by omega) (by omega)
      have g1 : Td.getD j false = Td[j]'(by omega) := by rw [List.getD_eq_getElem?_getD, List.getElem?_eq_getElem (by omega)]; rfl
      have g2 : w.done.getD j false = w.done[j]'(by omega) := by rw [List.getD_eq_getElem?_getD, List.getElem?_eq_getElem (by omega)]; rfl
      cases hT : Td[j]'(by omega) with
      | false =>
        simp [hJ, hjl, hTl, hld, vrows_at, brw, hT, hw3]
        exact ⟨j + 1, by omega, ⟨by omega, fun i hi h => by
          by_cases e : i = j
          · subst e; rw [hT] at g1; rw [List.getD_eq_getElem?_getD, h] at g1; cases g1
          · have := hd i (by omega) (by rw [List.getD_eq_getElem?_getD]; exact h)
            rwa [List.getD_eq_getElem?_getD] at this⟩, by omega⟩
      | true =>
        cases hD : w.done[j]'(by omega) with
        | true =>
          simp [hJ, hjl, hTl, hld, vrows_at, brw, hT, hD, hw3]
          exact ⟨j + 1, by omega, ⟨by omega, fun i hi h => by
            by_cases e : i = j
            · subst e; rw [hD] at g2; rw [List.getD_eq_getElem?_getD] at g2; exact g2
            · have := hd i (by omega) (by rw [List.getD_eq_getElem?_getD]; exact h)
              rwa [List.getD_eq_getElem?_getD] at this⟩, by omega⟩
        | false =>
          have hqj : p.funcs[j]? = some p.funcs[j] := List.getElem?_eq_getElem hjl
          have hJm := List.getElem_mem hjl
          rw [hT] at g1
          rw [hD] at g2
          have hnx := hI.next hw hf (by rw [hTd]; exact g1) g2 hjl
          simp [hJ, hJ2, hjl, hTl, hld, vrows_at, brw, hT, hD]
          first
            | refine callk rfl Try.call15 (reachR_p p hp j 0 _ hqj (hFs _ hJm) (h1s _ hJm) (h4s _ hJm)) rfl ?_
            | refine callks rfl Try.call15 (reachR_p p hp j 0 _ hqj (hFs _ hJm) (h1s _ hJm) (h4s _ hJm)) rfl ?_
            | refine callq rfl Try.call15 (reachR_p p hp j 0 _ hqj (hFs _ hJm) (h1s _ hJm) (h4s _ hJm)) rfl ?_
            | refine callqe rfl Try.call15 (reachR_p p hp j 0 _ hqj (hFs _ hJm) (h1s _ hJm) (h4s _ hJm)) rfl ?_
          simp
          have hlt1 := ones_ltG (m := w.done) (m' := w.done.set j true) (by simp) hld (fun i hi => by
            simp only [List.getD_eq_getElem?_getD, List.getElem?_set]
            by_cases e : j = i
            · subst e; simp [hld, hjl]
            · rw [if_neg e]; rw [List.getD_eq_getElem?_getD] at hi; exact hi) (fun e => by
            have h1 : (w.done.set j true).getD j false = true := by rw [List.getD_eq_getElem?_getD, List.getElem?_set_self (by omega)]; rfl
            rw [e, g2] at h1; cases h1)
          have hle1 := ones_len (w.done.set j true) p.funcs.length
          have hrl : reachL p.funcs[j] 0 = ints (onC p f pc (some j)) := by
            have : p.funcs.getD j default = p.funcs[j] := by rw [List.getD_eq_getElem?_getD, hqj]; rfl
            simp only [onC, mkC, fnC, Option.getD_some, this]
            rfl
          exact ⟨_, ⟨rfl, by rw [hrl], rfl⟩, ⟨by rw [hTd], by simp [vrows, brw, List.map_set]⟩, hnx, by show p.funcs.length - (ones (w.done.set j true) p.funcs.length).length < _; omega⟩
    · have hJ : ¬ (j : Int) < (p.funcs.length : Int) := by omega
      obtain rfl : j = p.funcs.length := by omega
      have hfin := hI.finish hw hne hf fun i hi h => hd i hi (by rw [← hTd]; exact h)
      simp [hJ, hTl, hld]
      rw [hfin]
end Go.Sc.Fl
