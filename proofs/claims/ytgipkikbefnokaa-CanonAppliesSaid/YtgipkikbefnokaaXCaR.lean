/- Events that are the same. No condition. -/
import Derived.Test.YtgipkikbefnokaaXCa
import Derived.Test.YtgipkikbefnokaaXEv6
set_option linter.constructorNameAsVariable false
namespace Go.Sc.Or
open Go Go.RowKit Go.Av Go.Proofs Go.Sc
set_option linter.unusedSimpArgs false
set_option linter.unusedVariables false
def c44 : ACode :=
  (.seq (.reg none [⟨some 4, none, .q (.mv (.c (.b false)))⟩])
  (.keep [0, 1]
  (.seq (.seq (.reg none [⟨some 6, none, .q (.mv (.t 0))⟩, ⟨some 7, none, .q (.len false (.t 6))⟩, ⟨some 8, none, .q (.mv (.t 1))⟩, ⟨some 9, none, .q (.len false (.t 8))⟩, ⟨some 10, none, .q (.bin .neq (.t 7) (.t 9))⟩])
    (.keep [0, 1, 10]
    (.cond (.t 10) (.seq (.reg none [⟨some 4, none, .q (.mv (.c (.b false)))⟩])
      .ret)
    .skip)))
  (.seq (.seq (.reg none [⟨some 11, none, .q (.mv (.t 0))⟩, ⟨some 12, none, .q (.len false (.t 11))⟩, ⟨some 13, none, .q (.mv (.c (.i .i64 0)))⟩])
    (.keep [0, 1, 12, 13]
    (.blk 0 (.keep [0, 1, 12, 13]
    (.loop (.fin [0, 1, 12, 13]
      (.seq (.reg none [⟨some 14, none, .q (.bin .lss (.t 13) (.t 12))⟩])
      (.keep [0, 1, 12, 13, 14]
      (.seq (.cond (.t 14) .skip
        (.exit 0))
      (.seq (.blk 1 (.seq (.reg none [⟨some 15, none, .q (.mv (.t 13))⟩, ⟨some 5, none, .q (.mv (.t 15))⟩])
        (.keep [0, 1, 5, 12, 13]
        (.seq (.reg (some (9, [])) [⟨some 16, none, .q (.mv (.t 0))⟩, ⟨some 17, none, .q (.mv (.t 5))⟩, ⟨some 18, none, .q (.ias 26 (.t 16) (.t 17))⟩, ⟨some 19, none, .q (.ld (some 26) (.t 18))⟩, ⟨some 20, none, .q (.mv (.t 1))⟩, ⟨some 21, none, .q (.mv (.t 5))⟩, ⟨some 22, none, .q (.ias 26 (.t 20) (.t 21))⟩, ⟨some 23, none, .q (.ld (some 26) (.t 22))⟩, ⟨some 24, none, .q (.eqg true [.i, .i, .i, .i, .i, .i, .i, .i, .i, .b, .i, .i, .b, .i, .i, .b, .i, .i, .b, .i, .i, .b, .i, .i, .b, .i] (.t 19) (.t 23))⟩])
        (.keep [0, 1, 12, 13, 24]
        (.cond (.t 24) (.seq (.reg none [⟨some 4, none, .q (.mv (.c (.b false)))⟩])
          .ret)
        .skip))))))
      (.keep [0, 1, 12, 13]
      (.reg none [⟨some 25, none, .q (.bin .add (.t 13) (.c (.i .i64 1)))⟩, ⟨some 13, none, .q (.mv (.t 25))⟩]))))))))))))
  (.seq (.reg none [⟨some 4, none, .q (.mv (.c (.b true)))⟩])
  .ret)))))
theorem r44 : (Try.f44.body.bind (resC Try.prog Try.f44.ntmps)) = some (strip c44) := by kernel_rfl
theorem s44 : Try.f44.results.toList.mapM (resRes Try.prog) = some [.t 4] := by kernel_rfl
theorem same_events (t : List Ev) (ht : t.length < 1000000000000) : PureS Try.prog 44 [.sl 26 (t.map Ev.row), .sl 26 (t.map Ev.row)] (.b true) := by
  refine fun_go hmx Try.func44 r44 s44 (by rw [Try.ntmps44]; simp) ?_
  unfold c44
  simp
  refine go_while hmx 0 (fun (k : Nat) => [(13, .v (.i .i64 (k : Int)))]) (fun _ => []) (fun k => k ≤ t.length) (fun k => t.length - k) 0 rfl (by simp) rfl (by simp) (by simp) (by simp) (Nat.zero_le _) ?_
  rintro k hk
  by_cases hkl : k < t.length
  · have hI : (k : Int) < (t.length : Int) := by omega
    have hw : IntKind.i64.wrap ((k : Int) + 1) = (k : Int) + 1 := wrap_in (by omega) (by omega)
    simp [hI, hkl, ev_fit, ev_eqA]
    exact ⟨k + 1, hw, by omega, by omega⟩
  · obtain rfl : k = t.length := by omega
    simp
end Go.Sc.Or
