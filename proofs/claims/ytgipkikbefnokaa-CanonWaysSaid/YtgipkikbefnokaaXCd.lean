/- Chapter 13: how many ways there are. No condition. -/
import Derived.Test.YtgipkikbefnokaaXCc
import Derived.Test.YtgipkikbefnokaaXCb
import Derived.Test.YtgipkikbefnokaaXEv6
set_option linter.constructorNameAsVariable false
namespace Go.Sc.Or
open Go Go.RowKit Go.Av Go.Proofs Go.Sc
set_option linter.unusedSimpArgs false
set_option linter.unusedVariables false
/-- scarab/scarablaw13.CanonWays -/
def c12 : ACode :=
  (.seq (.reg none [⟨some 2, none, .q (.mv (.c (.b false)))⟩])
  (.keep [0]
  (.seq (.reg none [⟨some 11, none, .q (.mv (.t 0))⟩, ⟨some 12, none, .call (.f 17) [(.t 11), (.c (.i .i64 2))]⟩, ⟨some 10, none, .q (.mv (.t 12))⟩, ⟨some 13, none, .q (.ext 0 (.t 10))⟩, ⟨some 14, none, .q (.ext 1 (.t 10))⟩, ⟨some 3, none, .q (.mv (.t 13))⟩, ⟨some 4, none, .q (.mv (.t 14))⟩])
  (.keep [0, 3, 4]
  (.seq (.reg none [⟨some 16, none, .q (.mv (.t 0))⟩, ⟨some 17, none, .call (.f 41) [(.t 16)]⟩, ⟨some 15, none, .q (.mv (.t 17))⟩, ⟨some 18, none, .q (.ext 0 (.t 15))⟩, ⟨some 19, none, .q (.ext 1 (.t 15))⟩, ⟨some 5, none, .q (.mv (.t 18))⟩, ⟨some 6, none, .q (.mv (.t 19))⟩])
  (.keep [0, 3, 4, 5, 6]
  (.seq (.seq (.reg none [⟨some 20, none, .q (.mv (.t 4))⟩, ⟨some 21, none, .q (.bin .neq (.t 20) (.c (.i .i64 0)))⟩, ⟨some 22, none, .q (.mv (.t 21))⟩, ⟨some 23, some (22, false), .q (.mv (.t 6))⟩, ⟨some 24, some (22, false), .q (.bin .neq (.t 23) (.c (.i .i64 0)))⟩, ⟨some 25, none, .pk (.t 22) (.c (.b true)) (.t 24)⟩])
    (.keep [0, 3, 5, 25]
    (.cond (.t 25) (.seq (.reg none [⟨some 26, none, .q (.mv (.t 0))⟩, ⟨some 27, none, .call (.f 22) [(.t 26)]⟩, ⟨some 28, none, .q (.bin .neq (.t 27) (.c (.i .i64 0)))⟩, ⟨some 29, none, .q (.mv (.t 28))⟩, ⟨some 30, some (29, true), .call (.f 19) []⟩, ⟨some 31, none, .pk (.t 29) (.t 30) (.c (.b false))⟩, ⟨some 2, none, .q (.mv (.t 31))⟩])
      .ret)
    .skip)))
  (.seq (.reg none [⟨some 32, none, .q (.mv (.t 5))⟩, ⟨some 33, none, .q (.len false (.t 32))⟩, ⟨some 34, none, .q (.mv (.t 0))⟩, ⟨some 35, none, .q (.len false (.t 34))⟩, ⟨some 36, none, .q (.bin .eql (.t 33) (.t 35))⟩, ⟨some 7, none, .q (.mv (.t 36))⟩])
  (.keep [0, 3, 7]
  (.seq (.reg none [⟨some 38, none, .q (.mv (.t 0))⟩, ⟨some 39, none, .call (.f 17) [(.t 38), (.c (.i .i64 1))]⟩, ⟨some 37, none, .q (.mv (.t 39))⟩, ⟨some 40, none, .q (.ext 0 (.t 37))⟩, ⟨some 41, none, .q (.ext 1 (.t 37))⟩, ⟨some 8, none, .q (.mv (.t 40))⟩, ⟨some 9, none, .q (.mv (.t 41))⟩])
  (.keep [3, 7, 8, 9]
  (.seq (.reg none [⟨some 42, none, .q (.mv (.t 9))⟩, ⟨some 43, none, .q (.bin .eql (.t 42) (.c (.i .i64 0)))⟩, ⟨some 44, none, .q (.mv (.t 43))⟩, ⟨some 45, some (44, true), .q (.mv (.t 8))⟩, ⟨some 46, some (44, true), .q (.bin .eql (.t 45) (.c (.i .i64 1)))⟩, ⟨some 47, none, .pk (.t 44) (.t 46) (.c (.b false))⟩, ⟨some 48, none, .q (.mv (.t 47))⟩, ⟨some 49, some (48, true), .q (.mv (.t 3))⟩, ⟨some 50, some (48, true), .q (.bin .eql (.t 49) (.c (.i .i64 1)))⟩, ⟨some 51, some (48, true), .q (.mv (.t 7))⟩, ⟨some 52, some (48, true), .q (.eqb false (.t 50) (.t 51))⟩, ⟨some 53, none, .pk (.t 48) (.t 52) (.c (.b false))⟩, ⟨some 54, none, .q (.mv (.t 53))⟩, ⟨some 55, some (54, true), .q (.mv (.t 3))⟩, ⟨some 56, some (54, true), .q (.bin .leq (.t 55) (.c (.i .i64 2)))⟩, ⟨some 57, none, .pk (.t 54) (.t 56) (.c (.b false))⟩, ⟨some 2, none, .q (.mv (.t 57))⟩])
  .ret))))))))))))
theorem r12 : (Try.f12.body.bind (resC Try.prog Try.f12.ntmps)) = some (strip c12) := by kernel_rfl
theorem s12 : Try.f12.results.toList.mapM (resRes Try.prog) = some [.t 2] := by kernel_rfl
theorem canonWays (t : List Ev) (ht : t.length < 1000000000000) : PureS Try.prog 12 [.sl 26 (t.map Ev.row)] (.b true) := by
  refine fun_go hmx Try.func12 r12 s12 (by rw [Try.ntmps12]; simp) ?_
  unfold c12
  simp
  first
    | refine callk rfl Try.call17 (count_p t 2 ht) rfl ?_
    | refine callks rfl Try.call17 (count_p t 2 ht) rfl ?_
    | refine callq rfl Try.call17 (count_p t 2 ht) rfl ?_
    | refine callqe rfl Try.call17 (count_p t 2 ht) rfl ?_
  by_cases h0 : checkT t = 0
  · have h := good_of h0
    obtain ⟨w1, w2⟩ := ways_one h
    have hmin1 : min (allW t : Int) 1 = 1 := by omega
    have e2 : cntR t 2 = .tup [.i .i64 (min (allW t : Int) 2), .i .i64 0] := by rw [cntR, if_pos h0, if_pos (by omega)]
    have e1 : cntR t 1 = .tup [.i .i64 1, .i .i64 0] := by rw [cntR, if_pos h0, if_pos (by omega), hmin1]
    have hm := topN_le t t.length
    rw [e2]
    simp
    first
      | refine callk rfl Try.call41 (levels_p t ht) rfl ?_
      | refine callks rfl Try.call41 (levels_p t ht) rfl ?_
      | refine callq rfl Try.call41 (levels_p t ht) rfl ?_
      | refine callqe rfl Try.call41 (levels_p t ht) rfl ?_
    simp [levR, h0]
    first
      | refine callk rfl Try.call17 (count_p t 1 ht) rfl ?_
      | refine callks rfl Try.call17 (count_p t 1 ht) rfl ?_
      | refine callq rfl Try.call17 (count_p t 1 ht) rfl ?_
      | refine callqe rfl Try.call17 (count_p t 1 ht) rfl ?_
    rw [e1]
    simp
    by_cases htop : topN t t.length = t.length
    · have := w2.2 htop
      simp [htop, this]
      decide
    · have h2 : min (allW t : Int) 2 = 2 := by
        have : allW t ≠ 1 := fun hc => htop (w2.1 hc)
        omega
      rw [h2]
      simp
      omega
  · have e2 : cntR t 2 = .tup [.i .i64 0, .i .i64 (checkT t)] := by rw [cntR, if_neg h0]
    rw [e2]
    simp
    first
      | refine callk rfl Try.call41 (levels_p t ht) rfl ?_
      | refine callks rfl Try.call41 (levels_p t ht) rfl ?_
      | refine callq rfl Try.call41 (levels_p t ht) rfl ?_
      | refine callqe rfl Try.call41 (levels_p t ht) rfl ?_
    simp [levR, h0]
    first
      | refine callk rfl Try.call22 (checkR_p t (by omega)) rfl ?_
      | refine callks rfl Try.call22 (checkR_p t (by omega)) rfl ?_
      | refine callq rfl Try.call22 (checkR_p t (by omega)) rfl ?_
      | refine callqe rfl Try.call22 (checkR_p t (by omega)) rfl ?_
    simp [h0]
    first
      | refine callkg rfl Try.call19 rfl (fun _ => small_p) (fun hG => by first | (simp; done) | (simp at hG; done) | simpa using hG) rfl ?_
      | refine callksg rfl Try.call19 rfl (fun _ => small_p) (fun hG => by first | (simp; done) | (simp at hG; done) | simpa using hG) rfl ?_
      | refine callqg rfl Try.call19 rfl (fun _ => small_p) (fun hG => by first | (simp; done) | (simp at hG; done) | simpa using hG) rfl ?_
    simp [h0]
end Go.Sc.Or
