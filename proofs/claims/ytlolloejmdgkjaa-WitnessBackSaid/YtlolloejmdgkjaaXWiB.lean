/- Chapter 27: witnesses written, by both texts. No condition. -/
import Derived.Test.YtlolloejmdgkjaaXWiA
set_option linter.constructorNameAsVariable false
namespace Go.Sc.Wi
open Go Go.RowKit Go.Av Go.Proofs Go.Sc.Oct Go.Sc Go.Sc.Cw
set_option linter.unusedSimpArgs false
set_option linter.unusedVariables false
/-- scarab/witness.Write -/
def c9 : ACode :=
  (.seq (.reg none [⟨some 1, none, .m (.box (.t 0))⟩, ⟨some 2, none, .q (.mv (.c .nil))⟩, ⟨some 3, none, .q (.mv (.c (.i .i64 0)))⟩])
  (.keep [1]
  (.seq (.seq (.reg none [⟨some 14, none, .q (.ld (some 12) (.t 1))⟩, ⟨some 15, none, .call (.f 19) [(.t 14)]⟩, ⟨some 16, none, .q (.un .not (.t 15))⟩])
    (.keep [1, 16]
    (.cond (.t 16) (.seq (.reg none [⟨some 2, none, .q (.mv (.c .nil))⟩, ⟨some 3, none, .q (.mv (.c (.i .i64 1)))⟩])
      .ret)
    .skip)))
  (.seq (.reg none [⟨some 17, none, .q (.fa 0 (.t 1))⟩, ⟨some 18, none, .q (.ld none (.t 17))⟩, ⟨some 19, none, .call (.f 20) [(.t 18)]⟩, ⟨some 4, none, .m (.alloc (.g [(.i .u8 0), (.i .u8 0), (.i .u8 0), (.i .u8 0)]))⟩, ⟨none, none, .m (.st 4 (.t 4) (.t 19))⟩])
  (.keep [1, 4]
  (.seq (.reg none [⟨some 20, none, .m (.bsl 4 1 [(.i .u8 0)] [(0, 1, .c (.i .u8 115)), (1, 1, .c (.i .u8 99)), (2, 1, .c (.i .u8 97)), (3, 1, .c (.i .u8 119))])⟩, ⟨some 21, none, .m (.cvb (.t 20))⟩, ⟨some 22, none, .m (.sla 4 (.t 4))⟩, ⟨some 23, none, .m (.app 1 1 (.t 21) (.t 22))⟩, ⟨some 5, none, .q (.mv (.t 23))⟩])
  (.keep [1, 5]
  (.seq (.reg (some (4, [0, 1, 2, 3])) [⟨some 24, none, .q (.fa 1 (.t 1))⟩, ⟨some 25, none, .q (.ld (some 7) (.t 24))⟩, ⟨some 26, none, .q (.fa 9 (.t 1))⟩, ⟨some 27, none, .q (.ld (some 3) (.t 26))⟩, ⟨some 6, none, .m (.alloc (.g [(.i .i64 0), (.i .i64 0), (.i .i64 0), (.i .i64 0), (.i .i64 0), (.i .i64 0), (.i .i64 0)]))⟩, ⟨some 7, none, .m (.alloc (.g [(.i .i64 0), (.i .i64 0), (.i .i64 0)]))⟩, ⟨none, none, .m (.st 7 (.t 6) (.t 25))⟩, ⟨none, none, .m (.st 3 (.t 7) (.t 27))⟩])
  (.keep [1, 5, 6, 7]
  (.seq (.reg none [⟨some 28, none, .q (.fa 0 (.t 6))⟩, ⟨some 29, none, .q (.ld none (.t 28))⟩, ⟨some 30, none, .q (.fa 1 (.t 6))⟩, ⟨some 31, none, .q (.fa 0 (.t 30))⟩, ⟨some 32, none, .q (.ld none (.t 31))⟩, ⟨some 33, none, .q (.fa 1 (.t 6))⟩, ⟨some 34, none, .q (.fa 1 (.t 33))⟩, ⟨some 35, none, .q (.ld none (.t 34))⟩, ⟨some 36, none, .q (.fa 3 (.t 6))⟩, ⟨some 37, none, .q (.fa 0 (.t 36))⟩, ⟨some 38, none, .q (.ld none (.t 37))⟩, ⟨some 39, none, .q (.fa 3 (.t 6))⟩, ⟨some 40, none, .q (.fa 1 (.t 39))⟩, ⟨some 41, none, .q (.ld none (.t 40))⟩, ⟨some 42, none, .q (.fa 5 (.t 6))⟩, ⟨some 43, none, .q (.ld none (.t 42))⟩, ⟨some 44, none, .q (.fa 6 (.t 6))⟩, ⟨some 45, none, .q (.ld none (.t 44))⟩, ⟨some 46, none, .q (.fa 0 (.t 7))⟩, ⟨some 47, none, .q (.ld none (.t 46))⟩, ⟨some 48, none, .q (.fa 1 (.t 7))⟩, ⟨some 49, none, .q (.ld none (.t 48))⟩, ⟨some 50, none, .q (.fa 2 (.t 7))⟩, ⟨some 51, none, .q (.ld none (.t 50))⟩, ⟨some 52, none, .q (.fa 8 (.t 1))⟩, ⟨some 53, none, .q (.ld none (.t 52))⟩, ⟨some 54, none, .q (.len false (.t 53))⟩, ⟨some 55, none, .m (.bsl 11 1 [(.i .i64 0)] [(0, 1, .t 29), (1, 1, .t 32), (2, 1, .t 35), (3, 1, .t 38), (4, 1, .t 41), (5, 1, .t 43), (6, 1, .t 45), (7, 1, .t 47), (8, 1, .t 49), (9, 1, .t 51), (10, 1, .t 54)])⟩, ⟨some 8, none, .q (.mv (.t 55))⟩])
  (.keep [1, 5, 8]
  (.seq (.seq (.reg none [⟨some 56, none, .q (.fa 8 (.t 1))⟩, ⟨some 57, none, .q (.ld none (.t 56))⟩, ⟨some 58, none, .q (.len false (.t 57))⟩, ⟨some 59, none, .q (.mv (.c (.i .i64 0)))⟩])
    (.keep [5, 8, 57, 58, 59]
    (.blk 0 (.keep [5, 8, 57, 58, 59]
    (.loop (.fin [5, 8, 57, 58, 59]
      (.seq (.reg none [⟨some 60, none, .q (.bin .lss (.t 59) (.t 58))⟩])
      (.keep [5, 8, 57, 58, 59, 60]
      (.seq (.cond (.t 60) .skip
        (.exit 0))
      (.seq (.blk 1 (.seq (.reg none [⟨some 61, none, .q (.ias 2 (.t 57) (.t 59))⟩, ⟨some 62, none, .q (.ld (some 2) (.t 61))⟩, ⟨some 10, none, .m (.alloc (.g [(.i .i64 0), (.i .i64 0)]))⟩, ⟨none, none, .m (.st 2 (.t 10) (.t 62))⟩])
        (.keep [5, 8, 10, 57, 58, 59]
        (.reg none [⟨some 63, none, .q (.mv (.t 8))⟩, ⟨some 64, none, .q (.fa 0 (.t 10))⟩, ⟨some 65, none, .q (.ld none (.t 64))⟩, ⟨some 66, none, .q (.fa 1 (.t 10))⟩, ⟨some 67, none, .q (.ld none (.t 66))⟩, ⟨some 68, none, .m (.bsl 2 1 [(.i .i64 0)] [(0, 1, .t 65), (1, 1, .t 67)])⟩, ⟨some 69, none, .m (.app 1 8 (.t 63) (.t 68))⟩, ⟨some 8, none, .q (.mv (.t 69))⟩]))))
      (.keep [5, 8, 57, 58, 59]
      (.reg none [⟨some 70, none, .q (.bin .add (.t 59) (.c (.i .i64 1)))⟩, ⟨some 59, none, .q (.mv (.t 70))⟩]))))))))))))
  (.seq (.seq (.reg none [⟨some 71, none, .q (.mv (.t 8))⟩, ⟨some 72, none, .q (.len false (.t 71))⟩, ⟨some 73, none, .q (.mv (.c (.i .i64 0)))⟩])
    (.keep [5, 71, 72, 73]
    (.blk 2 (.keep [5, 71, 72, 73]
    (.loop (.fin [5, 71, 72, 73]
      (.seq (.reg none [⟨some 74, none, .q (.bin .lss (.t 73) (.t 72))⟩])
      (.keep [5, 71, 72, 73, 74]
      (.seq (.cond (.t 74) .skip
        (.exit 2))
      (.seq (.blk 3 (.seq (.reg none [⟨some 75, none, .q (.ias 1 (.t 71) (.t 73))⟩, ⟨some 76, none, .q (.ld none (.t 75))⟩, ⟨some 12, none, .q (.mv (.t 76))⟩])
        (.keep [5, 12, 71, 72, 73]
        (.reg none [⟨some 77, none, .q (.mv (.t 5))⟩, ⟨some 78, none, .q (.mv (.t 12))⟩, ⟨some 79, none, .q (.cvi .u64 (.t 78))⟩, ⟨some 80, none, .call (.f 21) [(.t 77), (.t 79)]⟩, ⟨some 5, none, .q (.mv (.t 80))⟩]))))
      (.keep [5, 71, 72, 73]
      (.reg none [⟨some 81, none, .q (.bin .add (.t 73) (.c (.i .i64 1)))⟩, ⟨some 73, none, .q (.mv (.t 81))⟩]))))))))))))
  (.seq (.reg none [⟨some 82, none, .q (.mv (.t 5))⟩, ⟨some 83, none, .call (.f 22) [(.t 82)]⟩, ⟨some 84, none, .call (.f 20) [(.t 83)]⟩, ⟨some 13, none, .m (.alloc (.g [(.i .u8 0), (.i .u8 0), (.i .u8 0), (.i .u8 0)]))⟩, ⟨none, none, .m (.st 4 (.t 13) (.t 84))⟩])
  (.keep [5, 13]
  (.seq (.reg none [⟨some 85, none, .q (.mv (.t 5))⟩, ⟨some 86, none, .m (.sla 4 (.t 13))⟩, ⟨some 87, none, .m (.app 1 1 (.t 85) (.t 86))⟩, ⟨some 2, none, .q (.mv (.t 87))⟩, ⟨some 3, none, .q (.mv (.c (.i .i64 0)))⟩])
  .ret))))))))))))))))
theorem r9 : (Try.f9.body.bind (resC Try.prog Try.f9.ntmps)) = some (strip c9) := by kernel_rfl
theorem s9 : Try.f9.results.toList.mapM (resRes Try.prog) = some [.t 2, .t 3] := by kernel_rfl
/-- scarab/scarabref27.Write -/
def c10 : ACode :=
  (.seq (.reg none [⟨some 1, none, .m (.box (.t 0))⟩, ⟨some 2, none, .q (.mv (.c .nil))⟩, ⟨some 3, none, .q (.mv (.c (.i .i64 0)))⟩])
  (.keep [1]
  (.seq (.seq (.reg none [⟨some 11, none, .q (.ld (some 12) (.t 1))⟩, ⟨some 12, none, .call (.f 16) [(.t 11)]⟩, ⟨some 13, none, .q (.un .not (.t 12))⟩])
    (.keep [1, 13]
    (.cond (.t 13) (.seq (.reg none [⟨some 2, none, .q (.mv (.c .nil))⟩, ⟨some 3, none, .q (.mv (.c (.i .i64 1)))⟩])
      .ret)
    .skip)))
  (.seq (.reg none [⟨some 14, none, .m (.bsl 4 1 [(.i .u8 0)] [(0, 1, .c (.i .u8 115)), (1, 1, .c (.i .u8 99)), (2, 1, .c (.i .u8 97)), (3, 1, .c (.i .u8 119))])⟩, ⟨some 4, none, .q (.mv (.t 14))⟩])
  (.keep [1, 4]
  (.seq (.reg none [⟨some 15, none, .q (.fa 0 (.t 1))⟩, ⟨some 16, none, .q (.ld none (.t 15))⟩, ⟨some 17, none, .call (.f 23) [(.t 16)]⟩, ⟨some 5, none, .m (.alloc (.g [(.i .u8 0), (.i .u8 0), (.i .u8 0), (.i .u8 0)]))⟩, ⟨none, none, .m (.st 4 (.t 5) (.t 17))⟩])
  (.keep [1, 4, 5]
  (.seq (.reg none [⟨some 18, none, .q (.mv (.t 4))⟩, ⟨some 19, none, .m (.sla 4 (.t 5))⟩, ⟨some 20, none, .m (.app 1 1 (.t 18) (.t 19))⟩, ⟨some 4, none, .q (.mv (.t 20))⟩])
  (.keep [1, 4]
  (.seq (.seq (.reg none [⟨some 21, none, .q (.ld (some 12) (.t 1))⟩, ⟨some 22, none, .call (.f 24) [(.t 21)]⟩, ⟨some 23, none, .q (.len false (.t 22))⟩, ⟨some 24, none, .q (.mv (.c (.i .i64 0)))⟩])
    (.keep [1, 4, 22, 23, 24]
    (.blk 0 (.keep [1, 4, 22, 23, 24]
    (.loop (.fin [1, 4, 22, 23, 24]
      (.seq (.reg none [⟨some 25, none, .q (.bin .lss (.t 24) (.t 23))⟩])
      (.keep [1, 4, 22, 23, 24, 25]
      (.seq (.cond (.t 25) .skip
        (.exit 0))
      (.seq (.blk 1 (.seq (.reg none [⟨some 26, none, .q (.ias 1 (.t 22) (.t 24))⟩, ⟨some 27, none, .q (.ld none (.t 26))⟩, ⟨some 7, none, .q (.mv (.t 27))⟩])
        (.keep [1, 4, 7, 22, 23, 24]
        (.reg none [⟨some 28, none, .q (.mv (.t 4))⟩, ⟨some 29, none, .q (.mv (.t 7))⟩, ⟨some 30, none, .q (.cvi .u64 (.t 29))⟩, ⟨some 31, none, .call (.f 25) [(.t 28), (.t 30)]⟩, ⟨some 4, none, .q (.mv (.t 31))⟩]))))
      (.keep [1, 4, 22, 23, 24]
      (.reg none [⟨some 32, none, .q (.bin .add (.t 24) (.c (.i .i64 1)))⟩, ⟨some 24, none, .q (.mv (.t 32))⟩]))))))))))))
  (.seq (.seq (.reg none [⟨some 33, none, .q (.fa 8 (.t 1))⟩, ⟨some 34, none, .q (.ld none (.t 33))⟩, ⟨some 35, none, .q (.len false (.t 34))⟩, ⟨some 36, none, .q (.mv (.c (.i .i64 0)))⟩])
    (.keep [4, 34, 35, 36]
    (.blk 2 (.keep [4, 34, 35, 36]
    (.loop (.fin [4, 34, 35, 36]
      (.seq (.reg none [⟨some 37, none, .q (.bin .lss (.t 36) (.t 35))⟩])
      (.keep [4, 34, 35, 36, 37]
      (.seq (.cond (.t 37) .skip
        (.exit 2))
      (.seq (.blk 3 (.seq (.reg none [⟨some 38, none, .q (.ias 2 (.t 34) (.t 36))⟩, ⟨some 39, none, .q (.ld (some 2) (.t 38))⟩, ⟨some 9, none, .m (.alloc (.g [(.i .i64 0), (.i .i64 0)]))⟩, ⟨none, none, .m (.st 2 (.t 9) (.t 39))⟩])
        (.keep [4, 9, 34, 35, 36]
        (.seq (.reg none [⟨some 40, none, .q (.mv (.t 4))⟩, ⟨some 41, none, .q (.fa 0 (.t 9))⟩, ⟨some 42, none, .q (.ld none (.t 41))⟩, ⟨some 43, none, .q (.cvi .u64 (.t 42))⟩, ⟨some 44, none, .call (.f 25) [(.t 40), (.t 43)]⟩, ⟨some 4, none, .q (.mv (.t 44))⟩])
        (.keep [4, 9, 34, 35, 36]
        (.reg none [⟨some 45, none, .q (.mv (.t 4))⟩, ⟨some 46, none, .q (.fa 1 (.t 9))⟩, ⟨some 47, none, .q (.ld none (.t 46))⟩, ⟨some 48, none, .q (.cvi .u64 (.t 47))⟩, ⟨some 49, none, .call (.f 25) [(.t 45), (.t 48)]⟩, ⟨some 4, none, .q (.mv (.t 49))⟩]))))))
      (.keep [4, 34, 35, 36]
      (.reg none [⟨some 50, none, .q (.bin .add (.t 36) (.c (.i .i64 1)))⟩, ⟨some 36, none, .q (.mv (.t 50))⟩]))))))))))))
  (.seq (.reg none [⟨some 51, none, .q (.mv (.t 4))⟩, ⟨some 52, none, .call (.f 26) [(.t 51)]⟩, ⟨some 53, none, .call (.f 23) [(.t 52)]⟩, ⟨some 10, none, .m (.alloc (.g [(.i .u8 0), (.i .u8 0), (.i .u8 0), (.i .u8 0)]))⟩, ⟨none, none, .m (.st 4 (.t 10) (.t 53))⟩])
  (.keep [4, 10]
  (.seq (.reg none [⟨some 54, none, .q (.mv (.t 4))⟩, ⟨some 55, none, .m (.sla 4 (.t 10))⟩, ⟨some 56, none, .m (.app 1 1 (.t 54) (.t 55))⟩, ⟨some 2, none, .q (.mv (.t 56))⟩, ⟨some 3, none, .q (.mv (.c (.i .i64 0)))⟩])
  .ret))))))))))))))
theorem r10 : (Try.f10.body.bind (resC Try.prog Try.f10.ntmps)) = some (strip c10) := by kernel_rfl
theorem s10 : Try.f10.results.toList.mapM (resRes Try.prog) = some [.t 2, .t 3] := by kernel_rfl
theorem write_no (w : Wit) (hw : w.Ok) (h : w.rightB = false) : PureS Try.prog 9 [.g w.row] (.tup [.nil, .i .i64 1]) := by
  refine fun_go hmx Try.func9 r9 s9 (by rw [Try.ntmps9]; simp) ?_
  unfold c9
  simp [Wit.row]
  first
    | refine callk rfl Try.call19 (right_p w hw) rfl ?_
    | refine callks rfl Try.call19 (right_p w hw) rfl ?_
    | refine callq rfl Try.call19 (right_p w hw) rfl ?_
  simp [h]
def WroteO (w : Wit) (r : RV) (K : List AObj) : Prop := ∃ v, r = .tr [.os 0 v, .v (.i .i64 0)] ∧ K = [.arr v 1 (vrows ((witW w).map brow))]
theorem write_o (w : Wit) (hw : w.Ok) (h : w.rightB = true) : CallS Try.prog 9 [.v (.g w.row)] [] (WroteO w) := by
  have hR := Wit.rightB_iff.1 h
  have hlen := hR.len
  refine fun_sel [2] hmx Try.func9 r9 s9 (by rw [Try.ntmps9]; simp) (by first | exact Nat.le_refl _ | decide | simp) (by simp) ?_
  unfold c9
  simp [Wit.row]
  first
    | refine callk rfl Try.call19 (right_p w hw) rfl ?_
    | refine callks rfl Try.call19 (right_p w hw) rfl ?_
    | refine callq rfl Try.call19 (right_p w hw) rfl ?_
  simp [h]
  first
    | refine callk rfl Try.call20 (fixO w.sum hw.sum) rfl ?_
    | refine callks rfl Try.call20 (fixO w.sum hw.sum) rfl ?_
    | refine callq rfl Try.call20 (fixO w.sum hw.sum) rfl ?_
  simp [fixN, bval, brow]
  generalize ho0 : AObj.var [RV.v (AV.i IntKind.u32 (w.sum : Int)), _, _, _, _, _, _, _, _, _, _, _] = o0
  generalize ho3 : AObj.var [RV.v (AV.i IntKind.i64 w.kind), _, _, _, _, _, _] = o3
  generalize ho4 : AObj.var [RV.v (AV.i IntKind.i64 w.steps), _, _] = o4
  have hd0 : ∀ n, o0.dom (· < n) := fun n => by subst ho0; simp
  have hd3 : ∀ n, o3.dom (· < n) := fun n => by subst ho3; simp
  have hd4 : ∀ n, o4.dom (· < n) := fun n => by subst ho4; simp
  refine go_each hmx 6 59 w.picks (fun (b : Nat × List Int) => [(8, .os 5 b.1)]) (fun b => [o0, .none, .arr 1 1 (vrows ((wmagic ++ fixN w.sum).map brow)), o3, o4, .arr b.1 1 (vrows (b.2.map irow))]) (fun i b rest => b.2 ++ picksI rest = w.ints) (0, w.flds) (by omega) rfl rfl (by simp [vrows, brow, wmagic, fixN, Wit.flds, irow]) (by simp) (by simp) (by simp [hd0, hd3, hd4]) rfl ?_ ?_
  · rintro i x rest ⟨v, l⟩ hi hx hr hj hwr
    simp only at hj
    have hll : l.length ≤ w.ints.length := by rw [← hj]; simp
    have hil : w.ints.length = 11 + 2 * w.picks.length := by simp [Wit.ints, Wit.flds, picksI_len]; omega
    simp [hi, hx, hwr, Pick.row]
    refine ⟨⟨by omega, by omega⟩, l ++ [x.go, x.alt], by simp [vrows, irow], by rw [← hj]; simp [picksI]⟩
  · rintro ⟨v, l⟩ hj
    simp only [picksI, List.append_nil] at hj
    subst hj
    simp
    have hil : w.ints.length = 11 + 2 * w.picks.length := by simp [Wit.ints, Wit.flds, picksI_len]; omega
    have hsh := ints_short hlen
    have hhl := headW_len w
    refine go_each hmx 6 73 w.ints (fun (b : Nat × List UInt8) => [(5, .os 2 b.1)]) (fun b => [o0, .none, .arr b.1 1 (vrows (b.2.map brow)), o3, o4, .arr v 1 (vrows (w.ints.map irow))]) (fun i b rest => b.2 ++ intsW rest = headW w) (1, wmagic ++ fixN w.sum) (by omega) rfl rfl (by simp) (by simp) (by simp) (by simp [hd0, hd3, hd4]) rfl ?_ ?_
    · rintro i x rest ⟨v', acc⟩ hi hx hr hj hwr
      simp only at hj
      have hal : acc.length ≤ (headW w).length := by rw [← hj]; simp
      simp [hi, hx, hwr, irow, u64N_wrap, vrows_at]
      refine callv 2 rfl Try.call21 (putO acc (u64N x) (by omega) (u64N_lt x)) (flat_rows brow_flat) rfl ⟨frz_rows rfl, .v _, trivial⟩ ?_
      simp [hwr, -List.map_append, -List.append_assoc]
      refine ⟨acc ++ putN (u64N x), rfl, ?_⟩
      rw [← hj, intsW, numW, List.append_assoc]
    · rintro ⟨v', acc⟩ hj
      simp only [intsW, List.append_nil] at hj
      subst hj
      simp
      refine callz rfl Try.call22 (sumO (headW w) (by omega)) (.i _ _) ⟨frz_rows rfl, trivial⟩ ?_
      simp
      first
        | refine callk rfl Try.call20 (fixO (sumN (headW w)) (sumN_lt _)) rfl ?_
        | refine callks rfl Try.call20 (fixO (sumN (headW w)) (sumN_lt _)) rfl ?_
        | refine callq rfl Try.call20 (fixO (sumN (headW w)) (sumN_lt _)) rfl ?_
      simp [fixN, bval]
      refine ⟨⟨by omega, by omega⟩, v' + 1, ?_⟩
      exact ⟨rfl, by simp [witW, fixN, brow]⟩
theorem write_p (w : Wit) (hw : w.Ok) (h : w.rightB = true) : PureS Try.prog 9 [.g w.row] (.tup [.sl 1 ((witW w).map brow), .i .i64 0]) := by
  refine pure_of ((write_o w hw h).mono ?_)
  rintro _ _ ⟨v, rfl, rfl⟩
  exact frz_tr (cs' := [.sl 1 ((witW w).map brow), .i .i64 0]) ⟨frz_rows rfl, .v _, trivial⟩
theorem rwrite_p (w : Wit) (hw : w.Ok) : PureS Try.prog 10 [.g w.row] (if w.rightB then .tup [.sl 1 ((witW w).map brow), .i .i64 0] else .tup [.nil, .i .i64 1]) := by
  refine pure_of ?_
  refine fun_go hmx Try.func10 r10 s10 (by rw [Try.ntmps10]; simp) ?_
  unfold c10
  simp [Wit.row]
  first
    | refine callk rfl Try.call16 (right_r w hw) rfl ?_
    | refine callks rfl Try.call16 (right_r w hw) rfl ?_
    | refine callq rfl Try.call16 (right_r w hw) rfl ?_
  cases h : w.rightB with
  | false => simp
  | true =>
    have hR := Wit.rightB_iff.1 h
    have hlen := hR.len
    simp
    first
      | refine callk rfl Try.call23 (fixR w.sum hw.sum) rfl ?_
      | refine callks rfl Try.call23 (fixR w.sum hw.sum) rfl ?_
      | refine callq rfl Try.call23 (fixR w.sum hw.sum) rfl ?_
    simp [fixN, bval, brow]
    first
      | refine callk rfl Try.call24 (fields_r w hw) rfl ?_
      | refine callks rfl Try.call24 (fields_r w hw) rfl ?_
      | refine callq rfl Try.call24 (fields_r w hw) rfl ?_
    simp
    generalize ho0 : AObj.var [RV.v (AV.i IntKind.u32 (w.sum : Int)), _, _, _, _, _, _, _, _, _, _, _] = o0
    have hd0 : ∀ n, o0.dom (· < n) := fun n => by subst ho0; simp
    have hil : w.ints.length = 11 + 2 * w.picks.length := by simp [Wit.ints, Wit.flds, picksI_len]; omega
    have hsh := ints_short hlen
    have hhl := headW_len w
    have hfl : (intsW w.ints) = intsW w.flds ++ intsW (picksI w.picks) := intsW_append _ _
    have hwm : (wmagic ++ fixN w.sum).length = 8 := rfl
    refine go_each hmx 3 24 w.flds (fun (b : Nat × List UInt8) => [(4, .os 1 b.1)]) (fun b => [o0, .arr b.1 1 (vrows (b.2.map brow)), .none]) (fun i b rest => b.2 ++ intsW rest = wmagic ++ fixN w.sum ++ intsW w.flds) (1, wmagic ++ fixN w.sum) (by simp [Wit.flds]) rfl rfl (by simp [vrows, brow, wmagic, fixN]) (by simp) (by simp) (by simp [hd0]) rfl ?_ ?_
    · rintro i x rest ⟨v', acc⟩ hi hx hr hj hwr
      simp only at hj
      have hal : acc.length ≤ 8 + (intsW w.flds).length := by rw [← hwm, ← List.length_append, ← hj]; simp
      have hal2 : (intsW w.flds).length ≤ (intsW w.ints).length := by rw [hfl]; simp
      simp [hi, hx, hwr, irow, u64N_wrap, vrows_at]
      refine callv 1 rfl Try.call25 (putR acc (u64N x) (by omega) (u64N_lt x)) (flat_rows brow_flat) rfl ⟨frz_rows rfl, .v _, trivial⟩ ?_
      simp [hwr, -List.map_append, -List.append_assoc]
      refine ⟨acc ++ putN (u64N x), rfl, ?_⟩
      rw [← List.append_assoc wmagic, ← hj, intsW, numW, List.append_assoc]
    · rintro ⟨v', acc⟩ hj
      simp only [intsW, List.append_nil] at hj
      subst hj
      subst ho0
      simp
      generalize ho0 : AObj.var [RV.v (AV.i IntKind.u32 (w.sum : Int)), _, _, _, _, _, _, _, _, _, _, _] = o0
      have hd0 : ∀ n, o0.dom (· < n) := fun n => by subst ho0; simp
      refine go_each hmx 3 36 w.picks (fun (b : Nat × List UInt8) => [(4, .os 1 b.1)]) (fun b => [o0, .arr b.1 1 (vrows (b.2.map brow)), .none]) (fun i b rest => b.2 ++ intsW (picksI rest) = headW w) (v', wmagic ++ fixN w.sum ++ intsW w.flds) (by omega) rfl rfl (by simp) (by simp) (by simp) (by simp [hd0]) (by simp [headW, hfl]) ?_ ?_
      · rintro i x rest ⟨v', acc⟩ hi hx hr hj hwr
        simp only [picksI, intsW] at hj
        have hal : acc.length + (numW x.go).length ≤ (headW w).length := by rw [← hj]; simp <;> omega
        simp [hi, hx, hwr, Pick.row, u64N_wrap]
        refine callv 1 rfl Try.call25 (putR acc (u64N x.go) (by omega) (u64N_lt _)) (flat_rows brow_flat) rfl ⟨frz_rows rfl, .v _, trivial⟩ ?_
        simp [hwr, -List.map_append, -List.append_assoc, u64N_wrap]
        refine callv 1 rfl Try.call25 (putR (acc ++ putN (u64N x.go)) (u64N x.alt) (by rw [List.length_append]; unfold numW at hal; omega) (u64N_lt _)) (flat_rows brow_flat) rfl ⟨frz_rows rfl, .v _, trivial⟩ ?_
        simp [hwr, -List.map_append, -List.append_assoc]
        refine ⟨acc ++ putN (u64N x.go) ++ putN (u64N x.alt), rfl, ?_⟩
        rw [← hj, numW, numW]; simp only [List.append_assoc]
      · rintro ⟨v', acc⟩ hj
        simp only [picksI, intsW, List.append_nil] at hj
        subst hj
        simp
        refine callz rfl Try.call26 (sumR (headW w) (by omega)) (.i _ _) ⟨frz_rows rfl, trivial⟩ ?_
        simp
        first
          | refine callk rfl Try.call23 (fixR (sumN (headW w)) (sumN_lt _)) rfl ?_
          | refine callks rfl Try.call23 (fixR (sumN (headW w)) (sumN_lt _)) rfl ?_
          | refine callq rfl Try.call23 (fixR (sumN (headW w)) (sumN_lt _)) rfl ?_
        simp [fixN, bval]
        refine ⟨⟨by omega, by omega⟩, ?_⟩
        exact frz_tr (cs' := [.sl 1 ((witW w).map brow), .i .i64 0]) ⟨frz_rows (by simp [witW, fixN, brow]), .v _, trivial⟩
end Go.Sc.Wi
