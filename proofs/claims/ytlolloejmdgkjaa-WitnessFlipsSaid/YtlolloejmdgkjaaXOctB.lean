/- Bytes: numbers read, by both texts. No condition. -/
import Derived.Test.YtlolloejmdgkjaaXOctA
set_option linter.constructorNameAsVariable false
namespace Go.Sc.Oct
open Go Go.RowKit Go.Av Go.Proofs
set_option linter.unusedSimpArgs false
set_option linter.unusedVariables false
/-- scarab/octet.Get -/
def c45 : ACode :=
  (.seq (.reg none [⟨some 4, none, .q (.mv (.c (.i .u64 0)))⟩, ⟨some 5, none, .q (.mv (.c (.i .i64 0)))⟩, ⟨some 6, none, .q (.mv (.c (.i .i64 0)))⟩])
  (.keep [0, 1]
  (.seq (.seq (.reg none [⟨some 10, none, .q (.mv (.t 1))⟩, ⟨some 11, none, .q (.bin .lss (.t 10) (.c (.i .i64 0)))⟩, ⟨some 12, none, .q (.mv (.t 11))⟩, ⟨some 13, some (12, false), .q (.mv (.t 1))⟩, ⟨some 14, some (12, false), .q (.mv (.t 0))⟩, ⟨some 15, some (12, false), .q (.len false (.t 14))⟩, ⟨some 16, some (12, false), .q (.bin .gtr (.t 13) (.t 15))⟩, ⟨some 17, none, .pk (.t 12) (.c (.b true)) (.t 16)⟩])
    (.keep [0, 1, 17]
    (.cond (.t 17) (.seq (.reg none [⟨some 4, none, .q (.mv (.c (.i .u64 0)))⟩, ⟨some 5, none, .q (.mv (.c (.i .i64 0)))⟩, ⟨some 6, none, .q (.mv (.c (.i .i64 1)))⟩])
      .ret)
    .skip)))
  (.seq (.reg none [⟨some 7, none, .q (.mv (.c (.i .u64 0)))⟩])
  (.keep [0, 1, 7]
  (.seq (.seq (.reg none [⟨some 18, none, .q (.mv (.c (.i .i64 0)))⟩])
    (.keep [0, 1, 7, 18]
    (.blk 0 (.keep [0, 1, 7, 18]
    (.loop (.fin [0, 1, 7, 18]
      (.seq (.reg none [⟨some 19, none, .q (.bin .lss (.t 18) (.c (.i .i64 10)))⟩])
      (.keep [0, 1, 7, 18, 19]
      (.seq (.cond (.t 19) .skip
        (.exit 0))
      (.seq (.blk 1 (.seq (.reg none [⟨some 20, none, .q (.mv (.t 18))⟩, ⟨some 8, none, .q (.mv (.t 20))⟩])
        (.keep [0, 1, 7, 8, 18]
        (.seq (.seq (.reg none [⟨some 21, none, .q (.mv (.t 1))⟩, ⟨some 22, none, .q (.mv (.t 8))⟩, ⟨some 23, none, .q (.bin .add (.t 21) (.t 22))⟩, ⟨some 24, none, .q (.mv (.t 0))⟩, ⟨some 25, none, .q (.len false (.t 24))⟩, ⟨some 26, none, .q (.bin .geq (.t 23) (.t 25))⟩])
          (.keep [0, 1, 7, 8, 18, 26]
          (.cond (.t 26) (.seq (.reg none [⟨some 4, none, .q (.mv (.c (.i .u64 0)))⟩, ⟨some 5, none, .q (.mv (.c (.i .i64 0)))⟩, ⟨some 6, none, .q (.mv (.c (.i .i64 10)))⟩])
            .ret)
          .skip)))
        (.seq (.reg none [⟨some 27, none, .q (.mv (.t 0))⟩, ⟨some 28, none, .q (.mv (.t 1))⟩, ⟨some 29, none, .q (.mv (.t 8))⟩, ⟨some 30, none, .q (.bin .add (.t 28) (.t 29))⟩, ⟨some 31, none, .q (.ias 1 (.t 27) (.t 30))⟩, ⟨some 32, none, .q (.ld none (.t 31))⟩, ⟨some 9, none, .q (.mv (.t 32))⟩])
        (.keep [0, 1, 7, 8, 9, 18]
        (.seq (.seq (.reg none [⟨some 33, none, .q (.mv (.t 8))⟩, ⟨some 34, none, .q (.bin .eql (.t 33) (.c (.i .i64 9)))⟩, ⟨some 35, none, .q (.mv (.t 34))⟩, ⟨some 36, some (35, true), .q (.mv (.t 9))⟩, ⟨some 37, some (35, true), .q (.bin .gtr (.t 36) (.c (.i .u8 1)))⟩, ⟨some 38, none, .pk (.t 35) (.t 37) (.c (.b false))⟩])
          (.keep [0, 1, 7, 8, 9, 18, 38]
          (.cond (.t 38) (.seq (.reg none [⟨some 4, none, .q (.mv (.c (.i .u64 0)))⟩, ⟨some 5, none, .q (.mv (.c (.i .i64 0)))⟩, ⟨some 6, none, .q (.mv (.c (.i .i64 11)))⟩])
            .ret)
          .skip)))
        (.seq (.reg none [⟨some 39, none, .q (.mv (.t 7))⟩, ⟨some 40, none, .q (.mv (.t 9))⟩, ⟨some 41, none, .q (.bin .and (.t 40) (.c (.i .u8 127)))⟩, ⟨some 42, none, .q (.cvi .u64 (.t 41))⟩, ⟨some 43, none, .q (.mv (.t 8))⟩, ⟨some 44, none, .q (.bin .mul (.c (.i .i64 7)) (.t 43))⟩, ⟨some 45, none, .q (.bin .shl (.t 42) (.t 44))⟩, ⟨some 46, none, .q (.bin .or (.t 39) (.t 45))⟩, ⟨some 7, none, .q (.mv (.t 46))⟩])
        (.keep [0, 1, 7, 8, 9, 18]
        (.seq (.reg none [⟨some 47, none, .q (.mv (.t 9))⟩, ⟨some 48, none, .q (.bin .lss (.t 47) (.c (.i .u8 128)))⟩])
        (.keep [0, 1, 7, 8, 9, 18, 48]
        (.cond (.t 48) (.seq (.seq (.reg none [⟨some 49, none, .q (.mv (.t 9))⟩, ⟨some 50, none, .q (.bin .eql (.t 49) (.c (.i .u8 0)))⟩, ⟨some 51, none, .q (.mv (.t 50))⟩, ⟨some 52, some (51, true), .q (.mv (.t 8))⟩, ⟨some 53, some (51, true), .q (.bin .gtr (.t 52) (.c (.i .i64 0)))⟩, ⟨some 54, none, .pk (.t 51) (.t 53) (.c (.b false))⟩])
            (.keep [1, 7, 8, 54]
            (.cond (.t 54) (.seq (.reg none [⟨some 4, none, .q (.mv (.c (.i .u64 0)))⟩, ⟨some 5, none, .q (.mv (.c (.i .i64 0)))⟩, ⟨some 6, none, .q (.mv (.c (.i .i64 12)))⟩])
              .ret)
            .skip)))
          (.seq (.reg none [⟨some 55, none, .q (.mv (.t 7))⟩, ⟨some 56, none, .q (.mv (.t 1))⟩, ⟨some 57, none, .q (.mv (.t 8))⟩, ⟨some 58, none, .q (.bin .add (.t 56) (.t 57))⟩, ⟨some 59, none, .q (.bin .add (.t 58) (.c (.i .i64 1)))⟩, ⟨some 4, none, .q (.mv (.t 55))⟩, ⟨some 5, none, .q (.mv (.t 59))⟩, ⟨some 6, none, .q (.mv (.c (.i .i64 0)))⟩])
          .ret))
        .skip))))))))))))
      (.keep [0, 1, 7, 18]
      (.reg none [⟨some 60, none, .q (.bin .add (.t 18) (.c (.i .i64 1)))⟩, ⟨some 18, none, .q (.mv (.t 60))⟩]))))))))))))
  (.seq (.reg none [⟨some 4, none, .q (.mv (.c (.i .u64 0)))⟩, ⟨some 5, none, .q (.mv (.c (.i .i64 0)))⟩, ⟨some 6, none, .q (.mv (.c (.i .i64 11)))⟩])
  .ret)))))))
theorem r45 : (Try.f45.body.bind (resC Try.prog Try.f45.ntmps)) = some (strip c45) := by kernel_rfl
theorem s45 : Try.f45.results.toList.mapM (resRes Try.prog) = some [.t 4, .t 5, .t 6] := by kernel_rfl
/-- scarab/scarabref01.Get -/
def c43 : ACode :=
  (.seq (.reg none [⟨some 4, none, .q (.mv (.c (.i .u64 0)))⟩, ⟨some 5, none, .q (.mv (.c (.i .i64 0)))⟩, ⟨some 6, none, .q (.mv (.c (.i .i64 0)))⟩])
  (.keep [0, 1]
  (.seq (.seq (.reg none [⟨some 11, none, .q (.mv (.t 1))⟩, ⟨some 12, none, .q (.bin .lss (.t 11) (.c (.i .i64 0)))⟩, ⟨some 13, none, .q (.mv (.t 12))⟩, ⟨some 14, some (13, false), .q (.mv (.t 1))⟩, ⟨some 15, some (13, false), .q (.mv (.t 0))⟩, ⟨some 16, some (13, false), .q (.len false (.t 15))⟩, ⟨some 17, some (13, false), .q (.bin .gtr (.t 14) (.t 16))⟩, ⟨some 18, none, .pk (.t 13) (.c (.b true)) (.t 17)⟩])
    (.keep [0, 1, 18]
    (.cond (.t 18) (.seq (.reg none [⟨some 4, none, .q (.mv (.c (.i .u64 0)))⟩, ⟨some 5, none, .q (.mv (.c (.i .i64 0)))⟩, ⟨some 6, none, .q (.mv (.c (.i .i64 1)))⟩])
      .ret)
    .skip)))
  (.seq (.reg none [⟨some 7, none, .q (.mv (.c (.i .u64 0)))⟩])
  (.keep [0, 1, 7]
  (.seq (.reg none [⟨some 8, none, .q (.mv (.c (.i .u64 1)))⟩])
  (.keep [0, 1, 7, 8]
  (.seq (.reg none [⟨some 9, none, .q (.mv (.c (.i .i64 0)))⟩])
  (.keep [0, 1, 7, 8, 9]
  (.blk 0 (.keep [0, 1, 7, 8, 9]
  (.loop (.fin [0, 1, 7, 8, 9]
    (.seq (.blk 1 (.seq (.seq (.reg none [⟨some 21, none, .q (.mv (.t 1))⟩, ⟨some 22, none, .q (.mv (.t 9))⟩, ⟨some 23, none, .q (.bin .add (.t 21) (.t 22))⟩, ⟨some 24, none, .q (.mv (.t 0))⟩, ⟨some 25, none, .q (.len false (.t 24))⟩, ⟨some 26, none, .q (.bin .geq (.t 23) (.t 25))⟩])
        (.keep [0, 1, 7, 8, 9, 26]
        (.cond (.t 26) (.seq (.reg none [⟨some 4, none, .q (.mv (.c (.i .u64 0)))⟩, ⟨some 5, none, .q (.mv (.c (.i .i64 0)))⟩, ⟨some 6, none, .q (.mv (.c (.i .i64 10)))⟩])
          .ret)
        .skip)))
      (.seq (.reg none [⟨some 27, none, .q (.mv (.t 0))⟩, ⟨some 28, none, .q (.mv (.t 1))⟩, ⟨some 29, none, .q (.mv (.t 9))⟩, ⟨some 30, none, .q (.bin .add (.t 28) (.t 29))⟩, ⟨some 31, none, .q (.ias 1 (.t 27) (.t 30))⟩, ⟨some 32, none, .q (.ld none (.t 31))⟩, ⟨some 10, none, .q (.mv (.t 32))⟩])
      (.keep [0, 1, 7, 8, 9, 10]
      (.seq (.seq (.reg none [⟨some 33, none, .q (.mv (.t 9))⟩, ⟨some 34, none, .q (.bin .eql (.t 33) (.c (.i .i64 9)))⟩, ⟨some 35, none, .q (.mv (.t 34))⟩, ⟨some 36, some (35, true), .q (.mv (.t 10))⟩, ⟨some 37, some (35, true), .q (.bin .gtr (.t 36) (.c (.i .u8 1)))⟩, ⟨some 38, none, .pk (.t 35) (.t 37) (.c (.b false))⟩])
        (.keep [0, 1, 7, 8, 9, 10, 38]
        (.cond (.t 38) (.seq (.reg none [⟨some 4, none, .q (.mv (.c (.i .u64 0)))⟩, ⟨some 5, none, .q (.mv (.c (.i .i64 0)))⟩, ⟨some 6, none, .q (.mv (.c (.i .i64 11)))⟩])
          .ret)
        .skip)))
      (.seq (.seq (.reg none [⟨some 39, none, .q (.mv (.t 10))⟩, ⟨some 40, none, .q (.bin .geq (.t 39) (.c (.i .u8 128)))⟩])
        (.keep [0, 1, 7, 8, 9, 10, 40]
        (.cond (.t 40) (.seq (.reg none [⟨some 41, none, .q (.mv (.t 7))⟩, ⟨some 42, none, .q (.mv (.t 10))⟩, ⟨some 43, none, .q (.bin .sub (.t 42) (.c (.i .u8 128)))⟩, ⟨some 44, none, .q (.cvi .u64 (.t 43))⟩, ⟨some 45, none, .q (.mv (.t 8))⟩, ⟨some 46, none, .q (.bin .mul (.t 44) (.t 45))⟩, ⟨some 47, none, .q (.bin .add (.t 41) (.t 46))⟩, ⟨some 7, none, .q (.mv (.t 47))⟩])
          (.keep [0, 1, 7, 8, 9]
          (.seq (.reg none [⟨some 48, none, .q (.mv (.t 8))⟩, ⟨some 49, none, .q (.bin .mul (.t 48) (.c (.i .u64 128)))⟩, ⟨some 8, none, .q (.mv (.t 49))⟩])
          (.exit 1))))
        .skip)))
      (.seq (.seq (.reg none [⟨some 50, none, .q (.mv (.t 10))⟩, ⟨some 51, none, .q (.bin .eql (.t 50) (.c (.i .u8 0)))⟩, ⟨some 52, none, .q (.mv (.t 51))⟩, ⟨some 53, some (52, true), .q (.mv (.t 9))⟩, ⟨some 54, some (52, true), .q (.bin .gtr (.t 53) (.c (.i .i64 0)))⟩, ⟨some 55, none, .pk (.t 52) (.t 54) (.c (.b false))⟩])
        (.keep [1, 7, 8, 9, 10, 55]
        (.cond (.t 55) (.seq (.reg none [⟨some 4, none, .q (.mv (.c (.i .u64 0)))⟩, ⟨some 5, none, .q (.mv (.c (.i .i64 0)))⟩, ⟨some 6, none, .q (.mv (.c (.i .i64 12)))⟩])
          .ret)
        .skip)))
      (.seq (.reg none [⟨some 56, none, .q (.mv (.t 7))⟩, ⟨some 57, none, .q (.mv (.t 10))⟩, ⟨some 58, none, .q (.cvi .u64 (.t 57))⟩, ⟨some 59, none, .q (.mv (.t 8))⟩, ⟨some 60, none, .q (.bin .mul (.t 58) (.t 59))⟩, ⟨some 61, none, .q (.bin .add (.t 56) (.t 60))⟩, ⟨some 62, none, .q (.mv (.t 1))⟩, ⟨some 63, none, .q (.mv (.t 9))⟩, ⟨some 64, none, .q (.bin .add (.t 62) (.t 63))⟩, ⟨some 65, none, .q (.bin .add (.t 64) (.c (.i .i64 1)))⟩, ⟨some 4, none, .q (.mv (.t 61))⟩, ⟨some 5, none, .q (.mv (.t 65))⟩, ⟨some 6, none, .q (.mv (.c (.i .i64 0)))⟩])
      .ret))))))))
    (.keep [0, 1, 7, 8, 9]
    (.reg none [⟨some 19, none, .q (.mv (.t 9))⟩, ⟨some 20, none, .q (.bin .add (.t 19) (.c (.i .i64 1)))⟩, ⟨some 9, none, .q (.mv (.t 20))⟩]))))))))))))))))
theorem r43 : (Try.f43.body.bind (resC Try.prog Try.f43.ntmps)) = some (strip c43) := by kernel_rfl
theorem s43 : Try.f43.results.toList.mapM (resRes Try.prog) = some [.t 4, .t 5, .t 6] := by kernel_rfl
/-- scarab/octet.GetFixed -/
def c27 : ACode :=
  (.seq (.reg none [⟨some 4, none, .q (.mv (.c (.i .u32 0)))⟩, ⟨some 5, none, .q (.mv (.c (.i .i64 0)))⟩, ⟨some 6, none, .q (.mv (.c (.i .i64 0)))⟩])
  (.keep [0, 1]
  (.seq (.seq (.reg none [⟨some 10, none, .q (.mv (.t 1))⟩, ⟨some 11, none, .q (.bin .lss (.t 10) (.c (.i .i64 0)))⟩, ⟨some 12, none, .q (.mv (.t 11))⟩, ⟨some 13, some (12, false), .q (.mv (.t 1))⟩, ⟨some 14, some (12, false), .q (.mv (.t 0))⟩, ⟨some 15, some (12, false), .q (.len false (.t 14))⟩, ⟨some 16, some (12, false), .q (.bin .gtr (.t 13) (.t 15))⟩, ⟨some 17, none, .pk (.t 12) (.c (.b true)) (.t 16)⟩])
    (.keep [0, 1, 17]
    (.cond (.t 17) (.seq (.reg none [⟨some 4, none, .q (.mv (.c (.i .u32 0)))⟩, ⟨some 5, none, .q (.mv (.c (.i .i64 0)))⟩, ⟨some 6, none, .q (.mv (.c (.i .i64 1)))⟩])
      .ret)
    .skip)))
  (.seq (.seq (.reg none [⟨some 18, none, .q (.mv (.t 0))⟩, ⟨some 19, none, .q (.len false (.t 18))⟩, ⟨some 20, none, .q (.mv (.t 1))⟩, ⟨some 21, none, .q (.bin .sub (.t 19) (.t 20))⟩, ⟨some 22, none, .q (.bin .lss (.t 21) (.c (.i .i64 4)))⟩])
    (.keep [0, 1, 22]
    (.cond (.t 22) (.seq (.reg none [⟨some 4, none, .q (.mv (.c (.i .u32 0)))⟩, ⟨some 5, none, .q (.mv (.c (.i .i64 0)))⟩, ⟨some 6, none, .q (.mv (.c (.i .i64 10)))⟩])
      .ret)
    .skip)))
  (.seq (.reg none [⟨some 7, none, .q (.mv (.c (.i .u32 0)))⟩])
  (.keep [0, 1, 7]
  (.seq (.seq (.reg none [⟨some 23, none, .q (.mv (.t 0))⟩, ⟨some 24, none, .q (.mv (.t 1))⟩, ⟨some 25, none, .q (.mv (.t 1))⟩, ⟨some 26, none, .q (.bin .add (.t 25) (.c (.i .i64 4)))⟩, ⟨some 27, none, .q (.sls 1 (.t 23) (some (.t 24)) (some (.t 26)))⟩, ⟨some 28, none, .q (.len false (.t 27))⟩, ⟨some 29, none, .q (.mv (.c (.i .i64 0)))⟩])
    (.keep [1, 7, 27, 28, 29]
    (.blk 0 (.keep [1, 7, 27, 28, 29]
    (.loop (.fin [1, 7, 27, 28, 29]
      (.seq (.reg none [⟨some 30, none, .q (.bin .lss (.t 29) (.t 28))⟩])
      (.keep [1, 7, 27, 28, 29, 30]
      (.seq (.cond (.t 30) .skip
        (.exit 0))
      (.seq (.blk 1 (.seq (.reg none [⟨some 31, none, .q (.ias 1 (.t 27) (.t 29))⟩, ⟨some 32, none, .q (.ld none (.t 31))⟩, ⟨some 9, none, .q (.mv (.t 32))⟩])
        (.keep [1, 7, 9, 27, 28, 29]
        (.reg none [⟨some 33, none, .q (.mv (.t 7))⟩, ⟨some 34, none, .q (.bin .shl (.t 33) (.c (.i .u64 8)))⟩, ⟨some 35, none, .q (.mv (.t 9))⟩, ⟨some 36, none, .q (.cvi .u32 (.t 35))⟩, ⟨some 37, none, .q (.bin .or (.t 34) (.t 36))⟩, ⟨some 7, none, .q (.mv (.t 37))⟩]))))
      (.keep [1, 7, 27, 28, 29]
      (.reg none [⟨some 38, none, .q (.bin .add (.t 29) (.c (.i .i64 1)))⟩, ⟨some 29, none, .q (.mv (.t 38))⟩]))))))))))))
  (.seq (.reg none [⟨some 39, none, .q (.mv (.t 7))⟩, ⟨some 40, none, .q (.mv (.t 1))⟩, ⟨some 41, none, .q (.bin .add (.t 40) (.c (.i .i64 4)))⟩, ⟨some 4, none, .q (.mv (.t 39))⟩, ⟨some 5, none, .q (.mv (.t 41))⟩, ⟨some 6, none, .q (.mv (.c (.i .i64 0)))⟩])
  .ret))))))))
theorem r27 : (Try.f27.body.bind (resC Try.prog Try.f27.ntmps)) = some (strip c27) := by kernel_rfl
theorem s27 : Try.f27.results.toList.mapM (resRes Try.prog) = some [.t 4, .t 5, .t 6] := by kernel_rfl

theorem getO (bs : List UInt8) (at' : Int) (hb : bs.length < 1099511627776) : PureS Try.prog 45 [.sl 1 (bs.map brow), .i .i64 at'] (getR bs at') := by
  refine fun_go hmx Try.func45 r45 s45 (by rw [Try.ntmps45]; simp) ?_
  unfold c45
  simp
  refine ⟨fun h => by simp [getR, h], fun h0 h1 => ?_⟩
  obtain ⟨a, rfl⟩ := Int.eq_ofNat_of_zero_le h0
  have ha : a ≤ bs.length := by omega
  have hR : getR bs (a : Int) = told3 (getA 0 0 (bs.drop a)) a := by rw [getR, if_neg (by omega)]; simp
  rw [hR]
  refine go_each hmx 0 18 (List.replicate 10 ()) (fun (c : Nat) => [(7, .v (.i .u64 (c : Int)))]) (fun _ => []) (fun i acc rest => i < 10 ∧ a + i ≤ bs.length ∧ getA i acc (bs.drop (a + i)) = getA 0 0 (bs.drop a) ∧ acc < 128 ^ i) 0 (by simp) rfl rfl rfl (by simp) (by simp) (by simp) ⟨by omega, ha, rfl, by simp⟩ ?_ ?_
  · rintro i _ rest acc _ _ _ ⟨hi, hl, hj, hacc⟩ hw
    have hi' : (i : Int) < 10 := by omega
    have hi2 : ¬ (10 : Int) ≤ i := by omega
    have hw1 : IntKind.i64.wrap ((a : Int) + i) = ((a + i : Nat) : Int) := by rw [wrap_in (by omega) (by omega)]; omega
    have hw2 : IntKind.i64.wrap (7 * (i : Int)) = ((7 * i : Nat) : Int) := by rw [wrap_in (by omega) (by omega)]; omega
    have ht : ((a : Int) + (i : Int)).toNat = a + i := by omega
    by_cases hlt' : a + i < bs.length
    rotate_left
    · have : bs.drop (a + i) = [] := List.drop_eq_nil_of_le (by omega)
      rw [this] at hj
      have hge : (bs.length : Int) ≤ (a : Int) + i := by omega
      have hge2 : ¬ (a : Int) + i < (bs.length : Int) := by omega
      simp [hi', hi2, hw, hw1, hw2, hge, hge2]
      rw [← hj]; simp [getA, told3]
    have hge : (a : Int) + i < (bs.length : Int) := by omega
    have hge2 : ¬ (bs.length : Int) ≤ (a : Int) + i := by omega
    rw [List.drop_eq_getElem_cons hlt'] at hj
    have hd : bs.drop (a + i + 1) = bs.drop (a + (i + 1)) := by rw [Nat.add_assoc]
    rw [hd] at hj
    generalize hx : bs[a + i] = c at hj
    have hc := c.toNat_lt
    simp [hi', hi2, hw, hw1, hw2, hge, hge2, ht, hlt', hx, brow]
    have hp := pow128 i (by omega)
    refine ⟨by omega, fun h9 h9b => ?_, fun h9 => ?_⟩
    · rw [← hj, getA, if_pos (by omega)]; simp [told3]
    have h9' : ¬ (i = 9 ∧ 1 < c.toNat) := by omega
    have hm1 : min (7 * (i : Int)).toNat 64 = 7 * i := by omega
    rw [hm1, and_127]
    rw [wrap_u8_lt (show c.toNat % 128 < 256 by omega), wrap_u64_lt (show c.toNat % 128 < 18446744073709551616 by omega)]
    have hsh : (((c.toNat % 128 : Nat) : Int) * 2 ^ (7 * i)) = ((c.toNat % 128 * 128 ^ i : Nat) : Int) := by
      rw [← pow2_7]; simp
    have hsm : c.toNat % 128 * 128 ^ i < 18446744073709551616 := by
      by_cases hk9 : i = 9
      · subst hk9
        have : c.toNat % 128 * 128 ^ 9 ≤ 1 * 128 ^ 9 := Nat.mul_le_mul_right _ (by omega)
        have e : (128 : Nat) ^ 9 = 9223372036854775808 := by decide
        rw [e] at this ⊢; omega
      · have h8 : 128 ^ i ≤ 128 ^ 8 := Nat.pow_le_pow_right (by omega) (by omega)
        have e : (128 : Nat) ^ 8 = 72057594037927936 := by decide
        have : c.toNat % 128 * 128 ^ i ≤ 127 * 128 ^ i := Nat.mul_le_mul_right _ (by omega)
        omega
    have hac : acc < 18446744073709551616 := by omega
    rw [hsh, wrap_u64_lt hsm]
    have e2 : (((c.toNat % 128 * 128 ^ i : Nat) : Int) % 18446744073709551616).toNat = c.toNat % 128 * 128 ^ i := by omega
    have e3 : acc % 18446744073709551616 = acc := by omega
    rw [e2, e3, or_add hacc]
    have hacc2 : acc + c.toNat % 128 * 128 ^ i < 128 ^ (i + 1) := by
      rw [Nat.pow_succ]
      have : c.toNat % 128 * 128 ^ i ≤ 127 * 128 ^ i := Nat.mul_le_mul_right _ (by omega)
      omega
    refine ⟨by omega, fun h128 => ⟨fun hz hk => ?_, fun hz => ?_⟩, fun h128 => ?_⟩
    · rw [← hj, getA, if_neg h9', if_neg (by omega), if_pos ⟨hz, hk⟩]; simp [told3]
    · have e4 : c.toNat % 128 = c.toNat := by omega
      have hlt64 := getA_lt (c :: bs.drop (a + (i + 1))) i acc (by omega) hacc
      rw [← hj]
      rw [getA, if_neg h9', if_neg (by omega), if_neg (by omega)] at hlt64 ⊢
      simp only at hlt64
      rw [e4, wrap_u64_lt hlt64, wrap_in (by omega) (by omega)]
      simp [told3]
      omega
    · have e4 : c.toNat % 128 = c.toNat - 128 := by omega
      have hi8 : i ≠ 9 := by omega
      have hs9 : acc + c.toNat % 128 * 128 ^ i < 18446744073709551616 := by
        have h8 : 128 ^ (i + 1) ≤ 128 ^ 9 := Nat.pow_le_pow_right (by omega) (by omega)
        have e : (128 : Nat) ^ 9 = 9223372036854775808 := by decide
        omega
      refine ⟨acc + c.toNat % 128 * 128 ^ i, wrap_u64_lt hs9, by omega, by omega, ?_, hacc2⟩
      rw [← hj, getA, if_neg h9', if_pos (by omega), e4]
  · rintro acc ⟨hl, _⟩
    simp at hl

theorem getRf (bs : List UInt8) (at' : Int) (hb : bs.length < 1099511627776) : PureS Try.prog 43 [.sl 1 (bs.map brow), .i .i64 at'] (getR bs at') := by
  refine fun_go hmx Try.func43 r43 s43 (by rw [Try.ntmps43]; simp) ?_
  unfold c43
  simp
  refine ⟨fun h => by simp [getR, h], fun h0 h1 => ?_⟩
  obtain ⟨a, rfl⟩ := Int.eq_ofNat_of_zero_le h0
  have ha : a ≤ bs.length := by omega
  have hR : getR bs (a : Int) = told3 (getA 0 0 (bs.drop a)) a := by rw [getR, if_neg (by omega)]; simp
  rw [hR]
  refine go_while hmx 0 (fun (s : Nat × Nat) => [(7, .v (.i .u64 (s.2 : Int))), (8, .v (.i .u64 ((128 ^ s.1 : Nat) : Int))), (9, .v (.i .i64 (s.1 : Int)))]) (fun _ => []) (fun s => s.1 < 10 ∧ a + s.1 ≤ bs.length ∧ getA s.1 s.2 (bs.drop (a + s.1)) = getA 0 0 (bs.drop a) ∧ s.2 < 128 ^ s.1) (fun s => 10 - s.1) (0, 0) rfl rfl rfl (by simp) (by simp) (by simp) ⟨by simp, ha, rfl, by simp⟩ ?_
  rintro ⟨i, acc⟩ ⟨hi, hl, hj, hacc⟩
  simp only at hi hl hj hacc
  have hw : IntKind.i64.wrap ((i : Int) + 1) = (i : Int) + 1 := wrap_in (by omega) (by omega)
  have hw1 : IntKind.i64.wrap ((a : Int) + i) = ((a + i : Nat) : Int) := by rw [wrap_in (by omega) (by omega)]; omega
  have ht : ((a : Int) + (i : Int)).toNat = a + i := by omega
  by_cases hlt' : a + i < bs.length
  rotate_left
  · have : bs.drop (a + i) = [] := List.drop_eq_nil_of_le (by omega)
    rw [this] at hj
    have hge : (bs.length : Int) ≤ (a : Int) + i := by omega
    have hge2 : ¬ (a : Int) + i < (bs.length : Int) := by omega
    simp [hw, hw1, hge, hge2]
    rw [← hj]; simp [getA, told3]
  have hge : (a : Int) + i < (bs.length : Int) := by omega
  have hge2 : ¬ (bs.length : Int) ≤ (a : Int) + i := by omega
  rw [List.drop_eq_getElem_cons hlt'] at hj
  have hd : bs.drop (a + i + 1) = bs.drop (a + (i + 1)) := by rw [Nat.add_assoc]
  rw [hd] at hj
  generalize hx : bs[a + i] = c at hj
  have hc := c.toNat_lt
  simp [hw, hw1, hge, hge2, ht, hlt', hx, brow]
  have hp := pow128 i (by omega)
  refine ⟨by omega, fun h9 h9b => ?_, fun h9 => ?_⟩
  · rw [← hj, getA, if_pos (by omega)]; simp [told3]
  have h9' : ¬ (i = 9 ∧ 1 < c.toNat) := by omega
  refine ⟨fun h128 => ?_, fun h128 => ⟨fun hz hk => ?_, fun hz => ?_⟩⟩
  · have hi8 : i ≠ 9 := by omega
    have hsm : (c.toNat - 128) * 128 ^ i ≤ 127 * 128 ^ i := Nat.mul_le_mul_right _ (by omega)
    have hs9 : acc + (c.toNat - 128) * 128 ^ i < 128 ^ (i + 1) := by rw [Nat.pow_succ]; omega
    have h8 : 128 ^ (i + 1) ≤ 128 ^ 9 := Nat.pow_le_pow_right (by omega) (by omega)
    have e : (128 : Nat) ^ 9 = 9223372036854775808 := by decide
    have e1 : ((c.toNat : Int) - 128) = ((c.toNat - 128 : Nat) : Int) := by omega
    have e2 : ((128 : Int) ^ i) = ((128 ^ i : Nat) : Int) := by simp
    rw [e1, e2, wrap_u8_lt (by omega), wrap_u64_lt (by omega), ← Int.natCast_mul, wrap_u64_lt (by omega), ← Int.natCast_add, wrap_u64_lt (by omega)]
    have e3 : ((128 ^ i : Nat) : Int) * 128 = ((128 ^ (i + 1) : Nat) : Int) := by rw [Nat.pow_succ]; simp
    rw [e3, wrap_u64_lt (by omega)]
    refine ⟨i + 1, acc + (c.toNat - 128) * 128 ^ i, ⟨rfl, by simp, by simp⟩, ⟨by omega, by omega, ?_, hs9⟩, by omega⟩
    rw [← hj, getA, if_neg h9', if_pos (by omega)]
  · rw [← hj, getA, if_neg h9', if_neg (by omega), if_pos ⟨hz, hk⟩]; simp [told3]
  · have hlt64 := getA_lt (c :: bs.drop (a + (i + 1))) i acc (by omega) hacc
    rw [← hj]
    rw [getA, if_neg h9', if_neg (by omega), if_neg (by omega)] at hlt64 ⊢
    simp only at hlt64
    have e2 : ((128 : Int) ^ i) = ((128 ^ i : Nat) : Int) := by simp
    rw [e2, wrap_u64_lt (show c.toNat < 18446744073709551616 by omega), ← Int.natCast_mul, wrap_u64_lt (by omega), ← Int.natCast_add, wrap_u64_lt (by omega), wrap_in (by omega) (by omega)]
    simp [told3]
    omega

theorem gfO (bs : List UInt8) (at' : Int) (hb : bs.length < 1099511627776) : PureS Try.prog 27 [.sl 1 (bs.map brow), .i .i64 at'] (fixRd bs at') := by
  refine fun_go hmx Try.func27 r27 s27 (by rw [Try.ntmps27]; simp) ?_
  unfold c27
  by_cases h : at' < 0 ∨ (bs.length : Int) < at'
  · have h' : (at' < 0 ∨ (bs.length : Int) < at') ↔ True := iff_true_intro h
    simp [h', fixRd]
    intro a b; omega
  obtain ⟨a, rfl⟩ := Int.eq_ofNat_of_zero_le (show 0 ≤ at' by omega)
  have h1 : ¬ ((a : Int) < 0) := by omega
  have h2 : ¬ ((bs.length : Int) < (a : Int)) := by omega
  have hw : IntKind.i64.wrap ((bs.length : Int) - a) = (bs.length : Int) - a := wrap_in (by omega) (by omega)
  by_cases h4 : (bs.length : Int) - a < 4
  · have h5 : ¬ (4 ≤ (bs.length : Int) - a) := by omega
    simp [h2, hw, h4, h5, fixRd]
  have h5 : 4 ≤ (bs.length : Int) - a := by omega
  have hw4 : IntKind.i64.wrap ((a : Int) + 4) = ((a + 4 : Nat) : Int) := by rw [wrap_in (by omega) (by omega)]; rfl
  have ht : ((a : Int) + 4).toNat = a + 4 := by omega
  have hf4 : (four bs a).length = 4 := four_length (by omega)
  have hrow : List.drop a (List.take (a + 4) (List.map brow bs)) = (four bs a).map brow := by rw [four, List.map_drop, List.map_take]
  have hminn : min (a + 4) bs.length - a = 4 := by omega
  have hr : fixRd bs (a : Int) = .tup [.i .u32 (beN (four bs a) 0 : Int), .i .i64 ((a : Int) + 4), .i .i64 0] := by rw [fixRd, if_neg h, if_neg h4]; simp
  rw [hr]
  simp [h1, h2, hw, h4, h5, hw4, ht, hrow, hminn]
  refine ⟨⟨by omega, by omega⟩, ?_⟩
  generalize four bs a = xs at *
  refine go_each hmx 0 29 xs (fun (c : Nat) => [(7, .v (.i .u32 (c : Int)))]) (fun _ => []) (fun i c rest => beN rest c = beN xs 0 ∧ c < 256 ^ i) 0 (by omega) rfl rfl rfl (by simp) (by simp) (by simp) ⟨rfl, by simp⟩ ?_ ?_
  · rintro i x rest c hi hx hr2 ⟨hj, hc⟩ hw2
    have hi4 : i < 4 := by omega
    have hi' : (i : Int) < 4 := by omega
    have hi2 : ¬ (4 : Int) ≤ i := by omega
    have hxl := x.toNat_lt
    have hcl : c < 16777216 := by
      have : 256 ^ i ≤ 256 ^ 3 := Nat.pow_le_pow_right (by omega) (by omega)
      omega
    simp [hi', hi2, hi, hx, hw2, brow]
    refine ⟨c * 256 + x.toNat, ?_, hj, by rw [Nat.pow_succ]; omega⟩
    have e1 : ((c : Int) * 256) = ((c * 256 : Nat) : Int) := by simp
    rw [e1, wrap_u32_lt (show c * 256 < 4294967296 by omega), wrap_u32_lt (show x.toNat < 4294967296 by omega)]
    have e2 : (((c * 256 : Nat) : Int) % 4294967296).toNat = c * 256 := by omega
    have e3 : ((x.toNat : Int) % 4294967296).toNat = x.toNat := by omega
    rw [e2, e3, shl_or (by omega)]
    exact wrap_u32_lt (by omega)
  · rintro c ⟨hj, hc⟩
    have hc2 : c = beN xs 0 := by simpa [beN] using hj
    simp [hf4, hw4, hc2]
end Go.Sc.Oct
