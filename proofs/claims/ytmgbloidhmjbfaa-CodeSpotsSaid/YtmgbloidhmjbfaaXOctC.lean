/- Bytes: numbers with signs, by both texts. No condition. -/
import Derived.Test.YtmgbloidhmjbfaaXOctB
import Derived.Test.YtmgbloidhmjbfaaXScCode
set_option linter.constructorNameAsVariable false
namespace Go.Sc.Oct
open Go.Sc.Cw
open Go Go.RowKit Go.Av Go.Proofs
set_option linter.unusedSimpArgs false
set_option linter.unusedVariables false
/-- scarab/octet.Zig -/
def c147 : ACode :=
  (.seq (.reg none [⟨some 2, none, .q (.mv (.c (.i .u64 0)))⟩])
  (.keep [0]
  (.seq (.reg none [⟨some 3, none, .q (.mv (.t 0))⟩, ⟨some 4, none, .q (.bin .shl (.t 3) (.c (.i .u64 1)))⟩, ⟨some 5, none, .q (.cvi .u64 (.t 4))⟩, ⟨some 6, none, .q (.mv (.t 0))⟩, ⟨some 7, none, .q (.bin .shr (.t 6) (.c (.i .u64 63)))⟩, ⟨some 8, none, .q (.cvi .u64 (.t 7))⟩, ⟨some 9, none, .q (.bin .xor (.t 5) (.t 8))⟩, ⟨some 2, none, .q (.mv (.t 9))⟩])
  .ret)))
theorem r147 : (Try.f147.body.bind (resC Try.prog Try.f147.ntmps)) = some (strip c147) := by kernel_rfl
theorem s147 : Try.f147.results.toList.mapM (resRes Try.prog) = some [.t 2] := by kernel_rfl
/-- scarab/octet.Zag -/
def c159 : ACode :=
  (.seq (.reg none [⟨some 2, none, .q (.mv (.c (.i .i64 0)))⟩])
  (.keep [0]
  (.seq (.reg none [⟨some 3, none, .q (.mv (.t 0))⟩, ⟨some 4, none, .q (.bin .shr (.t 3) (.c (.i .u64 1)))⟩, ⟨some 5, none, .q (.cvi .i64 (.t 4))⟩, ⟨some 6, none, .q (.mv (.t 0))⟩, ⟨some 7, none, .q (.bin .and (.t 6) (.c (.i .u64 1)))⟩, ⟨some 8, none, .q (.cvi .i64 (.t 7))⟩, ⟨some 9, none, .q (.un .neg (.t 8))⟩, ⟨some 10, none, .q (.bin .xor (.t 5) (.t 9))⟩, ⟨some 2, none, .q (.mv (.t 10))⟩])
  .ret)))
theorem r159 : (Try.f159.body.bind (resC Try.prog Try.f159.ntmps)) = some (strip c159) := by kernel_rfl
theorem s159 : Try.f159.results.toList.mapM (resRes Try.prog) = some [.t 2] := by kernel_rfl
/-- scarab/octet.PutInt -/
def c114 : ACode :=
  (.seq (.reg none [⟨some 4, none, .q (.mv (.c .nil))⟩])
  (.keep [0, 1]
  (.seq (.reg none [⟨some 5, none, .q (.mv (.t 0))⟩, ⟨some 6, none, .q (.mv (.t 1))⟩, ⟨some 7, none, .call (.f 147) [(.t 6)]⟩, ⟨some 8, none, .call (.f 146) [(.t 5), (.t 7)]⟩, ⟨some 4, none, .q (.mv (.t 8))⟩])
  .ret)))
theorem r114 : (Try.f114.body.bind (resC Try.prog Try.f114.ntmps)) = some (strip c114) := by kernel_rfl
theorem s114 : Try.f114.results.toList.mapM (resRes Try.prog) = some [.t 4] := by kernel_rfl
/-- scarab/octet.GetInt -/
def c149 : ACode :=
  (.seq (.reg none [⟨some 4, none, .q (.mv (.c (.i .i64 0)))⟩, ⟨some 5, none, .q (.mv (.c (.i .i64 0)))⟩, ⟨some 6, none, .q (.mv (.c (.i .i64 0)))⟩])
  (.keep [0, 1]
  (.seq (.reg none [⟨some 11, none, .q (.mv (.t 0))⟩, ⟨some 12, none, .q (.mv (.t 1))⟩, ⟨some 13, none, .call (.f 148) [(.t 11), (.t 12)]⟩, ⟨some 10, none, .q (.mv (.t 13))⟩, ⟨some 14, none, .q (.ext 0 (.t 10))⟩, ⟨some 15, none, .q (.ext 1 (.t 10))⟩, ⟨some 16, none, .q (.ext 2 (.t 10))⟩, ⟨some 7, none, .q (.mv (.t 14))⟩, ⟨some 8, none, .q (.mv (.t 15))⟩, ⟨some 9, none, .q (.mv (.t 16))⟩])
  (.keep [7, 8, 9]
  (.seq (.reg none [⟨some 17, none, .q (.mv (.t 7))⟩, ⟨some 18, none, .call (.f 159) [(.t 17)]⟩, ⟨some 19, none, .q (.mv (.t 8))⟩, ⟨some 20, none, .q (.mv (.t 9))⟩, ⟨some 4, none, .q (.mv (.t 18))⟩, ⟨some 5, none, .q (.mv (.t 19))⟩, ⟨some 6, none, .q (.mv (.t 20))⟩])
  .ret)))))
theorem r149 : (Try.f149.body.bind (resC Try.prog Try.f149.ntmps)) = some (strip c149) := by kernel_rfl
theorem s149 : Try.f149.results.toList.mapM (resRes Try.prog) = some [.t 4, .t 5, .t 6] := by kernel_rfl
/-- scarab/scarabref01.Zig -/
def c158 : ACode :=
  (.seq (.reg none [⟨some 2, none, .q (.mv (.c (.i .u64 0)))⟩])
  (.keep [0]
  (.seq (.seq (.reg none [⟨some 3, none, .q (.mv (.t 0))⟩, ⟨some 4, none, .q (.bin .lss (.t 3) (.c (.i .i64 0)))⟩])
    (.keep [0, 4]
    (.cond (.t 4) (.seq (.reg none [⟨some 5, none, .q (.mv (.t 0))⟩, ⟨some 6, none, .q (.bin .add (.t 5) (.c (.i .i64 1)))⟩, ⟨some 7, none, .q (.un .neg (.t 6))⟩, ⟨some 8, none, .q (.cvi .u64 (.t 7))⟩, ⟨some 9, none, .q (.bin .mul (.c (.i .u64 2)) (.t 8))⟩, ⟨some 10, none, .q (.bin .add (.t 9) (.c (.i .u64 1)))⟩, ⟨some 2, none, .q (.mv (.t 10))⟩])
      .ret)
    .skip)))
  (.seq (.reg none [⟨some 11, none, .q (.mv (.t 0))⟩, ⟨some 12, none, .q (.cvi .u64 (.t 11))⟩, ⟨some 13, none, .q (.bin .mul (.c (.i .u64 2)) (.t 12))⟩, ⟨some 2, none, .q (.mv (.t 13))⟩])
  .ret))))
theorem r158 : (Try.f158.body.bind (resC Try.prog Try.f158.ntmps)) = some (strip c158) := by kernel_rfl
theorem s158 : Try.f158.results.toList.mapM (resRes Try.prog) = some [.t 2] := by kernel_rfl
/-- scarab/scarabref01.PutInt -/
def c139 : ACode :=
  (.seq (.reg none [⟨some 4, none, .q (.mv (.c .nil))⟩])
  (.keep [0, 1]
  (.seq (.reg none [⟨some 5, none, .q (.mv (.t 0))⟩, ⟨some 6, none, .q (.mv (.t 1))⟩, ⟨some 7, none, .call (.f 158) [(.t 6)]⟩, ⟨some 8, none, .call (.f 137) [(.t 5), (.t 7)]⟩, ⟨some 4, none, .q (.mv (.t 8))⟩])
  .ret)))
theorem r139 : (Try.f139.body.bind (resC Try.prog Try.f139.ntmps)) = some (strip c139) := by kernel_rfl
theorem s139 : Try.f139.results.toList.mapM (resRes Try.prog) = some [.t 4] := by kernel_rfl
theorem xor_ones64 (n : Nat) (h : n < 18446744073709551616) : n ^^^ 18446744073709551615 = 18446744073709551615 - n := by
  have h1 : (BitVec.allOnes 64 ^^^ BitVec.ofNat 64 n).toNat = (~~~ BitVec.ofNat 64 n).toNat := by rw [BitVec.allOnes_xor]
  rw [BitVec.toNat_not, BitVec.toNat_xor, BitVec.toNat_ofNat, BitVec.toNat_allOnes] at h1
  rw [Nat.mod_eq_of_lt (by omega)] at h1
  rw [Nat.xor_comm]
  simpa using h1

theorem zigO (x : Int) (h : I64 x) : PureS Try.prog 147 [.i .i64 x] (.i .u64 (zigN x : Int)) := by
  refine fun_go hmx Try.func147 r147 s147 (by rw [Try.ntmps147]; simp) ?_
  unfold c147
  simp
  obtain ⟨h1, h2⟩ := h
  have e1 : (IntKind.u64.wrap (IntKind.i64.wrap (x * 2)) % 18446744073709551616).toNat = ((x * 2) % 18446744073709551616).toNat := by
    rw [IntKind.wrap_u64, IntKind.wrap_i64]; omega
  rw [e1]
  unfold zigN
  by_cases hx : x < 0
  · have e2 : x.fdiv 9223372036854775808 = -1 := by rw [Int.fdiv_eq_ediv_of_nonneg _ (by decide)]; omega
    rw [e2, if_pos hx]
    have e3 : (IntKind.u64.wrap (-1) % 18446744073709551616).toNat = 18446744073709551615 := by decide
    rw [e3, xor_ones64 _ (by omega), wrap_u64_lt (by omega)]
    omega
  · have e2 : x.fdiv 9223372036854775808 = 0 := by rw [Int.fdiv_eq_ediv_of_nonneg _ (by decide)]; omega
    rw [e2, if_neg hx]
    have e3 : (IntKind.u64.wrap 0 % 18446744073709551616).toNat = 0 := by decide
    rw [e3, Nat.xor_zero, wrap_u64_lt (by omega)]
    omega
theorem zagO (x : Nat) (h : x < 18446744073709551616) : PureS Try.prog 159 [.i .u64 (x : Int)] (.i .i64 (zagN x)) := by
  refine fun_go hmx Try.func159 r159 s159 (by rw [Try.ntmps159]; simp) ?_
  unfold c159
  simp
  have e0 : (x : Int).fdiv 2 = ((x / 2 : Nat) : Int) := fdiv_lit x 2
  have e1 : (IntKind.i64.wrap ((x / 2 : Nat) : Int) % 18446744073709551616).toNat = x / 2 := by
    rw [IntKind.wrap_i64]; omega
  rw [e0, e1]
  unfold zagN
  by_cases ho : x % 2 = 1
  · have e2 : (x : Int) % 2 = 1 := by omega
    rw [e2, if_pos ho]
    have e3 : (IntKind.i64.wrap (-IntKind.i64.wrap (IntKind.u64.wrap 1)) % 18446744073709551616).toNat = 18446744073709551615 := by decide
    rw [e3, xor_ones64 _ (by omega), IntKind.wrap_i64]
    omega
  · have e2 : (x : Int) % 2 = 0 := by omega
    rw [e2, if_neg ho]
    have e3 : (IntKind.i64.wrap (-IntKind.i64.wrap (IntKind.u64.wrap 0)) % 18446744073709551616).toNat = 0 := by decide
    rw [e3, Nat.xor_zero, IntKind.wrap_i64]
    omega
theorem zigR (x : Int) (h : I64 x) : PureS Try.prog 158 [.i .i64 x] (.i .u64 (zigN x : Int)) := by
  refine fun_go hmx Try.func158 r158 s158 (by rw [Try.ntmps158]; simp) ?_
  unfold c158
  simp
  obtain ⟨h1, h2⟩ := h
  unfold zigN
  refine ⟨fun hx => ?_, fun hx => ?_⟩
  · rw [if_pos hx, wrap_in (n := x + 1) (by omega) (by omega), wrap_in (by omega) (by omega)]
    have e1 : -(x + 1) = (((-(x + 1)).toNat : Nat) : Int) := by omega
    rw [e1, wrap_u64_lt (by omega)]
    have e2 : (2 : Int) * (((-(x + 1)).toNat : Nat) : Int) = ((2 * (-(x + 1)).toNat : Nat) : Int) := by omega
    rw [e2, wrap_u64_lt (by omega)]
    have e3 : ((2 * (-(x + 1)).toNat : Nat) : Int) + 1 = ((2 * (-(x + 1)).toNat + 1 : Nat) : Int) := by omega
    rw [e3, wrap_u64_lt (by omega)]
    omega
  · rw [if_neg (by omega)]
    have e1 : x = ((x.toNat : Nat) : Int) := by omega
    have e2 : IntKind.u64.wrap x = ((x.toNat : Nat) : Int) := by rw [IntKind.wrap_u64]; omega
    rw [e2]
    have e3 : (2 : Int) * ((x.toNat : Nat) : Int) = ((2 * x.toNat : Nat) : Int) := by omega
    rw [e3, wrap_u64_lt (by omega)]
    omega
theorem putIO (b : List UInt8) (x : Int) (hb : b.length < 1099511627776) (h : I64 x) : Own1 Try.prog 114 [.sl 1 (b.map brow), .i .i64 x] 1 ((b ++ putN (zigN x)).map brow) := by
  refine fun_sel [0] hmx Try.func114 r114 s114 (by rw [Try.ntmps114]; simp) (by simp) (by simp) ?_
  unfold c114
  simp
  refine callk rfl Try.call147 (zigO x h) rfl ?_
  simp
  refine callo rfl Try.call146 (putO b (zigN x) hb (zig_lt h)) (flat_rows brow_flat) (by simp) ?_
  simp
theorem putIR (b : List UInt8) (x : Int) (hb : b.length < 1099511627776) (h : I64 x) : Own1 Try.prog 139 [.sl 1 (b.map brow), .i .i64 x] 1 ((b ++ putN (zigN x)).map brow) := by
  refine fun_sel [0] hmx Try.func139 r139 s139 (by rw [Try.ntmps139]; simp) (by simp) (by simp) ?_
  unfold c139
  simp
  refine callk rfl Try.call158 (zigR x h) rfl ?_
  simp
  refine callo rfl Try.call137 (putR b (zigN x) hb (zig_lt h)) (flat_rows brow_flat) (by simp) ?_
  simp
end Go.Sc.Oct
