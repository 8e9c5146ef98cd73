/- Bytes: numbers put behind bytes and read again, by both texts. No condition. -/
import Derived.Test.YtlolloejmdgkjaaProg
import Derived.Test.YtlolloejmdgkjaaXWd
set_option linter.constructorNameAsVariable false
namespace Go.Sc.Oct
open Go Go.RowKit Go.Av Go.Proofs
set_option linter.unusedSimpArgs false
set_option linter.unusedVariables false
theorem hmx : Try.prog.follows .mixedOrders = true := by kernel_rfl
/-- scarab/octet.Put -/
def c21 : ACode :=
  (.seq (.reg none [⟨some 4, none, .q (.mv (.c .nil))⟩])
  (.keep [0, 1]
  (.seq (.reg none [⟨some 6, none, .q (.mv (.t 0))⟩, ⟨some 7, none, .q (.len false (.t 6))⟩, ⟨some 8, none, .q (.bin .add (.t 7) (.c (.i .i64 10)))⟩, ⟨some 9, none, .m (.mks 1 1 [(.i .u8 0)] (.c (.i .i64 0)) (.t 8))⟩, ⟨some 10, none, .q (.mv (.t 0))⟩, ⟨some 11, none, .m (.app 1 1 (.t 9) (.t 10))⟩, ⟨some 5, none, .q (.mv (.t 11))⟩])
  (.keep [1, 5]
  (.seq (.blk 0 (.keep [1, 5]
    (.loop (.fin [1, 5]
      (.seq (.seq (.reg none [⟨some 12, none, .q (.mv (.t 1))⟩, ⟨some 13, none, .q (.bin .geq (.t 12) (.c (.i .u64 128)))⟩])
        (.keep [1, 5, 13]
        (.cond (.t 13) .skip
        (.exit 0))))
      (.seq (.blk 1 (.reg none [⟨some 16, none, .q (.mv (.t 5))⟩, ⟨some 17, none, .q (.mv (.t 1))⟩, ⟨some 18, none, .q (.cvi .u8 (.t 17))⟩, ⟨some 19, none, .q (.bin .or (.t 18) (.c (.i .u8 128)))⟩, ⟨some 20, none, .m (.bsl 1 1 [(.i .u8 0)] [(0, 1, .t 19)])⟩, ⟨some 21, none, .m (.app 1 1 (.t 16) (.t 20))⟩, ⟨some 5, none, .q (.mv (.t 21))⟩]))
      (.keep [1, 5]
      (.reg none [⟨some 14, none, .q (.mv (.t 1))⟩, ⟨some 15, none, .q (.bin .shr (.t 14) (.c (.i .u64 7)))⟩, ⟨some 1, none, .q (.mv (.t 15))⟩]))))))))
  (.keep [1, 5]
  (.seq (.reg none [⟨some 22, none, .q (.mv (.t 5))⟩, ⟨some 23, none, .q (.mv (.t 1))⟩, ⟨some 24, none, .q (.cvi .u8 (.t 23))⟩, ⟨some 25, none, .m (.bsl 1 1 [(.i .u8 0)] [(0, 1, .t 24)])⟩, ⟨some 26, none, .m (.app 1 1 (.t 22) (.t 25))⟩, ⟨some 4, none, .q (.mv (.t 26))⟩])
  .ret)))))))
theorem r21 : (Try.f21.body.bind (resC Try.prog Try.f21.ntmps)) = some (strip c21) := by kernel_rfl
theorem s21 : Try.f21.results.toList.mapM (resRes Try.prog) = some [.t 4] := by kernel_rfl
/-- scarab/scarabref01.Bytes -/
def c40 : ACode :=
  (.seq (.reg none [⟨some 2, none, .q (.mv (.c .nil))⟩])
  (.keep [0]
  (.seq (.reg none [⟨some 3, none, .q (.mv (.c .nil))⟩])
  (.gst (.nilT 3 1)
  (.keep [0, 3]
  (.seq (.blk 0 (.keep [0, 3]
    (.loop (.fin [0, 3]
      (.seq (.seq (.reg none [⟨some 4, none, .q (.mv (.t 0))⟩, ⟨some 5, none, .q (.bin .geq (.t 4) (.c (.i .u64 128)))⟩])
        (.keep [0, 3, 5]
        (.cond (.t 5) .skip
        (.exit 0))))
      (.blk 1 (.seq (.reg none [⟨some 6, none, .q (.mv (.t 3))⟩, ⟨some 7, none, .q (.mv (.t 0))⟩, ⟨some 8, none, .q (.bin .rem (.t 7) (.c (.i .u64 128)))⟩, ⟨some 9, none, .q (.cvi .u8 (.t 8))⟩, ⟨some 10, none, .q (.bin .add (.t 9) (.c (.i .u8 128)))⟩, ⟨some 11, none, .m (.bsl 1 1 [(.i .u8 0)] [(0, 1, .t 10)])⟩, ⟨some 12, none, .m (.app 1 1 (.t 6) (.t 11))⟩, ⟨some 3, none, .q (.mv (.t 12))⟩])
      (.keep [0, 3]
      (.reg none [⟨some 13, none, .q (.mv (.t 0))⟩, ⟨some 14, none, .q (.bin .quo (.t 13) (.c (.i .u64 128)))⟩, ⟨some 0, none, .q (.mv (.t 14))⟩])))))))))
  (.keep [0, 3]
  (.seq (.reg none [⟨some 15, none, .q (.mv (.t 3))⟩, ⟨some 16, none, .q (.mv (.t 0))⟩, ⟨some 17, none, .q (.cvi .u8 (.t 16))⟩, ⟨some 18, none, .m (.bsl 1 1 [(.i .u8 0)] [(0, 1, .t 17)])⟩, ⟨some 19, none, .m (.app 1 1 (.t 15) (.t 18))⟩, ⟨some 2, none, .q (.mv (.t 19))⟩])
  .ret))))))))
theorem r40 : (Try.f40.body.bind (resC Try.prog Try.f40.ntmps)) = some (strip c40) := by kernel_rfl
theorem s40 : Try.f40.results.toList.mapM (resRes Try.prog) = some [.t 2] := by kernel_rfl
/-- scarab/scarabref01.Put -/
def c25 : ACode :=
  (.seq (.reg none [⟨some 4, none, .q (.mv (.c .nil))⟩])
  (.keep [0, 1]
  (.seq (.reg none [⟨some 5, none, .q (.mv (.c .nil))⟩])
  (.gst (.nilT 5 1)
  (.keep [0, 1, 5]
  (.seq (.reg none [⟨some 6, none, .q (.mv (.t 5))⟩, ⟨some 7, none, .q (.mv (.t 0))⟩, ⟨some 8, none, .m (.app 1 1 (.t 6) (.t 7))⟩, ⟨some 5, none, .q (.mv (.t 8))⟩])
  (.keep [1, 5]
  (.seq (.reg none [⟨some 9, none, .q (.mv (.t 5))⟩, ⟨some 10, none, .q (.mv (.t 1))⟩, ⟨some 11, none, .call (.f 40) [(.t 10)]⟩, ⟨some 12, none, .m (.app 1 1 (.t 9) (.t 11))⟩, ⟨some 4, none, .q (.mv (.t 12))⟩])
  .ret))))))))
theorem r25 : (Try.f25.body.bind (resC Try.prog Try.f25.ntmps)) = some (strip c25) := by kernel_rfl
theorem s25 : Try.f25.results.toList.mapM (resRes Try.prog) = some [.t 4] := by kernel_rfl

theorem putO (b : List UInt8) (x : Nat) (hb : b.length < 1099511627776) (hx : x < 18446744073709551616) : Own1 Try.prog 21 [.sl 1 (b.map brow), .i .u64 (x : Int)] 1 ((b ++ putN x).map brow) := by
  refine fun_sel [0] hmx Try.func21 r21 s21 (by rw [Try.ntmps21]; simp) (by simp) (by simp) ?_
  unfold c21
  have hw : IntKind.i64.wrap ((b.length : Int) + 10) = (b.length : Int) + 10 := wrap_in (by omega) (by omega)
  simp [hw]
  refine ⟨⟨by omega, by omega, by omega⟩, ⟨by omega, by omega⟩, ?_⟩
  refine go_while hmx 1 (fun (s : List UInt8 × Nat × Nat) => [(1, .v (.i .u64 (s.2.1 : Int))), (5, .os 0 s.2.2)]) (fun s => [.arr s.2.2 1 (vrows (s.1.map brow))]) (fun s => s.1 ++ putN s.2.1 = b ++ putN x ∧ s.2.1 < 18446744073709551616) (fun s => s.2.1) (b, x, 1) rfl rfl rfl (by simp) (by simp) (by simp) ⟨rfl, hx⟩ ?_
  rintro ⟨acc, y, v⟩ ⟨hj, hy⟩
  simp only at hj hy
  have hl : acc.length + (putN y).length = b.length + (putN x).length := by simpa using congrArg List.length hj
  have h10 := putN_ten hx
  have hp := putN_pos y
  simp
  refine ⟨fun h => ⟨⟨by omega, by omega⟩, acc ++ [UInt8.ofNat (y % 128 + 128)], y / 128, v + 1, ⟨fdiv_7 y, rfl⟩, ⟨rfl, vsnoc acc _ ?_⟩, ⟨?_, by omega⟩, by omega⟩, fun h => ⟨⟨by omega, by omega⟩, ?_⟩⟩
  · rw [u8_toNat (by omega), wrap_u8_mod y, or_128', Int.toNat_natCast]
    rw [or_byte, wrap_u8_lt (by omega)]
  · rw [List.append_assoc, ← hj]
    congr 1
    rw [putN.eq_1 y, if_neg (by omega)]
    rfl
  · rw [putN.eq_1 y, if_pos (by omega)] at hj
    rw [← List.map_append, ← hj, wrap_u8_lt (by omega)]
    exact vsnoc acc _ (by rw [u8_toNat (by omega)])

theorem bytesO (x : Nat) (hx : x < 18446744073709551616) : Own1 Try.prog 40 [.i .u64 (x : Int)] 1 ((putN x).map brow) := by
  refine fun_sel [0] hmx Try.func40 r40 s40 (by rw [Try.ntmps40]; simp) (by simp) (by simp) ?_
  unfold c40
  simp
  refine go_while hmx 1 (fun (s : List UInt8 × Nat × Nat) => [(0, .v (.i .u64 (s.2.1 : Int))), (3, .os 0 s.2.2)]) (fun s => [.arr s.2.2 1 (vrows (s.1.map brow))]) (fun s => s.1 ++ putN s.2.1 = putN x ∧ s.2.1 < 18446744073709551616) (fun s => s.2.1) ([], x, 0) rfl rfl rfl (by simp) (by simp) (by simp) ⟨rfl, hx⟩ ?_
  rintro ⟨acc, y, v⟩ ⟨hj, hy⟩
  simp only at hj hy
  have hl : acc.length + (putN y).length = (putN x).length := by simpa using congrArg List.length hj
  have h10 := putN_ten hx
  have hp := putN_pos y
  simp
  have hr : (y : Int).tmod 128 = ((y % 128 : Nat) : Int) := by rw [Int.tmod_eq_emod_of_nonneg (by omega)]; omega
  have hq : (y : Int) / 128 = ((y / 128 : Nat) : Int) := by omega
  rw [hr, hq, wrap_u64_lt (by omega)]
  refine ⟨fun h => ⟨⟨by omega, by omega⟩, acc ++ [UInt8.ofNat (y % 128 + 128)], y / 128, v + 1, ⟨rfl, rfl⟩, ⟨rfl, vsnoc acc _ ?_⟩, ⟨?_, by omega⟩, by omega⟩, fun h => ⟨⟨by omega, by omega⟩, ?_⟩⟩
  · rw [u8_toNat (by omega), wrap_u8_lt (by omega)]
    exact wrap_u8_lt (n := y % 128 + 128) (by omega)
  · rw [List.append_assoc, ← hj]
    congr 1
    rw [putN.eq_1 y, if_neg (by omega)]
    rfl
  · rw [putN.eq_1 y, if_pos (by omega)] at hj
    rw [← hj, wrap_u8_lt (by omega)]
    exact vsnoc acc _ (by rw [u8_toNat (by omega)])

theorem putR (b : List UInt8) (x : Nat) (hb : b.length < 1099511627776) (hx : x < 18446744073709551616) : Own1 Try.prog 25 [.sl 1 (b.map brow), .i .u64 (x : Int)] 1 ((b ++ putN x).map brow) := by
  refine fun_sel [0] hmx Try.func25 r25 s25 (by rw [Try.ntmps25]; simp) (by simp) (by simp) ?_
  unfold c25
  have h10 := putN_ten hx
  simp
  refine ⟨⟨by omega, by omega⟩, ?_⟩
  refine callk rfl Try.call40 (bytesO x hx).pure rfl ?_
  simp
  omega

/-- scarab/octet.Fixed -/
def c20 : ACode :=
  (.seq (.reg none [⟨some 2, none, .m (.alloc (.g [(.i .u8 0), (.i .u8 0), (.i .u8 0), (.i .u8 0)]))⟩])
  (.keep [0, 2]
  (.seq (.reg none [⟨some 3, none, .q (.mv (.t 0))⟩, ⟨some 4, none, .q (.bin .shr (.t 3) (.c (.i .u64 24)))⟩, ⟨some 5, none, .q (.cvi .u8 (.t 4))⟩, ⟨some 6, none, .q (.mv (.t 0))⟩, ⟨some 7, none, .q (.bin .shr (.t 6) (.c (.i .u64 16)))⟩, ⟨some 8, none, .q (.cvi .u8 (.t 7))⟩, ⟨some 9, none, .q (.mv (.t 0))⟩, ⟨some 10, none, .q (.bin .shr (.t 9) (.c (.i .u64 8)))⟩, ⟨some 11, none, .q (.cvi .u8 (.t 10))⟩, ⟨some 12, none, .q (.mv (.t 0))⟩, ⟨some 13, none, .q (.cvi .u8 (.t 12))⟩, ⟨some 14, none, .q (.bld [(.i .u8 0), (.i .u8 0), (.i .u8 0), (.i .u8 0)] [(0, 1, .t 5), (1, 1, .t 8), (2, 1, .t 11), (3, 1, .t 13)])⟩, ⟨none, none, .m (.st 4 (.t 2) (.t 14))⟩])
  .ret)))
theorem r20 : (Try.f20.body.bind (resC Try.prog Try.f20.ntmps)) = some (strip c20) := by kernel_rfl
theorem s20 : Try.f20.results.toList.mapM (resRes Try.prog) = some [.c 2 (some 4)] := by kernel_rfl
/-- scarab/scarabref01.Fixed -/
def c23 : ACode :=
  (.seq (.reg none [⟨some 2, none, .m (.alloc (.g [(.i .u8 0), (.i .u8 0), (.i .u8 0), (.i .u8 0)]))⟩])
  (.keep [0, 2]
  (.seq (.reg none [⟨some 3, none, .q (.mv (.t 0))⟩, ⟨some 4, none, .q (.bin .quo (.t 3) (.c (.i .u32 16777216)))⟩, ⟨some 5, none, .q (.cvi .u8 (.t 4))⟩, ⟨some 6, none, .q (.mv (.t 0))⟩, ⟨some 7, none, .q (.bin .quo (.t 6) (.c (.i .u32 65536)))⟩, ⟨some 8, none, .q (.bin .rem (.t 7) (.c (.i .u32 256)))⟩, ⟨some 9, none, .q (.cvi .u8 (.t 8))⟩, ⟨some 10, none, .q (.mv (.t 0))⟩, ⟨some 11, none, .q (.bin .quo (.t 10) (.c (.i .u32 256)))⟩, ⟨some 12, none, .q (.bin .rem (.t 11) (.c (.i .u32 256)))⟩, ⟨some 13, none, .q (.cvi .u8 (.t 12))⟩, ⟨some 14, none, .q (.mv (.t 0))⟩, ⟨some 15, none, .q (.bin .rem (.t 14) (.c (.i .u32 256)))⟩, ⟨some 16, none, .q (.cvi .u8 (.t 15))⟩, ⟨some 17, none, .q (.bld [(.i .u8 0), (.i .u8 0), (.i .u8 0), (.i .u8 0)] [(0, 1, .t 5), (1, 1, .t 9), (2, 1, .t 13), (3, 1, .t 16)])⟩, ⟨none, none, .m (.st 4 (.t 2) (.t 17))⟩])
  .ret)))
theorem r23 : (Try.f23.body.bind (resC Try.prog Try.f23.ntmps)) = some (strip c23) := by kernel_rfl
theorem s23 : Try.f23.results.toList.mapM (resRes Try.prog) = some [.c 2 (some 4)] := by kernel_rfl
/-- scarab/octet.Sum -/
def c22 : ACode :=
  (.seq (.reg none [⟨some 2, none, .q (.mv (.c (.i .u32 0)))⟩])
  (.keep [0]
  (.seq (.reg none [⟨some 3, none, .q (.mv (.c (.i .u32 4294967295)))⟩])
  (.keep [0, 3]
  (.seq (.seq (.reg none [⟨some 6, none, .q (.mv (.t 0))⟩, ⟨some 7, none, .q (.len false (.t 6))⟩, ⟨some 8, none, .q (.mv (.c (.i .i64 0)))⟩])
    (.keep [3, 6, 7, 8]
    (.blk 0 (.keep [3, 6, 7, 8]
    (.loop (.fin [3, 6, 7, 8]
      (.seq (.reg none [⟨some 9, none, .q (.bin .lss (.t 8) (.t 7))⟩])
      (.keep [3, 6, 7, 8, 9]
      (.seq (.cond (.t 9) .skip
        (.exit 0))
      (.seq (.blk 1 (.seq (.reg none [⟨some 10, none, .q (.ias 1 (.t 6) (.t 8))⟩, ⟨some 11, none, .q (.ld none (.t 10))⟩, ⟨some 5, none, .q (.mv (.t 11))⟩])
        (.keep [3, 5, 6, 7, 8]
        (.seq (.reg none [⟨some 12, none, .q (.mv (.t 3))⟩, ⟨some 13, none, .q (.mv (.t 5))⟩, ⟨some 14, none, .q (.cvi .u32 (.t 13))⟩, ⟨some 15, none, .q (.bin .xor (.t 12) (.t 14))⟩, ⟨some 3, none, .q (.mv (.t 15))⟩])
        (.keep [3, 6, 7, 8]
        (.seq (.reg none [⟨some 16, none, .q (.mv (.c (.i .i64 0)))⟩])
        (.keep [3, 6, 7, 8, 16]
        (.blk 2 (.keep [3, 6, 7, 8, 16]
        (.loop (.fin [3, 6, 7, 8, 16]
          (.seq (.reg none [⟨some 17, none, .q (.bin .lss (.t 16) (.c (.i .i64 8)))⟩])
          (.keep [3, 6, 7, 8, 16, 17]
          (.seq (.cond (.t 17) .skip
            (.exit 2))
          (.seq (.blk 3 (.reg none [⟨some 18, none, .q (.mv (.t 3))⟩, ⟨some 19, none, .q (.bin .shr (.t 18) (.c (.i .u64 1)))⟩, ⟨some 20, none, .q (.mv (.t 3))⟩, ⟨some 21, none, .q (.bin .and (.t 20) (.c (.i .u32 1)))⟩, ⟨some 22, none, .q (.un .neg (.t 21))⟩, ⟨some 23, none, .q (.bin .and (.c (.i .u32 3988292384)) (.t 22))⟩, ⟨some 24, none, .q (.bin .xor (.t 19) (.t 23))⟩, ⟨some 3, none, .q (.mv (.t 24))⟩]))
          (.keep [3, 6, 7, 8, 16]
          (.reg none [⟨some 25, none, .q (.bin .add (.t 16) (.c (.i .i64 1)))⟩, ⟨some 16, none, .q (.mv (.t 25))⟩])))))))))))))))))
      (.keep [3, 6, 7, 8]
      (.reg none [⟨some 26, none, .q (.bin .add (.t 8) (.c (.i .i64 1)))⟩, ⟨some 8, none, .q (.mv (.t 26))⟩]))))))))))))
  (.seq (.reg none [⟨some 27, none, .q (.mv (.t 3))⟩, ⟨some 28, none, .q (.un .xor (.t 27))⟩, ⟨some 2, none, .q (.mv (.t 28))⟩])
  .ret))))))
theorem r22 : (Try.f22.body.bind (resC Try.prog Try.f22.ntmps)) = some (strip c22) := by kernel_rfl
theorem s22 : Try.f22.results.toList.mapM (resRes Try.prog) = some [.t 2] := by kernel_rfl
/-- scarab/scarabref01.Sum -/
def c26 : ACode :=
  (.seq (.reg none [⟨some 2, none, .q (.mv (.c (.i .u32 0)))⟩])
  (.keep [0]
  (.seq (.reg none [⟨some 3, none, .q (.mv (.c (.i .u32 4294967295)))⟩])
  (.keep [0, 3]
  (.seq (.seq (.reg none [⟨some 4, none, .q (.mv (.c (.i .i64 0)))⟩])
    (.keep [0, 3, 4]
    (.blk 0 (.keep [0, 3, 4]
    (.loop (.fin [0, 3, 4]
      (.seq (.seq (.reg none [⟨some 7, none, .q (.mv (.t 4))⟩, ⟨some 8, none, .q (.mv (.t 0))⟩, ⟨some 9, none, .q (.len false (.t 8))⟩, ⟨some 10, none, .q (.bin .lss (.t 7) (.t 9))⟩])
        (.keep [0, 3, 4, 10]
        (.cond (.t 10) .skip
        (.exit 0))))
      (.seq (.blk 1 (.seq (.reg none [⟨some 13, none, .q (.mv (.t 3))⟩, ⟨some 14, none, .q (.mv (.t 0))⟩, ⟨some 15, none, .q (.mv (.t 4))⟩, ⟨some 16, none, .q (.ias 1 (.t 14) (.t 15))⟩, ⟨some 17, none, .q (.ld none (.t 16))⟩, ⟨some 18, none, .q (.cvi .u32 (.t 17))⟩, ⟨some 19, none, .q (.bin .xor (.t 13) (.t 18))⟩, ⟨some 3, none, .q (.mv (.t 19))⟩])
        (.keep [0, 3, 4]
        (.seq (.reg none [⟨some 5, none, .q (.mv (.c (.i .i64 0)))⟩])
        (.keep [0, 3, 4, 5]
        (.blk 2 (.keep [0, 3, 4, 5]
        (.loop (.fin [0, 3, 4, 5]
          (.seq (.seq (.reg none [⟨some 20, none, .q (.mv (.t 5))⟩, ⟨some 21, none, .q (.bin .lss (.t 20) (.c (.i .i64 8)))⟩])
            (.keep [0, 3, 4, 5, 21]
            (.cond (.t 21) .skip
            (.exit 2))))
          (.seq (.blk 3 (.seq (.reg none [⟨some 24, none, .q (.mv (.t 3))⟩, ⟨some 25, none, .q (.bin .rem (.t 24) (.c (.i .u32 2)))⟩, ⟨some 6, none, .q (.mv (.t 25))⟩])
            (.keep [0, 3, 4, 5, 6]
            (.seq (.reg none [⟨some 26, none, .q (.mv (.t 3))⟩, ⟨some 27, none, .q (.bin .quo (.t 26) (.c (.i .u32 2)))⟩, ⟨some 3, none, .q (.mv (.t 27))⟩])
            (.keep [0, 3, 4, 5, 6]
            (.seq (.reg none [⟨some 28, none, .q (.mv (.t 6))⟩, ⟨some 29, none, .q (.bin .eql (.t 28) (.c (.i .u32 1)))⟩])
            (.keep [0, 3, 4, 5, 29]
            (.cond (.t 29) (.reg none [⟨some 30, none, .q (.mv (.t 3))⟩, ⟨some 31, none, .q (.bin .xor (.t 30) (.c (.i .u32 3988292384)))⟩, ⟨some 3, none, .q (.mv (.t 31))⟩])
            .skip))))))))
          (.keep [0, 3, 4, 5]
          (.reg none [⟨some 22, none, .q (.mv (.t 5))⟩, ⟨some 23, none, .q (.bin .add (.t 22) (.c (.i .i64 1)))⟩, ⟨some 5, none, .q (.mv (.t 23))⟩])))))))))))))
      (.keep [0, 3, 4]
      (.reg none [⟨some 11, none, .q (.mv (.t 4))⟩, ⟨some 12, none, .q (.bin .add (.t 11) (.c (.i .i64 1)))⟩, ⟨some 4, none, .q (.mv (.t 12))⟩]))))))))))
  (.seq (.reg none [⟨some 32, none, .q (.mv (.t 3))⟩, ⟨some 33, none, .q (.bin .sub (.c (.i .u32 4294967295)) (.t 32))⟩, ⟨some 2, none, .q (.mv (.t 33))⟩])
  .ret))))))
theorem r26 : (Try.f26.body.bind (resC Try.prog Try.f26.ntmps)) = some (strip c26) := by kernel_rfl
theorem s26 : Try.f26.results.toList.mapM (resRes Try.prog) = some [.t 2] := by kernel_rfl
theorem fixO (x : Nat) (hx : x < 4294967296) : PureS Try.prog 20 [.i .u32 (x : Int)] (.g ((fixN x).map bval)) := by
  refine fun_go hmx Try.func20 r20 s20 (by rw [Try.ntmps20]; simp) ?_
  unfold c20
  simp [fixN, bval]
  have e1 := fdiv_lit x 16777216
  have e2 := fdiv_lit x 65536
  have e3 := fdiv_lit x 256
  simp only [Int.cast_ofNat_Int] at e1 e2 e3
  rw [e1, e2, e3, wrap_u8_mod, wrap_u8_mod, wrap_u8_mod, wrap_u8_mod]
  omega
theorem fixR (x : Nat) (hx : x < 4294967296) : PureS Try.prog 23 [.i .u32 (x : Int)] (.g ((fixN x).map bval)) := by
  refine fun_go hmx Try.func23 r23 s23 (by rw [Try.ntmps23]; simp) ?_
  unfold c23
  simp [fixN, bval]
  have q : ∀ d : Nat, (x : Int) / d = ((x / d : Nat) : Int) := fun d => by omega
  have r : ∀ n : Nat, (n : Int).tmod 256 = ((n % 256 : Nat) : Int) := fun n => by rw [Int.tmod_eq_emod_of_nonneg (by omega)]; omega
  have q1 := q 16777216
  have q2 := q 65536
  have q3 := q 256
  simp only [Int.cast_ofNat_Int] at q1 q2 q3
  rw [q1, q2, q3, wrap_u32_lt (show x / 16777216 < 4294967296 by omega), wrap_u32_lt (show x / 65536 < 4294967296 by omega), wrap_u32_lt (show x / 256 < 4294967296 by omega), r, r, r, wrap_u8_mod, wrap_u8_mod, wrap_u8_mod, wrap_u8_mod]
  omega

theorem sumO (bs : List UInt8) (hb : bs.length < 9223372036854775807) : PureS Try.prog 22 [.sl 1 (bs.map brow)] (.i .u32 (sumN bs : Int)) := by
  refine fun_go hmx Try.func22 r22 s22 (by rw [Try.ntmps22]; simp) ?_
  unfold c22
  simp
  refine go_each hmx 0 8 bs (fun (c : Nat) => [(3, .v (.i .u32 (c : Int)))]) (fun _ => []) (fun i c rest => crcL rest c = crcL bs 4294967295 ∧ c < 4294967296) 4294967295 hb rfl rfl rfl (by simp) (by simp) (by simp) ⟨rfl, by omega⟩ ?_ ?_
  · rintro i x rest c hi hx hr ⟨hj, hc⟩ hw
    simp [hi, hx, brow]
    have hxl := x.toNat_lt
    rw [wrap_u32_lt (show x.toNat < 4294967296 by omega)]
    have e0 : (((x.toNat : Nat) : Int) % 4294967296).toNat = x.toNat := by omega
    rw [e0, Nat.mod_eq_of_lt hc, wrap_u32_lt (xor_lt32 hc (by omega))]
    refine go_each hmx 0 16 (List.replicate 8 ()) (fun (c : Nat) => [(3, .v (.i .u32 (c : Int)))]) (fun _ => []) (fun i d rest => iter stepN rest.length d = crcB c x ∧ d < 4294967296) (c ^^^ x.toNat) (by simp) rfl rfl rfl (by simp) (by simp) (by simp) ⟨rfl, xor_lt32 hc (by omega)⟩ ?_ ?_
    · rintro k _ rest2 d hk _ hr2 ⟨hd, hd2⟩ hw2
      simp at hk
      have hk' : (k : Int) < 8 := by omega
      have hk2 : ¬ (8 : Int) ≤ k := by omega
      simp [hk', hk2, hw2]
      have e1 := fdiv_lit d 2
      simp only [Int.cast_ofNat_Int] at e1
      rw [e1]
      refine ⟨stepN d, ?_, hd, stepN_lt hd2⟩
      have e2 : (((d / 2 : Nat) : Int) % 4294967296).toNat = d / 2 := by omega
      rw [e2]
      by_cases ho : d % 2 = 1
      · have e3 : (d : Int) % 2 = 1 := by omega
        rw [e3, show IntKind.u32.wrap 1 = 1 from by decide, show IntKind.u32.wrap (-1) = 4294967295 from by decide]
        rw [stepN, if_pos ho]
        have e4 : (3988292384 &&& ((4294967295 : Int) % 4294967296).toNat) = 3988292384 := by decide
        rw [e4, show IntKind.u32.wrap ((3988292384 : Nat) : Int) = 3988292384 from by decide]
        exact wrap_u32_lt (xor_lt32 (by omega) (by omega))
      · have e3 : (d : Int) % 2 = 0 := by omega
        rw [e3, show IntKind.u32.wrap 0 = 0 from by decide, show IntKind.u32.wrap (-0) = 0 from by decide]
        rw [stepN, if_neg ho]
        have e4 : (3988292384 &&& ((0 : Int) % 4294967296).toNat) = 0 := by decide
        rw [e4, show IntKind.u32.wrap ((0 : Nat) : Int) = 0 from by decide]
        simp
        exact wrap_u32_lt (show d / 2 < 4294967296 by omega)
    · rintro d ⟨hd, hd2⟩
      simp
      exact ⟨d, ⟨rfl, hw⟩, by rw [← hj]; exact congrArg _ hd, hd2⟩
  · rintro c ⟨hj, hc⟩
    simp
    rw [Nat.mod_eq_of_lt hc, ones_xor hc, wrap_u32_lt (by omega)]
    simp only [crcL, List.foldl_nil] at hj
    rw [sumN, crcL, ← hj]

theorem sumR (bs : List UInt8) (hb : bs.length < 9223372036854775807) : PureS Try.prog 26 [.sl 1 (bs.map brow)] (.i .u32 (sumN bs : Int)) := by
  refine fun_go hmx Try.func26 r26 s26 (by rw [Try.ntmps26]; simp) ?_
  unfold c26
  simp
  refine go_each hmx 0 4 bs (fun (c : Nat) => [(3, .v (.i .u32 (c : Int)))]) (fun _ => []) (fun i c rest => crcL rest c = crcL bs 4294967295 ∧ c < 4294967296) 4294967295 hb rfl rfl rfl (by simp) (by simp) (by simp) ⟨rfl, by omega⟩ ?_ ?_
  · rintro i x rest c hi hx hr ⟨hj, hc⟩ hw
    simp [hi, hx, brow]
    have hxl := x.toNat_lt
    rw [wrap_u32_lt (show x.toNat < 4294967296 by omega)]
    have e0 : (((x.toNat : Nat) : Int) % 4294967296).toNat = x.toNat := by omega
    rw [e0, Nat.mod_eq_of_lt hc, wrap_u32_lt (xor_lt32 hc (by omega))]
    refine go_each hmx 0 5 (List.replicate 8 ()) (fun (c : Nat) => [(3, .v (.i .u32 (c : Int)))]) (fun _ => []) (fun i d rest => iter stepN rest.length d = crcB c x ∧ d < 4294967296) (c ^^^ x.toNat) (by simp) rfl rfl rfl (by simp) (by simp) (by simp) ⟨rfl, xor_lt32 hc (by omega)⟩ ?_ ?_
    · rintro k _ rest2 d hk _ hr2 ⟨hd, hd2⟩ hw2
      simp at hk
      have hk' : (k : Int) < 8 := by omega
      have hk2 : ¬ (8 : Int) ≤ k := by omega
      have e1 : (d : Int).tmod 2 = ((d % 2 : Nat) : Int) := by rw [Int.tmod_eq_emod_of_nonneg (by omega)]; omega
      have e2 : (d : Int) / 2 = ((d / 2 : Nat) : Int) := by omega
      simp [hk', hk2, hw2]
      rw [e1, e2, wrap_u32_lt (show d / 2 < 4294967296 by omega)]
      have e3 : (((d / 2 : Nat) : Int) % 4294967296).toNat = d / 2 := by omega
      rw [e3]
      refine ⟨fun ho => ⟨stepN d, ?_, hd, stepN_lt hd2⟩, fun ho => ⟨stepN d, ?_, hd, stepN_lt hd2⟩⟩
      · rw [stepN, if_pos (by omega)]
        exact wrap_u32_lt (xor_lt32 (by omega) (by omega))
      · rw [stepN, if_neg (by omega)]
    · rintro d ⟨hd, hd2⟩
      simp
      exact ⟨d, ⟨rfl, hw⟩, by rw [← hj]; exact congrArg _ hd, hd2⟩
  · rintro c ⟨hj, hc⟩
    simp
    have e1 : (4294967295 : Int) - (c : Int) = ((4294967295 - c : Nat) : Int) := by omega
    rw [e1, wrap_u32_lt (by omega)]
    simp only [crcL, List.foldl_nil] at hj
    rw [sumN, crcL, ← hj]
end Go.Sc.Oct
