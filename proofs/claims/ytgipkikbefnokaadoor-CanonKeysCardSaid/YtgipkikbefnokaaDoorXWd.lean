/- Bytes and words: what machine arithmetic does to them. No condition. -/
import Derived.Test.YtgipkikbefnokaaDoorXAv14
import Derived.Laws.Bits64
import Derived.Laws.BitsLemmas
set_option linter.constructorNameAsVariable false
namespace Go.Sc
open Go Go.Av
set_option linter.unusedSimpArgs false
set_option linter.unusedVariables false

theorem bits_u8 : IntKind.u8.bits = 8 := rfl
@[simp] theorem powN_u8 : (2 : Nat) ^ IntKind.u8.bits = 256 := rfl
@[simp] theorem powI_u8 : (2 : Int) ^ IntKind.u8.bits = 256 := rfl
@[simp] theorem min_u8 (n : Nat) : min n IntKind.u8.bits = min n 8 := rfl
theorem bits_u32 : IntKind.u32.bits = 32 := rfl
@[simp] theorem powN_u32 : (2 : Nat) ^ IntKind.u32.bits = 4294967296 := rfl
@[simp] theorem powI_u32 : (2 : Int) ^ IntKind.u32.bits = 4294967296 := rfl
@[simp] theorem min_u32 (n : Nat) : min n IntKind.u32.bits = min n 32 := rfl
theorem bits_u64 : IntKind.u64.bits = 64 := rfl
@[simp] theorem powN_u64 : (2 : Nat) ^ IntKind.u64.bits = 18446744073709551616 := rfl
@[simp] theorem powI_u64 : (2 : Int) ^ IntKind.u64.bits = 18446744073709551616 := rfl
@[simp] theorem min_u64 (n : Nat) : min n IntKind.u64.bits = min n 64 := rfl
theorem bits_i64 : IntKind.i64.bits = 64 := rfl
@[simp] theorem powN_i64 : (2 : Nat) ^ IntKind.i64.bits = 18446744073709551616 := rfl
@[simp] theorem powI_i64 : (2 : Int) ^ IntKind.i64.bits = 18446744073709551616 := rfl
@[simp] theorem min_i64 (n : Nat) : min n IntKind.i64.bits = min n 64 := rfl
@[simp] theorem signed_u8 : IntKind.u8.signed = false := rfl
@[simp] theorem signed_u32 : IntKind.u32.signed = false := rfl
@[simp] theorem signed_u64 : IntKind.u64.signed = false := rfl
@[simp] theorem signed_i64 : IntKind.i64.signed = true := rfl
@[simp] theorem max_u32 : IntKind.u32.max = 4294967295 := rfl
def brow (b : UInt8) : List AV := [.i .u8 (b.toNat : Int)]
@[simp] theorem brow_length (b : UInt8) : (brow b).length = 1 := rfl
@[simp] theorem brow_byte (b : UInt8) : byteOf' (brow b) = b := by simp [brow, byteOf']
@[simp] theorem brow_is (b : UInt8) : isByte' (brow b) := by
  have := b.toNat_lt
  simp only [brow, isByte']; omega
theorem brow_flat (b : UInt8) : ∀ x ∈ brow b, Flat x := by intro x hx; simp [brow] at hx; subst hx; exact .i _ _
theorem brow_inj {a b : UInt8} (h : brow a = brow b) : a = b := by
  simp [brow] at h
  exact UInt8.toNat_inj.1 (by omega)
theorem vrows_brow (l : List UInt8) : vrows (l.map brow) = l.map fun b => [RV.v (.i .u8 (b.toNat : Int))] := by simp [vrows, brow, Function.comp_def]
theorem map_byte (l : List UInt8) : (l.map brow).map byteOf' = l := by simp [Function.comp_def]

theorem wrap_u8_mod (n : Nat) : IntKind.u8.wrap (n : Int) = ((n % 256 : Nat) : Int) := by rw [IntKind.wrap_u8]; omega
theorem wrap_u32_mod (n : Nat) : IntKind.u32.wrap (n : Int) = ((n % 4294967296 : Nat) : Int) := by rw [IntKind.wrap_u32]; omega
theorem wrap_u64_mod (n : Nat) : IntKind.u64.wrap (n : Int) = ((n % 18446744073709551616 : Nat) : Int) := by rw [IntKind.wrap_u64]; omega
theorem wrap_u64_lt {n : Nat} (h : n < 18446744073709551616) : IntKind.u64.wrap (n : Int) = (n : Int) := by rw [IntKind.wrap_u64]; omega
theorem wrap_u8_lt {n : Nat} (h : n < 256) : IntKind.u8.wrap (n : Int) = (n : Int) := by rw [IntKind.wrap_u8]; omega
theorem wrap_u32_lt {n : Nat} (h : n < 4294967296) : IntKind.u32.wrap (n : Int) = (n : Int) := by rw [IntKind.wrap_u32]; omega

theorem brow_of (n : Nat) (h : n < 256) : ([.i .u8 (n : Int)] : List AV) = brow (UInt8.ofNat n) := by
  simp only [brow]
  rw [UInt8.toNat_ofNat']
  congr 2
  omega

def putN (x : Nat) : List UInt8 := if x < 128 then [UInt8.ofNat x] else UInt8.ofNat (x % 128 + 128) :: putN (x / 128)
termination_by x
decreasing_by omega

theorem putN_len : ∀ (n x : Nat), x < 128 ^ n → 0 < n → (putN x).length ≤ n
  | 0, _, _, h => by omega
  | n + 1, x, hx, _ => by
    unfold putN
    split
    · simp
    · cases n with
      | zero => simp at hx; omega
      | succ n =>
        have : x / 128 < 128 ^ (n + 1) := by
          rw [Nat.pow_succ] at hx
          exact Nat.div_lt_of_lt_mul (by rw [Nat.mul_comm]; exact hx)
        have := putN_len (n + 1) (x / 128) this (by omega)
        simp only [List.length_cons]; omega
theorem putN_ten {x : Nat} (h : x < 18446744073709551616) : (putN x).length ≤ 10 := putN_len 10 x (by omega) (by omega)
theorem putN_pos (x : Nat) : 0 < (putN x).length := by unfold putN; split <;> simp

theorem or_128 (n : Nat) (h : n < 256) : ((BitVec.ofInt 8 (n : Int)) ||| (BitVec.ofInt 8 128)).toNat = n % 128 + 128 := by
  have h1 : BitVec.ofInt 8 (n : Int) = BitVec.ofNat 8 n := by simp
  have h2 : BitVec.ofInt 8 128 = BitVec.ofNat 8 128 := by decide
  rw [h1, h2]
  simp only [BitVec.toNat_or, BitVec.toNat_ofNat]
  have : ∀ m : Fin 256, ((m.val % 2 ^ 8) ||| (128 % 2 ^ 8)) = m.val % 128 + 128 := by decide +kernel
  exact this ⟨n, h⟩

theorem vsnoc (l : List UInt8) (b : UInt8) {e : Int} (h : e = (b.toNat : Int)) : vrows (l.map brow) ++ [[RV.v (.i .u8 e)]] = vrows ((l ++ [b]).map brow) := by
  subst h; simp [vrows, brow]
theorem fdiv_pow (n k : Nat) : (n : Int).fdiv (2 ^ k) = ((n / 2 ^ k : Nat) : Int) := by
  have : (2 ^ k : Int) = ((2 ^ k : Nat) : Int) := by simp
  rw [this, Int.ofNat_fdiv]
theorem fdiv_lit (n : Nat) (d : Nat) : (n : Int).fdiv (d : Int) = ((n / d : Nat) : Int) := by rw [Int.ofNat_fdiv]
theorem fdiv_7 (n : Nat) : (n : Int).fdiv 128 = ((n / 128 : Nat) : Int) := fdiv_lit n 128
theorem u8_toNat {n : Nat} (h : n < 256) : (UInt8.ofNat n).toNat = n := by rw [UInt8.toNat_ofNat']; omega
/-! ### The sum -/
def iter (f : Nat → Nat) : Nat → Nat → Nat
  | 0, c => c
  | n + 1, c => iter f n (f c)
def stepN (c : Nat) : Nat := if c % 2 = 1 then (c / 2) ^^^ 3988292384 else c / 2
def crcB (c : Nat) (b : UInt8) : Nat := iter stepN 8 (c ^^^ b.toNat)
def crcL (bs : List UInt8) (c : Nat) : Nat := bs.foldl crcB c
def sumN (bs : List UInt8) : Nat := 4294967295 - crcL bs 4294967295
theorem xor_lt32 {a b : Nat} (ha : a < 4294967296) (hb : b < 4294967296) : a ^^^ b < 4294967296 := Nat.xor_lt_two_pow (n := 32) ha hb
theorem stepN_lt {c : Nat} (h : c < 4294967296) : stepN c < 4294967296 := by
  unfold stepN
  split
  · exact xor_lt32 (by omega) (by omega)
  · omega
theorem iter_lt : ∀ (n : Nat) {c : Nat}, c < 4294967296 → iter stepN n c < 4294967296
  | 0, c, h => h
  | n + 1, c, h => iter_lt n (stepN_lt h)
theorem crcB_lt {c : Nat} {b : UInt8} (h : c < 4294967296) : crcB c b < 4294967296 := iter_lt 8 (xor_lt32 h (by have := b.toNat_lt; omega))
theorem crcL_lt : ∀ (bs : List UInt8) {c : Nat}, c < 4294967296 → crcL bs c < 4294967296
  | [], c, h => h
  | b :: bs, c, h => crcL_lt bs (crcB_lt h)
theorem sumN_lt (bs : List UInt8) : sumN bs < 4294967296 := by unfold sumN; omega
def fixN (x : Nat) : List UInt8 := [UInt8.ofNat (x / 16777216), UInt8.ofNat (x / 65536 % 256), UInt8.ofNat (x / 256 % 256), UInt8.ofNat (x % 256)]
@[simp] theorem fixN_length (x : Nat) : (fixN x).length = 4 := rfl
def bval (b : UInt8) : AV := .i .u8 (b.toNat : Int)
theorem bval_row (l : List UInt8) : (l.map bval).map (fun x => [x]) = l.map brow := by simp [bval, brow, Function.comp_def]
theorem and_one (n : Nat) : n &&& 1 = n % 2 := Nat.and_one_is_mod n
theorem ones_and {c : Nat} (h : c < 4294967296) : c &&& 4294967295 = c := by
  have := Nat.and_two_pow_sub_one_eq_mod c 32
  simp at this
  rw [this]; omega
theorem ones_xor {c : Nat} (h : c < 4294967296) : 4294967295 ^^^ c = 4294967295 - c := by
  have h1 : (BitVec.allOnes 32 ^^^ BitVec.ofNat 32 c).toNat = (~~~ BitVec.ofNat 32 c).toNat := by rw [BitVec.allOnes_xor]
  rw [BitVec.toNat_not, BitVec.toNat_xor, BitVec.toNat_ofNat, BitVec.toNat_allOnes] at h1
  rw [Nat.mod_eq_of_lt (by omega)] at h1
  simpa using h1
/-! ### Numbers read -/
def getA (k acc : Nat) : List UInt8 → Int × Nat × Nat
  | [] => (10, 0, 0)
  | c :: l =>
    if k = 9 ∧ 1 < c.toNat then (11, 0, 0)
    else if 128 ≤ c.toNat then getA (k + 1) (acc + (c.toNat - 128) * 128 ^ k) l
    else if c.toNat = 0 ∧ 0 < k then (12, 0, 0)
    else (0, acc + c.toNat * 128 ^ k, k + 1)
def told3 (t : Int × Nat × Nat) (at' : Int) : AV := if t.1 = 0 then .tup [.i .u64 (t.2.1 : Int), .i .i64 (at' + t.2.2), .i .i64 0] else .tup [.i .u64 0, .i .i64 0, .i .i64 t.1]
def getR (bs : List UInt8) (at' : Int) : AV := if at' < 0 ∨ (bs.length : Int) < at' then .tup [.i .u64 0, .i .i64 0, .i .i64 1] else told3 (getA 0 0 (bs.drop at'.toNat)) at'
theorem pow128 (k : Nat) (h : k ≤ 9) : 128 ^ k ≤ 9223372036854775808 := Nat.le_trans (Nat.pow_le_pow_right (by omega) h) (by decide)
theorem pow2_7 (k : Nat) : 2 ^ (7 * k) = 128 ^ k := by rw [Nat.pow_mul]
theorem or_add {acc k : Nat} (h : acc < 128 ^ k) (n : Nat) : acc ||| n * 128 ^ k = acc + n * 128 ^ k := by
  have := Nat.shiftLeft_add_eq_or_of_lt (b := acc) (i := 7 * k) (by rw [pow2_7]; exact h) n
  rw [Nat.shiftLeft_eq, pow2_7] at this
  rw [Nat.or_comm, ← this, Nat.add_comm]
theorem and_127 (n : Nat) : n &&& 127 = n % 128 := Nat.and_two_pow_sub_one_eq_mod n 7
theorem getA_lt : ∀ (l : List UInt8) (k acc : Nat), k ≤ 9 → acc < 128 ^ k → (getA k acc l).2.1 < 18446744073709551616
  | [], k, acc, _, _ => by simp [getA]
  | c :: l, k, acc, hk, ha => by
    have hp := pow128 k hk
    have hc := c.toNat_lt
    unfold getA
    split
    · simp
    · rename_i h9
      split
      · rename_i h128
        refine getA_lt l (k + 1) _ (by omega) ?_
        rw [Nat.pow_succ]
        have : (c.toNat - 128) * 128 ^ k ≤ 127 * 128 ^ k := Nat.mul_le_mul_right _ (by omega)
        omega
      · split
        · simp
        · simp only
          by_cases hk9 : k = 9
          · subst hk9
            have : c.toNat * 128 ^ 9 ≤ 1 * 128 ^ 9 := Nat.mul_le_mul_right _ (by omega)
            have e : (128 : Nat) ^ 9 = 9223372036854775808 := by decide
            rw [e] at this ha ⊢; omega
          · have h8 : 128 ^ k ≤ 128 ^ 8 := Nat.pow_le_pow_right (by omega) (by omega)
            have e : (128 : Nat) ^ 8 = 72057594037927936 := by decide
            have : c.toNat * 128 ^ k ≤ 127 * 128 ^ k := Nat.mul_le_mul_right _ (by omega)
            omega
theorem getA_used : ∀ (l : List UInt8) (k acc : Nat), (getA k acc l).1 = 0 → (getA k acc l).2.2 ≤ k + l.length ∧ k < (getA k acc l).2.2
  | [], k, acc, h => by simp [getA] at h
  | c :: l, k, acc, h => by
    unfold getA at h ⊢
    split at h
    · simp at h
    · split at h
      · rename_i h1 h2
        rw [if_neg h1, if_pos h2]
        have := getA_used l (k + 1) _ h
        simp only [List.length_cons]; omega
      · split at h
        · simp at h
        · rename_i h1 h2 h3
          rw [if_neg h1, if_neg h2, if_neg h3]
          simp only [List.length_cons]; omega
/-! ### Four bytes read -/
def beN (l : List UInt8) (x : Nat) : Nat := l.foldl (fun x c => x * 256 + c.toNat) x
def four (bs : List UInt8) (a : Nat) : List UInt8 := (bs.take (a + 4)).drop a
def fixRd (bs : List UInt8) (at' : Int) : AV :=
  if at' < 0 ∨ (bs.length : Int) < at' then .tup [.i .u32 0, .i .i64 0, .i .i64 1]
  else if (bs.length : Int) - at' < 4 then .tup [.i .u32 0, .i .i64 0, .i .i64 10]
  else .tup [.i .u32 (beN (four bs at'.toNat) 0 : Int), .i .i64 (at' + 4), .i .i64 0]
theorem four_length {bs : List UInt8} {a : Nat} (h : a + 4 ≤ bs.length) : (four bs a).length = 4 := by simp [four]; omega
theorem beN_lt : ∀ (l : List UInt8) (x n : Nat), x < 256 ^ n → beN l x < 256 ^ (n + l.length)
  | [], x, n, h => h
  | c :: l, x, n, h => by
    have hc := c.toNat_lt
    have := beN_lt l (x * 256 + c.toNat) (n + 1) (by rw [Nat.pow_succ]; omega)
    rw [List.length_cons, show n + (l.length + 1) = n + 1 + l.length by omega]
    exact this
theorem shl_or {x c : Nat} (hc : c < 256) : x * 256 ||| c = x * 256 + c := by
  have := Nat.shiftLeft_add_eq_or_of_lt (b := c) (i := 8) hc x
  rw [Nat.shiftLeft_eq] at this
  exact this.symm
theorem or_128' (n : Nat) : ((n % 256 : Nat) : Int) % 256 = ((n % 256 : Nat) : Int) := by omega
theorem or_byte (n : Nat) : (n % 256 ||| 128) = n % 128 + 128 := by
  have : ∀ m : Fin 256, (m.val ||| 128) = m.val % 128 + 128 := by decide +kernel
  have h := this ⟨n % 256, Nat.mod_lt _ (by omega)⟩
  simp only at h
  rw [h]; omega
end Go.Sc
