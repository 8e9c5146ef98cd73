/- Chapter 27: witnesses in bytes, in plain Lean. No condition. -/
import Derived.Test.YtlolloejmdgkjaaXScDec
import Derived.Test.YtlolloejmdgkjaaXScRd
import Derived.Test.YtlolloejmdgkjaaXSc3
set_option linter.constructorNameAsVariable false
namespace Go.Sc.Wi
open Go Go.Av Go.Sc Go.Sc.Cw
set_option linter.unusedSimpArgs false
set_option linter.unusedVariables false
structure Pick where
  go : Int
  alt : Int
  deriving DecidableEq, Inhabited
def Pick.row (v : Pick) : List AV := [.i .i64 v.go, .i .i64 v.alt]
@[simp] theorem Pick.row_length (v : Pick) : v.row.length = 2 := rfl
@[simp] theorem Pick.row_take (v : Pick) : v.row.take 2 = v.row := rfl
@[simp] theorem Pick.row_fit (v w : Pick) : fitA [.i, .i] v.row w.row := by simp [row]
@[simp] theorem Pick.row_eq (v w : Pick) : eqA [.i, .i] v.row w.row = decide (v = w) := by
  cases v; cases w; rw [Bool.eq_iff_iff]; simp [row]
structure Wit where
  sum : Nat
  kind : Int
  af : Int
  ap : Int
  bf : Int
  bp : Int
  num : Int
  why : Int
  picks : List Pick
  steps : Int
  fuel : Int
  runs : Int
  deriving DecidableEq, Inhabited
def Wit.row (w : Wit) : List AV := [.i .u32 (w.sum : Int), .i .i64 w.kind, .i .i64 w.af, .i .i64 w.ap, .i .i64 w.bf, .i .i64 w.bp, .i .i64 w.num, .i .i64 w.why, .sl 2 (w.picks.map Pick.row), .i .i64 w.steps, .i .i64 w.fuel, .i .i64 w.runs]
@[simp] theorem Wit.row_length (s : Wit) : s.row.length = 12 := rfl
@[simp] theorem Wit.row_take (s : Wit) : s.row.take 12 = s.row := rfl
/-- The numbers of a witness as far as the number of picks. -/
def Wit.flds (w : Wit) : List Int := [w.kind, w.af, w.ap, w.bf, w.bp, w.num, w.why, w.steps, w.fuel, w.runs, (w.picks.length : Int)]
def picksI : List Pick → List Int
  | [] => []
  | x :: r => x.go :: x.alt :: picksI r
def Wit.ints (w : Wit) : List Int := w.flds ++ picksI w.picks
structure Wit.Ok (w : Wit) : Prop where
  sum : w.sum < 4294967296
  flds : I64 w.kind ∧ I64 w.af ∧ I64 w.ap ∧ I64 w.bf ∧ I64 w.bp ∧ I64 w.num ∧ I64 w.why ∧ I64 w.steps ∧ I64 w.fuel ∧ I64 w.runs
  few : Few 16 w.picks
  picks : ∀ x ∈ w.picks, I64 x.go ∧ I64 x.alt
def pickOk (x : Pick) : Prop := (0 ≤ x.go ∧ x.go ≤ 5) ∧ (0 ≤ x.alt ∧ x.alt ≤ 4)
instance (x : Pick) : Decidable (pickOk x) := inferInstanceAs (Decidable (_ ∧ _))
/-- Bounds at each place. -/
def bnds : List (Nat × Nat) := [(1, 5), (0, 64), (0, 64), (0, 64), (0, 64), (0, 255), (0, 255), (0, 256), (0, 4096), (0, 65536), (0, 256)]
structure Wit.Right (w : Wit) : Prop where
  kind : 1 ≤ w.kind ∧ w.kind ≤ 5
  af : 0 ≤ w.af ∧ w.af ≤ 64
  ap : 0 ≤ w.ap ∧ w.ap ≤ 64
  bf : 0 ≤ w.bf ∧ w.bf ≤ 64
  bp : 0 ≤ w.bp ∧ w.bp ≤ 64
  num : 0 ≤ w.num ∧ w.num ≤ 255
  why : 0 ≤ w.why ∧ w.why ≤ 255
  steps : 0 ≤ w.steps ∧ w.steps ≤ 256
  fuel : 0 ≤ w.fuel ∧ w.fuel ≤ 4096
  runs : 0 ≤ w.runs ∧ w.runs ≤ 65536
  len : w.picks.length ≤ 256
  picks : ∀ x ∈ w.picks, pickOk x
def Wit.rightB (w : Wit) : Bool := decide ((1 ≤ w.kind ∧ w.kind ≤ 5) ∧ (0 ≤ w.af ∧ w.af ≤ 64) ∧ (0 ≤ w.ap ∧ w.ap ≤ 64) ∧ (0 ≤ w.bf ∧ w.bf ≤ 64) ∧ (0 ≤ w.bp ∧ w.bp ≤ 64) ∧ (0 ≤ w.num ∧ w.num ≤ 255) ∧ (0 ≤ w.why ∧ w.why ≤ 255) ∧ (0 ≤ w.steps ∧ w.steps ≤ 256) ∧ (0 ≤ w.fuel ∧ w.fuel ≤ 4096) ∧ (0 ≤ w.runs ∧ w.runs ≤ 65536) ∧ w.picks.length ≤ 256 ∧ ∀ x ∈ w.picks, pickOk x)
theorem Wit.rightB_iff {w : Wit} : w.rightB = true ↔ w.Right := by
  simp only [rightB, decide_eq_true_eq]
  constructor
  · rintro ⟨a, b, c, d, e, f, g, h, i, j, k, l⟩; exact ⟨a, b, c, d, e, f, g, h, i, j, k, l⟩
  · rintro ⟨a, b, c, d, e, f, g, h, i, j, k, l⟩; exact ⟨a, b, c, d, e, f, g, h, i, j, k, l⟩
/-! ### Bytes -/
def intsW : List Int → List UInt8
  | [] => []
  | x :: r => numW x ++ intsW r
theorem intsW_append (a b : List Int) : intsW (a ++ b) = intsW a ++ intsW b := by
  induction a with
  | nil => rfl
  | cons x r ih => simp [intsW, ih]
theorem intsW_len : ∀ (l : List Int), (intsW l).length ≤ 10 * l.length
  | [] => by simp [intsW]
  | x :: r => by have := numW_len x; have := intsW_len r; simp [intsW]; omega
theorem picksI_len : ∀ (l : List Pick), (picksI l).length = 2 * l.length
  | [] => rfl
  | x :: r => by simp [picksI, picksI_len r]; omega
def wmagic : List UInt8 := [115, 99, 97, 119]
def headW (w : Wit) : List UInt8 := wmagic ++ fixN w.sum ++ intsW w.ints
def witW (w : Wit) : List UInt8 := headW w ++ fixN (sumN (headW w))
/-! ### Read -/
def wiP (m : Nat × Nat) : Pr Int := fun l =>
  if (getA 0 0 l).1 ≠ 0 then .err (getA 0 0 l).1 0 else if m.2 < (getA 0 0 l).2.1 ∨ (getA 0 0 l).2.1 < m.1 then .err 1 0 else .ok ((getA 0 0 l).2.1 : Int) (getA 0 0 l).2.2
def seqP : List (Nat × Nat) → Pr (List Int)
  | [] => retP []
  | m :: ms => bindP (wiP m) fun x => bindP (seqP ms) fun xs => retP (x :: xs)
def pairs : Nat → List (Nat × Nat)
  | 0 => []
  | n + 1 => (0, 5) :: (0, 4) :: pairs n
def picksOf : List Int → List Pick
  | a :: b :: r => ⟨a, b⟩ :: picksOf r
  | _ => []
def witOf (s : Nat) (ys zs : List Int) : Wit := ⟨s, ys.getD 0 0, ys.getD 1 0, ys.getD 2 0, ys.getD 3 0, ys.getD 4 0, ys.getD 5 0, ys.getD 6 0, picksOf zs, ys.getD 7 0, ys.getD 8 0, ys.getD 9 0⟩
def fieldsP : Pr (List Int × List Int) := bindP (seqP bnds) fun ys => bindP (seqP (pairs (ys.getD 10 0).toNat)) fun zs => retP (ys, zs)
def readW (bs : List UInt8) : Except (Int × Nat) Wit :=
  if 65536 < bs.length then .error (2, 0)
  else if bs.take 4 ≠ wmagic then .error (40, 0)
  else if bs.length < 12 then .error (10, bs.length)
  else if beN (four bs (bs.length - 4)) 0 ≠ sumN (bs.take (bs.length - 4)) then .error (41, bs.length - 4)
  else match fieldsP ((bs.take (bs.length - 4)).drop 8) with
    | .err e o => .error (e, 8 + o)
    | .ok (ys, zs) n => if n < bs.length - 12 then .error (13, 8 + n) else .ok (witOf (beN (four bs 4) 0) ys zs)
/-! ### There and back -/
theorem wi_ok {m : Nat × Nat} {l : List UInt8} {x : Int} {n : Nat} (h : wiP m l = .ok x n) : ∃ y : Nat, x = y ∧ m.1 ≤ y ∧ y ≤ m.2 ∧ getA 0 0 l = (0, y, n) := by
  unfold wiP at h
  split at h
  · cases h
  · rename_i h1
    split at h
    · cases h
    · rename_i h2
      cases h
      refine ⟨_, rfl, by omega, by omega, ?_⟩
      have : (getA 0 0 l).1 = 0 := by simpa using h1
      rw [← this]
theorem numW_nat {y : Nat} (h : y < 18446744073709551616) : numW (y : Int) = putN y := by rw [numW, u64N_of (by omega) (by omega)]; rfl
theorem rt_wi {m : Nat × Nat} (hm : m.2 < 18446744073709551616) {x : Int} (h1 : (m.1 : Int) ≤ x) (h2 : x ≤ m.2) : RT (wiP m) (numW x) x := fun suf => by
  obtain ⟨y, rfl⟩ := Int.eq_ofNat_of_zero_le (show 0 ≤ x by omega)
  rw [numW_nat (by omega)]
  have := getA_put y 0 0 suf (.inr rfl) (by simp; omega)
  simp only [wiP, this]
  simp; omega
theorem cn_wi (m : Nat × Nat) : CN (wiP m) numW := fun l x n h => by
  obtain ⟨y, rfl, _, _, h2⟩ := wi_ok h
  obtain ⟨z, e1, e2, e3, e4, _⟩ := getA_take l 0 0 y n h2
  simp at e1 e2 e4
  subst e1
  rw [numW_nat (getA_lt' h2)]
  exact ⟨e2, e4⟩
theorem en_wi (m : Nat × Nat) : EN (wiP m) := fun l e o h => by
  unfold wiP at h
  split at h
  · cases h; assumption
  · split at h
    · cases h; decide
    · cases h
def Within : List (Nat × Nat) → List Int → Prop
  | [], [] => True
  | m :: ms, x :: xs => ((m.1 : Int) ≤ x ∧ x ≤ m.2) ∧ Within ms xs
  | _, _ => False
theorem within_len : ∀ {ms : List (Nat × Nat)} {xs : List Int}, Within ms xs → xs.length = ms.length
  | [], [], _ => rfl
  | _ :: _, _ :: _, h => by simp [within_len h.2]
  | [], _ :: _, h => h.elim
  | _ :: _, [], h => h.elim
theorem rt_seq : ∀ {ms : List (Nat × Nat)} {xs : List Int}, (∀ m ∈ ms, m.2 < 18446744073709551616) → Within ms xs → RT (seqP ms) (intsW xs) xs
  | [], [], _, _ => RT.ret []
  | m :: ms, x :: xs, hm, h => by
    have h1 := rt_wi (hm m (by simp)) h.1.1 h.1.2
    have h2 := rt_seq (fun q hq => hm q (by simp [hq])) h.2
    exact h1.bind (h2.map (f := fun xs => x :: xs))
  | [], _ :: _, _, h => h.elim
  | _ :: _, [], _, h => h.elim
theorem seq_ok : ∀ {ms : List (Nat × Nat)} {l : List UInt8} {xs : List Int} {n : Nat}, seqP ms l = .ok xs n → n ≤ l.length ∧ l.take n = intsW xs ∧ Within ms xs
  | [], l, xs, n, h => by
    obtain ⟨rfl, rfl⟩ := ret_ok h
    simp [intsW, Within]
  | m :: ms, l, xs, n, h => by
    obtain ⟨x, n1, n2, h1, h2, rfl⟩ := bind_ok h
    obtain ⟨ys, n3, n4, h3, h4, rfl⟩ := bind_ok h2
    obtain ⟨rfl, rfl⟩ := ret_ok h4
    obtain ⟨a1, a2⟩ := cn_wi m _ _ _ h1
    obtain ⟨b1, b2, b3⟩ := seq_ok h3
    obtain ⟨y, rfl, c1, c2, _⟩ := wi_ok h1
    rw [List.length_drop] at b1
    refine ⟨by omega, ?_, ⟨by omega, by omega⟩, b3⟩
    rw [Nat.add_zero, List.take_add, a2, b2, intsW]
theorem en_seq : ∀ (ms : List (Nat × Nat)), EN (seqP ms)
  | [] => .ret _
  | m :: ms => (en_wi m).bind fun _ => (en_seq ms).bind fun _ => .ret _
theorem en_fields : EN fieldsP := (en_seq _).bind fun _ => (en_seq _).bind fun _ => .ret _
theorem pairs_within : ∀ (l : List Pick), (∀ x ∈ l, pickOk x) → Within (pairs l.length) (picksI l)
  | [], _ => trivial
  | x :: r, h => by
    have h1 := h x (by simp)
    have h2 := pairs_within r (fun y hy => h y (by simp [hy]))
    exact ⟨⟨h1.1.1, h1.1.2⟩, ⟨h1.2.1, h1.2.2⟩, h2⟩
theorem picksOf_I : ∀ (l : List Pick), picksOf (picksI l) = l
  | [] => rfl
  | x :: r => by simp [picksI, picksOf, picksOf_I r]
theorem pairs_lt : ∀ (n : Nat), ∀ m ∈ pairs n, m.2 < 18446744073709551616
  | 0, m, h => by simp [pairs] at h
  | n + 1, m, h => by
    simp [pairs] at h
    rcases h with rfl | rfl | h
    · decide
    · decide
    · exact pairs_lt n m h
theorem picks_of_within : ∀ (n : Nat) {zs : List Int}, Within (pairs n) zs → picksI (picksOf zs) = zs ∧ (picksOf zs).length = n ∧ ∀ x ∈ picksOf zs, pickOk x
  | 0, [], _ => by simp [picksOf, picksI]
  | 0, _ :: _, h => h.elim
  | n + 1, [], h => h.elim
  | n + 1, [a], h => h.2.elim
  | n + 1, a :: b :: r, h => by
    obtain ⟨e1, e2, e3⟩ := picks_of_within n h.2.2
    refine ⟨by simp [picksOf, picksI, e1], by simp [picksOf, e2], ?_⟩
    intro x hx
    simp only [picksOf, List.mem_cons] at hx
    rcases hx with rfl | hx
    · exact ⟨h.1, h.2.1⟩
    · exact e3 x hx
theorem bnds_lt : ∀ m ∈ bnds, m.2 < 18446744073709551616 := by decide
theorem right_within {w : Wit} (h : w.Right) : Within bnds w.flds := by
  obtain ⟨a, b, c, d, e, f, g, h, i, j, k, l⟩ := h
  simp only [bnds, Wit.flds, Within]
  exact ⟨by omega, by omega, by omega, by omega, by omega, by omega, by omega, by omega, by omega, by omega, by omega, trivial⟩
theorem rt_fields {w : Wit} (h : w.Right) : RT fieldsP (intsW w.ints) (w.flds, picksI w.picks) := by
  rw [Wit.ints, intsW_append]
  refine (rt_seq bnds_lt (right_within h)).bind ?_
  have : ((w.flds.getD 10 0).toNat) = w.picks.length := by simp [Wit.flds]
  rw [this]
  exact (rt_seq (pairs_lt _) (pairs_within _ h.picks)).map (f := fun zs => (w.flds, zs))
theorem witOf_flds (w : Wit) : witOf w.sum w.flds (picksI w.picks) = w := by simp [witOf, Wit.flds, picksOf_I]
theorem headW_len (w : Wit) : (headW w).length = 8 + (intsW w.ints).length := by simp [headW, wmagic, fixN]; omega
theorem witW_len (w : Wit) : (witW w).length = 12 + (intsW w.ints).length := by
  have : (fixN (sumN (headW w))).length = 4 := rfl
  rw [witW, List.length_append, headW_len, this]; omega
theorem ints_short {w : Wit} (h : w.picks.length ≤ 256) : (intsW w.ints).length ≤ 5230 := by
  have h1 := intsW_len w.ints
  have h2 : w.ints.length = 11 + 2 * w.picks.length := by simp [Wit.ints, Wit.flds, picksI_len]; omega
  omega
theorem fixN_len (x : Nat) : (fixN x).length = 4 := rfl
theorem four_at {a b c : List UInt8} (h : b.length = 4) : four (a ++ b ++ c) a.length = b := by
  rw [four, ← h, ← List.length_append, List.take_left, List.drop_left]
theorem read_witW {w : Wit} (h : w.Right) (hs : w.sum < 4294967296) : readW (witW w) = .ok w := by
  have h1 := witW_len w
  have h2 := ints_short h.len
  have h3 := headW_len w
  have e1 : (witW w).length - 4 = (headW w).length := by omega
  have e2 : (witW w).take (headW w).length = headW w := by rw [witW, List.take_left]
  have e3 : four (witW w) (headW w).length = fixN (sumN (headW w)) := by
    have := four_at (a := headW w) (b := fixN (sumN (headW w))) (c := []) rfl
    rwa [List.append_nil] at this
  have e4 : (witW w).take 4 = wmagic := by simp [witW, headW, wmagic]
  have e5 : four (witW w) 4 = fixN w.sum := by
    have := four_at (a := wmagic) (b := fixN w.sum) (c := intsW w.ints ++ fixN (sumN (headW w))) rfl
    rw [show witW w = wmagic ++ fixN w.sum ++ (intsW w.ints ++ fixN (sumN (headW w))) by simp [witW, headW]]
    exact this
  have e6 : (headW w).drop 8 = intsW w.ints := by
    rw [headW, show 8 = (wmagic ++ fixN w.sum).length from rfl, List.drop_left]
  have e7 := rt_fields h []
  rw [List.append_nil] at e7
  unfold readW
  rw [if_neg (by omega), if_neg (by rw [e4]; simp), if_neg (by omega), e1, e2, e3, be_fix (sumN_lt _), if_neg (by simp), e6, e7, e5, be_fix hs]
  simp only
  rw [if_neg (by omega), witOf_flds]
theorem read_ok {bs : List UInt8} {w : Wit} (h : readW bs = .ok w) : w.Right ∧ w.sum < 4294967296 ∧ witW w = bs := by
  unfold readW at h
  split at h
  · cases h
  split at h
  · cases h
  split at h
  · cases h
  split at h
  · cases h
  rename_i h1 h2 h3 h4
  split at h
  · cases h
  rename_i ys zs n hf
  split at h
  · cases h
  rename_i h5
  cases h
  obtain ⟨ys', n1, n2, f1, f2, rfl⟩ := bind_ok hf
  obtain ⟨zs', n3, n4, f3, f4, rfl⟩ := bind_ok f2
  obtain ⟨hh, rfl⟩ := ret_ok f4
  simp only [Prod.mk.injEq] at hh
  obtain ⟨rfl, rfl⟩ := hh
  obtain ⟨a1, a2, a3⟩ := seq_ok f1
  obtain ⟨b1, b2, b3⟩ := seq_ok f3
  obtain ⟨c1, c2, c3⟩ := picks_of_within _ b3
  have hb : beN (four bs 4) 0 < 4294967296 := by
    have := beN_lt (four bs 4) 0 0 (by simp)
    rw [four_length (by omega)] at this
    simpa using this
  have hlen := within_len a3
  match ys, hlen, a3, a2 with
  | [y0, y1, y2, y3, y4, y5, y6, y7, y8, y9, y10], _, a3, a2 =>
  simp only [bnds, Within] at a3
  obtain ⟨g0, g1, g2, g3, g4, g5, g6, g7, g8, g9, g10, _⟩ := a3
  simp only [List.getD_cons_succ, List.getD_cons_zero] at c2 b3 h5 f3
  have hR : (witOf (beN (four bs 4) 0) [y0, y1, y2, y3, y4, y5, y6, y7, y8, y9, y10] zs).Right := by
    refine ⟨?_, ?_, ?_, ?_, ?_, ?_, ?_, ?_, ?_, ?_, ?_, c3⟩ <;> simp only [witOf, List.getD_cons_succ, List.getD_cons_zero] <;> omega
  refine ⟨hR, hb, ?_⟩
  have hints : (witOf (beN (four bs 4) 0) [y0, y1, y2, y3, y4, y5, y6, y7, y8, y9, y10] zs).ints = [y0, y1, y2, y3, y4, y5, y6, y7, y8, y9, y10] ++ zs := by
    have e : ((picksOf zs).length : Int) = y10 := by rw [c2]; omega
    simp only [Wit.ints, Wit.flds, witOf, c1, e, List.getD_cons_succ, List.getD_cons_zero]
  have hbody : (bs.take (bs.length - 4)).drop 8 = intsW ([y0, y1, y2, y3, y4, y5, y6, y7, y8, y9, y10] ++ zs) := by
    rw [intsW_append, ← a2, ← b2]
    generalize hL : (bs.take (bs.length - 4)).drop 8 = L at *
    have hL2 : L.length = bs.length - 12 := by rw [← hL]; simp; omega
    rw [← List.take_add]
    rw [List.length_drop] at b1
    rw [List.take_of_length_le (by omega)]
  have h2' : bs.take 4 = wmagic := by simpa using h2
  have hhead : headW (witOf (beN (four bs 4) 0) [y0, y1, y2, y3, y4, y5, y6, y7, y8, y9, y10] zs) = bs.take (bs.length - 4) := by
    rw [headW, hints, ← hbody]
    rw [show (witOf (beN (four bs 4) 0) [y0, y1, y2, y3, y4, y5, y6, y7, y8, y9, y10] zs).sum = beN (four bs 4) 0 from rfl, fix_be (four_length (by omega))]
    rw [← h2', four, ← List.take_append_drop 8 (bs.take (bs.length - 4))]
    congr 1
    · have := List.take_append_drop 4 (bs.take 8)
      rw [List.take_take] at this
      rw [List.take_take, show min 8 (bs.length - 4) = 8 by omega]
      exact this
    · rw [List.take_append_drop]
  have h4' : beN (four bs (bs.length - 4)) 0 = sumN (bs.take (bs.length - 4)) := by simpa using h4
  have hf4 := fix_be (four_length (bs := bs) (a := bs.length - 4) (by omega))
  rw [witW, hhead, ← h4', hf4, four, show bs.length - 4 + 4 = bs.length by omega, List.take_length, List.take_append_drop]
theorem read_en {bs : List UInt8} {e : Int} {o : Nat} (h : readW bs = .error (e, o)) : e ≠ 0 := by
  unfold readW at h
  split at h
  · cases h; decide
  split at h
  · cases h; decide
  split at h
  · cases h; decide
  split at h
  · cases h; decide
  split at h
  · rename_i hf
    cases h
    exact en_fields _ _ _ hf
  · split at h
    · cases h; decide
    · cases h
/-- A byte of a witness's bytes turned: no witness's bytes. -/
theorem wturned {p q : Wit} {at' : Nat} {b : UInt8} (hat : at' < (witW p).length) (hb : (witW p)[at'] ≠ b) : witW q ≠ (witW p).set at' b := by
  intro e
  have h1 : witW p = (witW p).take at' ++ (witW p)[at'] :: (witW p).drop (at' + 1) := by rw [← List.drop_eq_getElem_cons hat, List.take_append_drop]
  have h2 : (witW p).set at' b = (witW p).take at' ++ b :: (witW p).drop (at' + 1) := by rw [List.set_eq_take_append_cons_drop, if_pos hat]
  rw [h2] at e
  generalize (witW p).take at' = l at *
  generalize (witW p).drop (at' + 1) = m at *
  generalize (witW p)[at'] = a at *
  exact hb (turn_told l m a b h1 e)
theorem read_turned {p : Wit} {at' : Nat} {b : UInt8} (hat : at' < (witW p).length) (hb : (witW p)[at'] ≠ b) : ∃ e o, e ≠ 0 ∧ readW ((witW p).set at' b) = .error (e, o) := by
  cases h : readW ((witW p).set at' b) with
  | ok q => exact absurd (read_ok h).2.2 (wturned hat hb)
  | error x => exact ⟨x.1, x.2, read_en h, rfl⟩
/-! ### Steps -/
theorem step_snoc {bs : List UInt8} {ms : List (Nat × Nat)} {m : Nat × Nat} {s s1 s2 : St} {ys : List Int} {y : Int} (h : Step bs (seqP ms) s ys s1) (h' : Step bs (wiP m) s1 y s2) : Step bs (seqP (ms ++ [m])) s (ys ++ [y]) s2 := by
  have hb : ∀ (ms : List (Nat × Nat)) (l : List UInt8), seqP (ms ++ [m]) l = bindP (seqP ms) (fun ys => bindP (wiP m) fun y => retP (ys ++ [y])) l := by
    intro ms
    induction ms with
    | nil =>
      intro l
      simp only [List.nil_append, seqP, bindP, retP, List.drop_zero]
      rcases wiP m l with ⟨e, o⟩ | ⟨x, n⟩ <;> simp
    | cons q ms ih =>
      intro l
      simp only [List.cons_append, seqP]
      simp only [bindP] at ih ⊢
      rcases wiP q l with ⟨e, o⟩ | ⟨x, n⟩
      · rfl
      · simp only [ih]
        rcases seqP ms (l.drop n) with ⟨e, o⟩ | ⟨xs, n1⟩
        · rfl
        · simp only [retP, List.drop_drop]
          simp only [Nat.add_zero]
          rcases wiP m (l.drop (n + n1)) with ⟨e, o⟩ | ⟨z, n2⟩
          · simp only []; congr 1; omega
          · simp only [List.cons_append]; congr 1; omega
  have := h.bind (f := fun ys => bindP (wiP m) fun y => retP (ys ++ [y])) (h'.map (f := fun y => ys ++ [y]))
  rwa [show bindP (seqP ms) (fun ys => bindP (wiP m) fun y => retP (ys ++ [y])) = seqP (ms ++ [m]) from funext fun l => (hb ms l).symm] at this
theorem pairs_succ : ∀ (n : Nat), pairs (n + 1) = pairs n ++ [(0, 5)] ++ [(0, 4)]
  | 0 => rfl
  | n + 1 => by
    have := pairs_succ n
    simp only [pairs, List.cons_append] at this ⊢
    rw [this]
/-! ### What is handed in -/
def pickSh : List Sh := [iSh, iSh]
def witSh : List Sh := [.i .u32, iSh, iSh, iSh, iSh, iSh, iSh, iSh, .sl 16 pickSh, iSh, iSh, iSh]
theorem open_pick (xs : List AV) (h : FitL pickSh xs) : ∃ v : Pick, xs = v.row ∧ (I64 v.go ∧ I64 v.alt) := by
  obtain ⟨x, ys, rfl, h1, h⟩ := fit_cons h
  obtain ⟨y, ys, rfl, h2, h⟩ := fit_cons h
  obtain rfl := fit_nil h
  obtain ⟨a, rfl, k1⟩ := fit_i h1
  obtain ⟨n, rfl, k2⟩ := fit_i h2
  exact ⟨⟨a, n⟩, rfl, k1, k2⟩
theorem fit_u32 {x : AV} (h : Fit (.i .u32) x) : ∃ n : Nat, x = .i .u32 (n : Int) ∧ n < 4294967296 := by
  simp only [Fit] at h
  obtain ⟨n, rfl, h1, h2⟩ := h
  simp [IntKind.min, IntKind.max, IntKind.signed, IntKind.bits] at h1 h2
  refine ⟨n.toNat, ?_, by omega⟩
  rw [show ((n.toNat : Nat) : Int) = n by omega]
theorem open_wit (xs : List AV) (h : FitL witSh xs) : ∃ w : Wit, xs = w.row ∧ w.Ok := by
  obtain ⟨x0, ys, rfl, h0, h⟩ := fit_cons h
  obtain ⟨x1, ys, rfl, h1, h⟩ := fit_cons h
  obtain ⟨x2, ys, rfl, h2, h⟩ := fit_cons h
  obtain ⟨x3, ys, rfl, h3, h⟩ := fit_cons h
  obtain ⟨x4, ys, rfl, h4, h⟩ := fit_cons h
  obtain ⟨x5, ys, rfl, h5, h⟩ := fit_cons h
  obtain ⟨x6, ys, rfl, h6, h⟩ := fit_cons h
  obtain ⟨x7, ys, rfl, h7, h⟩ := fit_cons h
  obtain ⟨x8, ys, rfl, h8, h⟩ := fit_cons h
  obtain ⟨x9, ys, rfl, h9, h⟩ := fit_cons h
  obtain ⟨x10, ys, rfl, h10, h⟩ := fit_cons h
  obtain ⟨x11, ys, rfl, h11, h⟩ := fit_cons h
  obtain rfl := fit_nil h
  obtain ⟨n0, rfl, k0⟩ := fit_u32 h0
  obtain ⟨n1, rfl, k1⟩ := fit_i h1
  obtain ⟨n2, rfl, k2⟩ := fit_i h2
  obtain ⟨n3, rfl, k3⟩ := fit_i h3
  obtain ⟨n4, rfl, k4⟩ := fit_i h4
  obtain ⟨n5, rfl, k5⟩ := fit_i h5
  obtain ⟨n6, rfl, k6⟩ := fit_i h6
  obtain ⟨n7, rfl, k7⟩ := fit_i h7
  obtain ⟨l, rfl, k8, k8'⟩ := fit_sl open_pick h8
  obtain ⟨n9, rfl, k9⟩ := fit_i h9
  obtain ⟨n10, rfl, k10⟩ := fit_i h10
  obtain ⟨n11, rfl, k11⟩ := fit_i h11
  exact ⟨⟨n0, n1, n2, n3, n4, n5, n6, n7, l, n9, n10, n11⟩, rfl, k0, ⟨k1, k2, k3, k4, k5, k6, k7, k9, k10, k11⟩, k8, k8'⟩
theorem arg_wit {P : Program} {d : Nat} {t : TypeId} {a : AV} (hsh : shT P d t = some witSh) (hs : (match P.underlying t with | some (.struct _) => true | _ => false) = true) (h : ∃ sh xs, shT P d t = some sh ∧ FitL sh xs ∧ a = argV P t xs) : ∃ w : Wit, a = .g w.row ∧ w.Ok := by
  obtain ⟨sh, xs, h1, h2, h3⟩ := h
  rw [hsh] at h1
  cases h1
  obtain ⟨w, rfl, k⟩ := open_wit xs h2
  refine ⟨w, ?_, k⟩
  rw [h3, argV]
  split at hs
  · rename_i h; rw [h]
  · cases hs
end Go.Sc.Wi
