/- What the printed functions of 'VerdictOrder' answer: an order of lists of numbers, front first. No condition. -/
import Derived.Test.YtlolloejmdgkjaaPVerdictOrderx2
namespace Go.Proofs.Ytlolloejmdgkjaa.PureVerdictOrder
open Go.RowKit Go.Proofs.YtlolloejmdgkjaaW.PrintWords Go.Proofs.YtlolloejmdgkjaaW.PrintLast Go.Proofs.YtlolloejmdgkjaaW.PrintMore Go.Proofs.Ytlolloejmdgkjaa.PVerdictOrder
set_option linter.unusedSimpArgs false

def ord : List Int → List Int → Int
  | a :: xs, b :: ys => if a < b then -1 else if a > b then 1 else ord xs ys
  | _, _ => 0

theorem ord_turn : ∀ xs ys, ord xs ys = - ord ys xs
  | a :: xs, b :: ys => by
    have := ord_turn xs ys
    simp only [ord]
    repeat' split
    all_goals omega
  | [], [] => rfl
  | [], _ :: _ => rfl
  | _ :: _, [] => rfl

theorem ord_zero : ∀ xs ys : List Int, xs.length = ys.length → (ord xs ys = 0 ↔ xs = ys)
  | a :: xs, b :: ys, h => by
    have := ord_zero xs ys (by simpa using h)
    simp only [ord, List.cons.injEq]
    rw [← this]
    repeat' split
    all_goals constructor
    all_goals omega
  | [], [], _ => by simp [ord]
  | [], _ :: _, h => by simp at h
  | _ :: _, [], h => by simp at h

theorem ord_trans : ∀ xs ys zs : List Int, xs.length = ys.length → ys.length = zs.length → ord xs ys ≤ 0 → ord ys zs ≤ 0 → ord xs zs ≤ 0
  | a :: xs, b :: ys, c :: zs, h1, h2 => by
    have := ord_trans xs ys zs (by simpa using h1) (by simpa using h2)
    simp only [ord]
    repeat' split
    all_goals omega
  | [], _, _, _, _ => by simp [ord]
  | _ :: _, [], _, h, _ => by simp at h
  | _ :: _, _ :: _, [], _, h => by simp at h

theorem ord_range : ∀ xs ys : List Int, ord xs ys = -1 ∨ ord xs ys = 0 ∨ ord xs ys = 1
  | a :: xs, b :: ys => by
    have := ord_range xs ys
    simp only [ord]
    repeat' split
    all_goals omega
  | [], _ => by simp [ord]
  | _ :: _, [] => by simp [ord]

def sg (a b : Int) : Int := if a < b then -1 else if a > b then 1 else 0

theorem ord_sg (a b : Int) (xs ys : List Int) : ord (a :: xs) (b :: ys) = if sg a b = 0 then ord xs ys else sg a b := by
  simp only [ord, sg]
  repeat' split
  all_goals first | rfl | omega

theorem cmp_f (a b : Int) : cmp_Compare_int.f a b = some (sg a b) := by
  unfold sg
  have h1 : cmp_isNaN_int.f a = some false := by simp [cmp_isNaN_int.f]
  have h2 : cmp_isNaN_int.f b = some false := by simp [cmp_isNaN_int.f]
  simp only [cmp_Compare_int.f, h1, h2, Option.bind_some]
  simp
  repeat' split
  all_goals first | rfl | omega

theorem or_step (x3 : Int) (l : List Int) (k n : Nat) (x : Int) (hn : l[n]? = some x) (hl : l.length < 1000) :
    cmp_Or_int.l0 (k + 1) x3 l (l.length : Int) (n : Int) = if x = x3 then cmp_Or_int.l0 k x3 l (l.length : Int) ((n + 1 : Nat) : Int) else some x := by
  have hlt := (List.getElem?_eq_some_iff.1 hn).1
  have hr : rd l (n : Int) = x := by simp [rd, hn]
  have hw : wrap64 ((n : Int) + 1) = ((n + 1 : Nat) : Int) := by
    unfold wrap64; omega
  rw [cmp_Or_int.l0, if_pos (by omega), if_pos (by omega), if_pos (by omega), hr, hw]

theorem or_end (x3 : Int) (l : List Int) (k : Nat) : cmp_Or_int.l0 (k + 1) x3 l (l.length : Int) (l.length : Int) = some x3 := by
  rw [cmp_Or_int.l0, if_neg (by omega)]

theorem or_seven (a b c d e f g : Int) : cmp_Or_int.f 8 [a, b, c, d, e, f, g] = some (if a = 0 then if b = 0 then if c = 0 then if d = 0 then if e = 0 then if f = 0 then if g = 0 then 0 else g else f else e else d else c else b else a) := by
  have hl : ([a, b, c, d, e, f, g] : List Int).length < 1000 := by simp
  rw [cmp_Or_int.f]
  rw [show (0 : Int) = ((0 : Nat) : Int) from rfl]
  rw [or_step _ _ 7 0 a rfl hl, or_step _ _ 6 1 b rfl hl, or_step _ _ 5 2 c rfl hl, or_step _ _ 4 3 d rfl hl, or_step _ _ 3 4 e rfl hl, or_step _ _ 2 5 f rfl hl, or_step _ _ 1 6 g rfl hl]
  have := or_end ((0 : Nat) : Int) [a, b, c, d, e, f, g] 0
  simp only [List.length_cons, List.length_nil] at this
  simp only [List.length_cons, List.length_nil, this]
  repeat' split
  all_goals rfl

theorem compare_f (a0 a1 a2 a3 a4 a5 a6 b0 b1 b2 b3 b4 b5 b6 : Int) : verdict_Compare.f 8 a0 a1 a2 a3 a4 a5 a6 b0 b1 b2 b3 b4 b5 b6 = some (ord [a0, a5, a1, a2, a3, a4, a6] [b0, b5, b1, b2, b3, b4, b6]) := by
  simp only [verdict_Compare.f, cmp_f, Option.bind_some, or_seven]
  simp only [ord_sg]
  simp only [ord]

theorem law (a0 a1 a2 a3 a4 a5 a6 b0 b1 b2 b3 b4 b5 b6 c0 c1 c2 c3 c4 c5 c6 : Int) : scarablaw23_VerdictOrder.f 8 a0 a1 a2 a3 a4 a5 a6 b0 b1 b2 b3 b4 b5 b6 c0 c1 c2 c3 c4 c5 c6 = some true := by
  simp only [scarablaw23_VerdictOrder.f, compare_f, Option.bind_some]
  have t := ord_turn [a0, a5, a1, a2, a3, a4, a6] [b0, b5, b1, b2, b3, b4, b6]
  have z := ord_zero [a0, a5, a1, a2, a3, a4, a6] [b0, b5, b1, b2, b3, b4, b6] rfl
  have tr := ord_trans [a0, a5, a1, a2, a3, a4, a6] [b0, b5, b1, b2, b3, b4, b6] [c0, c5, c1, c2, c3, c4, c6] rfl rfl
  have r := ord_range [b0, b5, b1, b2, b3, b4, b6] [a0, a5, a1, a2, a3, a4, a6]
  have hw : wrap64 (-ord [b0, b5, b1, b2, b3, b4, b6] [a0, a5, a1, a2, a3, a4, a6]) = -ord [b0, b5, b1, b2, b3, b4, b6] [a0, a5, a1, a2, a3, a4, a6] := by
    unfold wrap64; omega
  have he : ((ord [a0, a5, a1, a2, a3, a4, a6] [b0, b5, b1, b2, b3, b4, b6] == 0) == (a0 == b0 && ((a1 == b1 && (a2 == b2)) && ((a3 == b3 && (a4 == b4)) && (a5 == b5 && (a6 == b6)))))) = true := by
    rw [beq_iff_eq, Bool.eq_iff_iff, beq_iff_eq, z]
    simp
    intro _
    constructor
    · rintro ⟨h5, h1, h2, h3, h4, h6⟩; exact ⟨⟨h1, h2⟩, ⟨h3, h4⟩, h5, h6⟩
    · rintro ⟨⟨h1, h2⟩, ⟨h3, h4⟩, h5, h6⟩; exact ⟨h5, h1, h2, h3, h4, h6⟩
  rw [hw, if_pos t, if_pos he]
  have l : ord [1, 0, 0, 0, 0, 0, 0] [2, 0, 0, 0, 0, 0, 0] = -1 := by decide
  rw [l]
  repeat' split
  all_goals first | rfl | (exfalso; omega)
end Go.Proofs.Ytlolloejmdgkjaa.PureVerdictOrder
