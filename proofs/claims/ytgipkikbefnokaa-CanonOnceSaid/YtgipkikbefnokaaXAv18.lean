/- A loop gone through so many times. No condition. -/
import Derived.Test.YtgipkikbefnokaaXAv14
import Derived.Test.YtgipkikbefnokaaXAv17
namespace Go.Av
open Go Go.RowKit
mutual
def goU (P : Program) (rd : Option Nat) (c : ACode) (k : List Fr) (Q : AE → AS → Prop) : Nat → AS → Prop
  | 0, _ => False
  | n + 1, σ => go P rd c [] (unQ P rd c k Q n) σ
def unQ (P : Program) (rd : Option Nat) (c : ACode) (k : List Fr) (Q : AE → AS → Prop) : Nat → AE → AS → Prop
  | n, .normal, σ => goU P rd c k Q n σ
  | _, .exit id, σ => leave P rd (.exit id) k Q σ
  | _, .ret, σ => leave P rd .ret k Q σ
end
section
variable (P : Program) (rd : Option Nat) (c : ACode) (k : List Fr) (Q : AE → AS → Prop) (σ : AS) (n : Nat)
theorem goU_succ : goU P rd c k Q (n + 1) σ = go P rd c [] (unQ P rd c k Q n) σ := by rw [goU]
@[simp] theorem unQ_normal : unQ P rd c k Q n .normal σ = goU P rd c k Q n σ := by rw [unQ]
@[simp] theorem unQ_exit (id : Nat) : unQ P rd c k Q n (.exit id) σ = leave P rd (.exit id) k Q σ := by rw [unQ]
@[simp] theorem unQ_ret : unQ P rd c k Q n .ret σ = leave P rd .ret k Q σ := by rw [unQ]
end
theorem go_unroll {P : Program} (hmx : P.follows .mixedOrders = true) {rd : Option Nat} {c : ACode} {k : List Fr} {Q : AE → AS → Prop} {σ : AS} (n : Nat) (h : goU P rd c k Q n σ) : goL P rd c k Q σ := by
  refine go_rounds hmx (fun m σ => goU P rd c k Q m σ) id n h fun m σ hm => ?_
  cases m with
  | zero => rw [goU] at hm; exact hm.elim
  | succ m =>
    rw [goU_succ, ← go_start] at hm
    rw [← go_start]
    refine wpA_mono c ?_ hm
    intro e σ' he
    cases e with
    | normal => rw [unQ_normal] at he; exact ⟨m, he, Nat.lt_succ_self m⟩
    | exit id => rw [unQ_exit] at he; exact he
    | ret => rw [unQ_ret] at he; exact he
theorem PureS.weak {P : Program} {f : Nat} {xs ys : List AV} {r : AV} (h : PureS P f ys r) (w : WkL xs ys) : PureS P f xs r := fun e vs g hH hn hv =>
  h e vs g hH (by rw [hn]; simp [w.get.1]) fun j x y hx hy => by
    rw [List.getElem?_map, Option.map_eq_some_iff] at hx
    obtain ⟨b, hb, rfl⟩ := hx
    have hj := (List.getElem?_eq_some_iff.1 hb).1
    have ha : xs[j]? = some (xs[j]'(by rw [w.get.1]; exact hj)) := List.getElem?_eq_getElem _
    have hv' := hv j (.v _) y (by rw [List.getElem?_map, ha]; rfl) hy
    cases hv' with | v hv' => exact .v ((w.get.2 j _ _ ha hb).vi hv')
theorem take_vrows (l : List (List AV)) (n : Nat) : List.take n (vrows l) = vrows (l.take n) := by simp [vrows, List.map_take]
theorem drop_vrows (l : List (List AV)) (n : Nat) : List.drop n (vrows l) = vrows (l.drop n) := by simp [vrows, List.map_drop]
theorem rep_vrows (n : Nat) (x : AV) : List.replicate n [RV.v x] = vrows (List.replicate n [x]) := by simp [vrows]
theorem vrows_at (l : List (List AV)) (i : Nat) (h : i < (vrows l).length) : (vrows l)[i] = (l[i]'(by simpa [vrows] using h)).map .v := by simp [vrows]
@[simp] theorem i64_0 : IntKind.i64.wrap 0 = 0 := by decide
@[simp] theorem i64_1 : IntKind.i64.wrap 1 = 1 := by decide
@[simp] theorem i64_2 : IntKind.i64.wrap 2 = 2 := by decide
@[simp] theorem i64_3 : IntKind.i64.wrap 3 = 3 := by decide
@[simp] theorem i64_4 : IntKind.i64.wrap 4 = 4 := by decide
@[simp] theorem i64_5 : IntKind.i64.wrap 5 = 5 := by decide
@[simp] theorem i64_6 : IntKind.i64.wrap 6 = 6 := by decide
@[simp] theorem i64_7 : IntKind.i64.wrap 7 = 7 := by decide
@[simp] theorem i64_8 : IntKind.i64.wrap 8 = 8 := by decide
@[simp] theorem i64_9 : IntKind.i64.wrap 9 = 9 := by decide
@[simp] theorem i64_10 : IntKind.i64.wrap 10 = 10 := by decide
@[simp] theorem i64_11 : IntKind.i64.wrap 11 = 11 := by decide
@[simp] theorem i64_12 : IntKind.i64.wrap 12 = 12 := by decide
end Go.Av
