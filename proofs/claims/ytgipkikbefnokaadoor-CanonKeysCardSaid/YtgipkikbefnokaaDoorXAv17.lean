/- Loops whose heaps grow: what was made in a round may stay. No condition. -/
import Derived.Test.YtgipkikbefnokaaDoorXAv14
set_option linter.constructorNameAsVariable false
namespace Go.Av
open Go Go.RowKit
set_option linter.unusedSimpArgs false
set_option linter.unusedVariables false
theorem loop_grow {P : Program} (hmx : P.follows .mixedOrders = true) {rd : Option Nat} {c : ACode} {Q : AE → AS → Prop} {σ : AS} {α : Type} (I : α → AS → Prop) (μ : α → Nat) (x0 : α) (n : Nat) (hn : σ.hp.length = n) (h0 : I x0 σ)
    (round : ∀ x σ, I x σ → wpA P rd c (fun e σ' => match e with | .normal => ∃ x' n', n ≤ n' ∧ frLow n' σ'.fr ∧ lowH n' (σ'.hp.take n') ∧ I x' ⟨σ'.fr, σ'.hp.take n'⟩ ∧ μ x' < μ x | .exit id => Q (.exit id) σ' | .ret => Q .ret σ') σ) : LoopK P rd c Q σ := by
  intro pf N cd hc e0 g0 t0 D a w hr
  have hlen : e0.H.length ≤ n := by rw [← hn]; exact rel_len g0 hr
  refine wpIn_loop (fun a w => ∃ n x σ, μ x = n ∧ I x σ ∧ Rel e0 N D σ a w) (fun a w => Go.leastOf fun n => ∃ x σ, μ x = n ∧ I x σ ∧ Rel e0 N D σ a w) ⟨_, x0, σ, rfl, h0, hr⟩ ?_
  intro a w hI
  obtain ⟨⟨x, σ, hx, hi, hr⟩, _⟩ := Go.leastOf_spec hI
  refine wpIn_mono (wpA_ok hmx g0 t0 c cd hc _ σ (round x σ hi) a w hr) ?_
  intro e a' w' hq
  cases e with
  | normal =>
    obtain ⟨σ', ⟨x', n', hnn, h1, h2, hi', hlt⟩, hr'⟩ := hq
    have hr' := rel_cut hr' (Nat.le_trans hlen hnn) h1 h2
    refine ⟨⟨_, x', _, rfl, hi', hr'⟩, ?_⟩
    have h2 := (Go.leastOf_spec (p := fun n => ∃ x σ, μ x = n ∧ I x σ ∧ Rel e0 N D σ a' w') ⟨_, x', _, rfl, hi', hr'⟩).2 _ ⟨x', _, rfl, hi', hr'⟩
    omega
  | exit id => exact hq
  | ret => exact hq
  | goto l => exact hq.elim
  | panic c => exact hq.elim
  | outgrown => exact hq.elim

mutual
theorem RV.dom_mono {p q : Nat → Prop} (h : ∀ o, p o → q o) : ∀ {x : RV}, RV.dom p x → RV.dom q x
  | .v _, _ => by simp [RV.dom]
  | .any, _ => by simp [RV.dom]
  | .bo, _ => by simp [RV.dom]
  | .os _ _, hx => by simp only [RV.dom] at hx ⊢; exact h _ hx
  | .sub _ _ _ _, hx => by simp only [RV.dom] at hx ⊢; exact h _ hx
  | .pt _ _ _ _, hx => by simp only [RV.dom] at hx ⊢; exact h _ hx
  | .fr _ _, hx => by simp only [RV.dom] at hx ⊢; exact domL_mono h hx
  | .bf _ _, hx => by simp only [RV.dom] at hx ⊢; exact domL_mono h hx
  | .tr _, hx => by simp only [RV.dom] at hx ⊢; exact domL_mono h hx
  | .gr _, hx => by simp only [RV.dom] at hx ⊢; exact domL_mono h hx
  | .cnd _ _, hx => by simp only [RV.dom] at hx ⊢; exact RV.dom_mono h hx
  | .yl _ _, hx => by simp only [RV.dom] at hx
theorem domL_mono {p q : Nat → Prop} (h : ∀ o, p o → q o) : ∀ {l : List RV}, domL p l → domL q l
  | [], _ => by simp [domL]
  | x :: l, hx => by simp only [domL] at hx ⊢; exact ⟨RV.dom_mono h hx.1, domL_mono h hx.2⟩
end
theorem frLow_mono {n m : Nat} (h : n ≤ m) : ∀ {fr : List (Nat × RV)}, frLow n fr → frLow m fr := fun {fr} hf p hp => RV.dom_mono (fun o ho => Nat.lt_of_lt_of_le ho h) (hf p hp)

def growQ {β : Type} (P : Program) (rd : Option Nat) (U : β → List (Nat × RV)) (Hp : β → List AObj) (J : β → Prop) (μ : β → Nat) (fr : List (Nat × RV)) (b : β) (k : List Fr) (Q : AE → AS → Prop) : AE → AS → Prop
  | .normal, σ => ∃ b', σ.fr = setfrs fr (U b') ∧ σ.hp.take (Hp b').length = Hp b' ∧ J b' ∧ μ b' < μ b
  | .exit id, σ => leave P rd (.exit id) k Q σ
  | .ret, σ => leave P rd .ret k Q σ
section
variable {β : Type} (P : Program) (rd : Option Nat) (U : β → List (Nat × RV)) (Hp : β → List AObj) (J : β → Prop) (μ : β → Nat) (fr : List (Nat × RV)) (b : β) (k : List Fr) (Q : AE → AS → Prop) (σ : AS)
@[simp] theorem growQ_normal : growQ P rd U Hp J μ fr b k Q .normal σ = ∃ b', σ.fr = setfrs fr (U b') ∧ σ.hp.take (Hp b').length = Hp b' ∧ J b' ∧ μ b' < μ b := rfl
@[simp] theorem growQ_exit (id : Nat) : growQ P rd U Hp J μ fr b k Q (.exit id) σ = leave P rd (.exit id) k Q σ := rfl
@[simp] theorem growQ_ret : growQ P rd U Hp J μ fr b k Q .ret σ = leave P rd .ret k Q σ := rfl
end

theorem go_grow {P : Program} (hmx : P.follows .mixedOrders = true) {rd : Option Nat} {c : ACode} {k : List Fr} {Q : AE → AS → Prop} {σ : AS} {β : Type} (n : Nat) (U : β → List (Nat × RV)) (Hp : β → List AObj) (J : β → Prop) (μ : β → Nat) (b0 : β)
    (hn : σ.hp.length = n) (h0 : σ.fr = setfrs σ.fr (U b0)) (hH : σ.hp = Hp b0) (hl : frLow n σ.fr) (hg : ∀ b, J b → n ≤ (Hp b).length) (hU : ∀ b, J b → frLow (Hp b).length (U b)) (hHp : ∀ b, J b → lowH (Hp b).length (Hp b)) (hJ : J b0)
    (round : ∀ b, J b → go P rd c [] (growQ P rd U Hp J μ σ.fr b k Q) ⟨setfrs σ.fr (U b), Hp b⟩) : goL P rd c k Q σ := by
  refine loop_grow hmx (fun b σ' => J b ∧ σ' = ⟨setfrs σ.fr (U b), Hp b⟩) μ b0 n hn ⟨hJ, by obtain ⟨fr, hp⟩ := σ; simp only at h0 hH; rw [← h0, ← hH]⟩ ?_
  rintro b _ ⟨hj, rfl⟩
  have := round b hj
  rw [← go_start] at this
  refine wpA_mono c ?_ this
  intro e σ' h
  cases e with
  | normal =>
    obtain ⟨b', h1, h2, h3, h4⟩ := h
    exact ⟨b', (Hp b').length, hg b' h3, by rw [h1]; exact setfrs_low (frLow_mono (hg b' h3) hl) (hU b' h3), by rw [h2]; exact hHp b' h3, ⟨h3, by rw [h1, h2]⟩, h4⟩
  | exit id => exact h
  | ret => exact h
end Go.Av
/- A loop gone through so many times. No condition. -/
namespace Go.Av
open Go Go.RowKit
mutual
def goU (P : Program) (rd : Option Nat) (c : ACode) (k : List Fr) (Q : AE → AS → Prop) : Nat → AS → Prop
  | 0, _ => False
  | n + 1, σ => go P rd c [] (unQ P rd c k Q n) σ
def unQ (P : Program) (rd : Option Nat) (c : ACode) (k : List Fr) (Q : AE → AS → Prop) : Nat → AE → AS → Prop
  | n, .normal, σ => goU P rd c k Q n σ
  | _, .exit id, σ => leave P rd (.exit id) k Q σ
  | _, .ret, σ => leave P rd .ret k Q σ
end
section
variable (P : Program) (rd : Option Nat) (c : ACode) (k : List Fr) (Q : AE → AS → Prop) (σ : AS) (n : Nat)
theorem goU_succ : goU P rd c k Q (n + 1) σ = go P rd c [] (unQ P rd c k Q n) σ := by rw [goU]
@[simp] theorem unQ_normal : unQ P rd c k Q n .normal σ = goU P rd c k Q n σ := by rw [unQ]
@[simp] theorem unQ_exit (id : Nat) : unQ P rd c k Q n (.exit id) σ = leave P rd (.exit id) k Q σ := by rw [unQ]
@[simp] theorem unQ_ret : unQ P rd c k Q n .ret σ = leave P rd .ret k Q σ := by rw [unQ]
end
theorem go_unroll {P : Program} (hmx : P.follows .mixedOrders = true) {rd : Option Nat} {c : ACode} {k : List Fr} {Q : AE → AS → Prop} {σ : AS} (n : Nat) (h : goU P rd c k Q n σ) : goL P rd c k Q σ := by
  refine go_rounds hmx (fun m σ => goU P rd c k Q m σ) id n h fun m σ hm => ?_
  cases m with
  | zero => rw [goU] at hm; exact hm.elim
  | succ m =>
    rw [goU_succ, ← go_start] at hm
    rw [← go_start]
    refine wpA_mono c ?_ hm
    intro e σ' he
    cases e with
    | normal => rw [unQ_normal] at he; exact ⟨m, he, Nat.lt_succ_self m⟩
    | exit id => rw [unQ_exit] at he; exact he
    | ret => rw [unQ_ret] at he; exact he
theorem PureS.weak {P : Program} {f : Nat} {xs ys : List AV} {r : AV} (h : PureS P f ys r) (w : WkL xs ys) : PureS P f xs r := fun e vs g tb hH hn hv =>
  h e vs g tb hH (by rw [hn]; simp [w.get.1]) fun j x y hx hy => by
    rw [List.getElem?_map, Option.map_eq_some_iff] at hx
    obtain ⟨b, hb, rfl⟩ := hx
    have hj := (List.getElem?_eq_some_iff.1 hb).1
    have ha : xs[j]? = some (xs[j]'(by rw [w.get.1]; exact hj)) := List.getElem?_eq_getElem _
    have hv' := hv j (.v _) y (by rw [List.getElem?_map, ha]; rfl) hy
    cases hv' with | v hv' => exact .v ((w.get.2 j _ _ ha hb).vi hv')
theorem take_vrows (l : List (List AV)) (n : Nat) : List.take n (vrows l) = vrows (l.take n) := by simp [vrows, List.map_take]
theorem drop_vrows (l : List (List AV)) (n : Nat) : List.drop n (vrows l) = vrows (l.drop n) := by simp [vrows, List.map_drop]
theorem rep_vrows (n : Nat) (x : AV) : List.replicate n [RV.v x] = vrows (List.replicate n [x]) := by simp [vrows]
theorem vrows_at (l : List (List AV)) (i : Nat) (h : i < (vrows l).length) : (vrows l)[i] = (l[i]'(by simpa [vrows] using h)).map .v := by simp [vrows]
@[simp] theorem i64_0 : IntKind.i64.wrap 0 = 0 := by decide
@[simp] theorem i64_1 : IntKind.i64.wrap 1 = 1 := by decide
@[simp] theorem i64_2 : IntKind.i64.wrap 2 = 2 := by decide
@[simp] theorem i64_3 : IntKind.i64.wrap 3 = 3 := by decide
@[simp] theorem i64_4 : IntKind.i64.wrap 4 = 4 := by decide
@[simp] theorem i64_5 : IntKind.i64.wrap 5 = 5 := by decide
@[simp] theorem i64_6 : IntKind.i64.wrap 6 = 6 := by decide
@[simp] theorem i64_7 : IntKind.i64.wrap 7 = 7 := by decide
@[simp] theorem i64_8 : IntKind.i64.wrap 8 = 8 := by decide
@[simp] theorem i64_9 : IntKind.i64.wrap 9 = 9 := by decide
@[simp] theorem i64_10 : IntKind.i64.wrap 10 = 10 := by decide
@[simp] theorem i64_11 : IntKind.i64.wrap 11 = 11 := by decide
@[simp] theorem i64_12 : IntKind.i64.wrap 12 = 12 := by decide
end Go.Av
