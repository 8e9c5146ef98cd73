/- Loops whose heaps keep their shape; calls among other objects; what a function gives, told weaker. No condition. -/
import Derived.Test.YtmgbloidhmjbfaaXAv13
set_option linter.constructorNameAsVariable false
namespace Go.Av
open Go Go.RowKit
set_option linter.unusedSimpArgs false
set_option linter.unusedVariables false

def frLow (n : Nat) (fr : List (Nat × RV)) : Prop := ∀ p ∈ fr, RV.dom (· < n) p.2
@[simp] theorem frLow_nil (n : Nat) : frLow n [] := fun p h => by simp at h
@[simp] theorem frLow_cons (n : Nat) (p : Nat × RV) (fr : List (Nat × RV)) : frLow n (p :: fr) ↔ RV.dom (· < n) p.2 ∧ frLow n fr := by simp [frLow]
theorem lk_low {n : Nat} : ∀ {fr : List (Nat × RV)} (h : frLow n fr) (t : Nat), RV.dom (· < n) (lk fr t)
  | [], _, t => by simp [lk, RV.dom]
  | (s, x) :: fr, h, t => by
    rw [frLow_cons] at h
    rw [lk]
    split
    · exact h.1
    · exact lk_low h.2 t

theorem rel_cut {e0 : Env} {N : Nat} {D : List Deferred} {σ : AS} {a : Act} {w : World} {n : Nat} (h : Rel e0 N D σ a w) (hn : e0.H.length ≤ n) (hf : frLow n σ.fr) (hl : lowH n (σ.hp.take n)) : Rel e0 N D ⟨σ.fr, σ.hp.take n⟩ a w := by
  obtain ⟨e, rfl, hH, g, mv, hf', hN, hD⟩ := h
  obtain ⟨k1, k2, k3⟩ := cut_ok g mv hn (by rw [hH]; exact hl)
  exact ⟨⟨e.w, e.Im, e.ρ.take n, e.H.take n⟩, rfl, by simp only [hH], k1, k2, fun t => k3 _ _ (hf' t) (lk_low hf t), hN, hD⟩

theorem rel_len {e0 : Env} {N : Nat} {D : List Deferred} {σ : AS} {a : Act} {w : World} (g0 : Good e0) (h : Rel e0 N D σ a w) : e0.H.length ≤ σ.hp.length := by
  obtain ⟨e, rfl, hH, g, mv, _⟩ := h
  apply Nat.le_of_not_lt
  intro hc
  have h1 := List.getElem?_eq_getElem hc
  have h2 := List.getElem?_eq_getElem (l := e0.ρ) (i := σ.hp.length) (by rw [g0.len]; exact hc)
  obtain ⟨ob, _, h3, _⟩ := mv.nx _ _ _ h1 h2
  have := (List.getElem?_eq_some_iff.1 h3).1
  rw [hH] at this; omega

/-- **A LOOP**, with what was made in a round let go at its end. -/
theorem loop_cut {P : Program} (hmx : P.follows .mixedOrders = true) {rd : Option Nat} {c : ACode} {Q : AE → AS → Prop} {σ : AS} {α : Type} (I : α → AS → Prop) (μ : α → Nat) (x0 : α) (n : Nat) (hn : σ.hp.length = n) (h0 : I x0 σ)
    (round : ∀ x σ, I x σ → wpA P rd c (fun e σ' => match e with | .normal => ∃ x', frLow n σ'.fr ∧ lowH n (σ'.hp.take n) ∧ I x' ⟨σ'.fr, σ'.hp.take n⟩ ∧ μ x' < μ x | .exit id => Q (.exit id) σ' | .ret => Q .ret σ') σ) : LoopK P rd c Q σ := by
  intro N cd hc e0 g0 D a w hr
  have hlen : e0.H.length ≤ n := by rw [← hn]; exact rel_len g0 hr
  refine wpIn_loop (fun a w => ∃ n x σ, μ x = n ∧ I x σ ∧ Rel e0 N D σ a w) (fun a w => Go.leastOf fun n => ∃ x σ, μ x = n ∧ I x σ ∧ Rel e0 N D σ a w) ⟨_, x0, σ, rfl, h0, hr⟩ ?_
  intro a w hI
  obtain ⟨⟨x, σ, hx, hi, hr⟩, _⟩ := Go.leastOf_spec hI
  refine wpIn_mono (wpA_ok hmx g0 c cd hc _ σ (round x σ hi) a w hr) ?_
  intro e a' w' hq
  cases e with
  | normal =>
    obtain ⟨σ', ⟨x', h1, h2, hi', hlt⟩, hr'⟩ := hq
    have hr' := rel_cut hr' hlen h1 h2
    refine ⟨⟨_, x', _, rfl, hi', hr'⟩, ?_⟩
    have h2 := (Go.leastOf_spec (p := fun n => ∃ x σ, μ x = n ∧ I x σ ∧ Rel e0 N D σ a' w') ⟨_, x', _, rfl, hi', hr'⟩).2 _ ⟨x', _, rfl, hi', hr'⟩
    omega
  | exit id => exact hq
  | ret => exact hq
  | goto l => exact hq.elim
  | panic c => exact hq.elim
  | outgrown => exact hq.elim

def setfrs : List (Nat × RV) → List (Nat × RV) → List (Nat × RV)
  | fr, [] => fr
  | fr, (t, x) :: u => setfrs (setfr fr t x) u
theorem setfr_low {n : Nat} : ∀ {fr : List (Nat × RV)} {t : Nat} {x : RV}, frLow n fr → RV.dom (· < n) x → frLow n (setfr fr t x)
  | [], t, x, h, hx => by simp [setfr]
  | (s, y) :: fr, t, x, h, hx => by
    rw [frLow_cons] at h
    rw [setfr]
    split
    · rw [frLow_cons]; exact ⟨hx, h.2⟩
    · rw [frLow_cons]; exact ⟨h.1, setfr_low h.2 hx⟩
theorem setfrs_low {n : Nat} : ∀ {u fr : List (Nat × RV)}, frLow n fr → frLow n u → frLow n (setfrs fr u)
  | [], fr, h, _ => h
  | (t, x) :: u, fr, h, hu => by
    rw [frLow_cons] at hu
    rw [setfrs]
    exact setfrs_low (setfr_low h hu.1) hu.2

/-- What a round of a loop owes: the next state of it. -/
def whileQ {β : Type} (P : Program) (rd : Option Nat) (n : Nat) (U : β → List (Nat × RV)) (Hp : β → List AObj) (J : β → Prop) (μ : β → Nat) (fr : List (Nat × RV)) (b : β) (k : List Fr) (Q : AE → AS → Prop) : AE → AS → Prop
  | .normal, σ => ∃ b', σ.fr = setfrs fr (U b') ∧ σ.hp.take n = Hp b' ∧ J b' ∧ μ b' < μ b
  | .exit id, σ => leave P rd (.exit id) k Q σ
  | .ret, σ => leave P rd .ret k Q σ
section
variable {β : Type} (P : Program) (rd : Option Nat) (n : Nat) (U : β → List (Nat × RV)) (Hp : β → List AObj) (J : β → Prop) (μ : β → Nat) (fr : List (Nat × RV)) (b : β) (k : List Fr) (Q : AE → AS → Prop) (σ : AS)
@[simp] theorem whileQ_normal : whileQ P rd n U Hp J μ fr b k Q .normal σ = ∃ b', σ.fr = setfrs fr (U b') ∧ σ.hp.take n = Hp b' ∧ J b' ∧ μ b' < μ b := rfl
@[simp] theorem whileQ_exit (id : Nat) : whileQ P rd n U Hp J μ fr b k Q (.exit id) σ = leave P rd (.exit id) k Q σ := rfl
@[simp] theorem whileQ_ret : whileQ P rd n U Hp J μ fr b k Q .ret σ = leave P rd .ret k Q σ := rfl
end

/-- **A LOOP**, by its states: the slots and the objects that turn, of a value b. -/
theorem go_while {P : Program} (hmx : P.follows .mixedOrders = true) {rd : Option Nat} {c : ACode} {k : List Fr} {Q : AE → AS → Prop} {σ : AS} {β : Type} (n : Nat) (U : β → List (Nat × RV)) (Hp : β → List AObj) (J : β → Prop) (μ : β → Nat) (b0 : β)
    (hn : σ.hp.length = n) (h0 : σ.fr = setfrs σ.fr (U b0)) (hH : σ.hp = Hp b0) (hl : frLow n σ.fr) (hU : ∀ b, frLow n (U b)) (hHp : ∀ b, lowH n (Hp b)) (hJ : J b0)
    (round : ∀ b, J b → go P rd c [] (whileQ P rd n U Hp J μ σ.fr b k Q) ⟨setfrs σ.fr (U b), Hp b⟩) : goL P rd c k Q σ := by
  refine loop_cut hmx (fun b σ' => J b ∧ σ' = ⟨setfrs σ.fr (U b), Hp b⟩) μ b0 n hn ⟨hJ, by obtain ⟨fr, hp⟩ := σ; simp only at h0 hH; rw [← h0, ← hH]⟩ ?_
  rintro b _ ⟨hj, rfl⟩
  have := round b hj
  rw [← go_start] at this
  refine wpA_mono c ?_ this
  intro e σ' h
  cases e with
  | normal =>
    obtain ⟨b', h1, h2, h3, h4⟩ := h
    exact ⟨b', by rw [h1]; exact setfrs_low hl (hU b'), by rw [h2]; exact hHp b', ⟨h3, by rw [h1, h2]⟩, h4⟩
  | exit id => exact h
  | ret => exact h

/-- What a round over a list's items owes. -/
def eachQ {α β : Type} (P : Program) (rd : Option Nat) (n t : Nat) (U : β → List (Nat × RV)) (Hp : β → List AObj) (J : Nat → β → List α → Prop) (fr : List (Nat × RV)) (i : Nat) (rest : List α) (k : List Fr) (Q : AE → AS → Prop) : AE → AS → Prop
  | .normal, σ => ∃ b, σ.fr = setfrs fr ((t, .v (.i .i64 ((i : Int) + 1))) :: U b) ∧ σ.hp.take n = Hp b ∧ J (i + 1) b rest
  | .exit id, σ => leave P rd (.exit id) k Q σ
  | .ret, σ => leave P rd .ret k Q σ
section
variable {α β : Type} (P : Program) (rd : Option Nat) (n t : Nat) (U : β → List (Nat × RV)) (Hp : β → List AObj) (J : Nat → β → List α → Prop) (fr : List (Nat × RV)) (i : Nat) (rest : List α) (k : List Fr) (Q : AE → AS → Prop) (σ : AS)
@[simp] theorem eachQ_normal : eachQ P rd n t U Hp J fr i rest k Q .normal σ = ∃ b, σ.fr = setfrs fr ((t, .v (.i .i64 ((i : Int) + 1))) :: U b) ∧ σ.hp.take n = Hp b ∧ J (i + 1) b rest := rfl
@[simp] theorem eachQ_exit (id : Nat) : eachQ P rd n t U Hp J fr i rest k Q (.exit id) σ = leave P rd (.exit id) k Q σ := rfl
@[simp] theorem eachQ_ret : eachQ P rd n t U Hp J fr i rest k Q .ret σ = leave P rd .ret k Q σ := rfl
end

/-- **A LOOP OVER A LIST'S ITEMS**: slot t counts. -/
theorem go_each {P : Program} (hmx : P.follows .mixedOrders = true) {rd : Option Nat} {c : ACode} {k : List Fr} {Q : AE → AS → Prop} {σ : AS} {α β : Type} (n t : Nat) (xs : List α) (U : β → List (Nat × RV)) (Hp : β → List AObj) (J : Nat → β → List α → Prop) (b0 : β)
    (hlen : xs.length < 9223372036854775807) (hn : σ.hp.length = n) (h0 : σ.fr = setfrs σ.fr ((t, .v (.i .i64 0)) :: U b0)) (hH : σ.hp = Hp b0) (hl : frLow n σ.fr) (hU : ∀ b, frLow n (U b)) (hHp : ∀ b, lowH n (Hp b)) (hJ : J 0 b0 xs)
    (body : ∀ i x rest b (hi : i < xs.length), xs[i] = x → xs.drop (i + 1) = rest → J i b (x :: rest) → IntKind.i64.wrap ((i : Int) + 1) = (i : Int) + 1 →
      go P rd c [] (eachQ P rd n t U Hp J σ.fr i rest k Q) ⟨setfrs σ.fr ((t, .v (.i .i64 (i : Int))) :: U b), Hp b⟩)
    (done : ∀ b, J xs.length b [] → go P rd c [] (exitQ P rd k Q) ⟨setfrs σ.fr ((t, .v (.i .i64 (xs.length : Int))) :: U b), Hp b⟩) : goL P rd c k Q σ := by
  refine go_while hmx n (fun (s : Nat × β) => (t, .v (.i .i64 (s.1 : Int))) :: U s.2) (fun s => Hp s.2) (fun s => s.1 ≤ xs.length ∧ J s.1 s.2 (xs.drop s.1)) (fun s => xs.length - s.1) (0, b0) hn h0 hH hl (fun s => by rw [frLow_cons]; exact ⟨by simp [RV.dom], hU s.2⟩) (fun s => hHp s.2) ⟨Nat.zero_le _, hJ⟩ ?_
  rintro ⟨i, b⟩ ⟨hi, hj⟩
  simp only at hi hj
  by_cases hlt : i < xs.length
  · rw [List.drop_eq_getElem_cons hlt] at hj
    have := body i _ _ b hlt rfl rfl hj (by rw [wrap_in (by omega) (by omega)])
    rw [← go_start] at this ⊢
    refine wpA_mono c ?_ this
    intro e σ' h
    cases e with
    | normal =>
      obtain ⟨b', h1, h2, h3⟩ := h
      exact ⟨(i + 1, b'), h1, h2, ⟨by simp only; omega, h3⟩, by simp only; omega⟩
    | exit id => exact h
    | ret => exact h
  · obtain rfl : i = xs.length := by omega
    rw [List.drop_length] at hj
    have := done b hj
    rw [← go_start] at this ⊢
    refine wpA_mono c ?_ this
    intro e σ' h
    cases e with
    | normal => exact h.elim
    | exit id => exact h
    | ret => exact h

/-- What few objects are among many. -/
def amongH (H : List AObj) (π : List Nat) (m : Nat) : List Nat → List AObj → Prop
  | o :: l, ob :: K => (ob.dom (· < m) ∧ H[o]? = some (ob.ren (upN π H.length))) ∧ amongH H π m l K
  | _, _ => True
theorem amongH_get {H : List AObj} {π : List Nat} {m : Nat} : ∀ {l : List Nat} {K : List AObj}, amongH H π m l K → ∀ (j o : Nat) ob, l[j]? = some o → K[j]? = some ob → ob.dom (· < m) ∧ H[o]? = some (ob.ren (upN π H.length))
  | [], _, _, j, o, ob, h, _ => by simp at h
  | _ :: _, [], _, j, o, ob, _, h => by simp at h
  | o' :: l, ob' :: K, h, j, o, ob, h1, h2 => by
    simp only [amongH] at h
    cases j with
    | zero => simp at h1 h2; subst h1; subst h2; exact h.1
    | succ j => exact amongH_get h.2 j o ob (by simpa using h1) (by simpa using h2)

section
variable {P : Program} {rd : Option Nat} {k : List Fr} {Q : AE → AS → Prop} {σ : AS} {d : Option Nat} {m : Nat} {os : List AO} {f : AX} {args : List AX} {fid : Nat} {caps : Caps} {args0 : List RV} {H0 : List AObj} {R : RV → List AObj → Prop}
/-- A call whose contract is told of few objects: the caller's ones are π. -/
theorem callf (π : List Nat) (hf : fnv (ax σ.fr f) = some (fid, caps)) (hc : ∀ vs w, (callFunc fid vs).run P w = .ok (.enter fid vs) w) (h : CallS P fid args0 H0 R) (nd : π.Nodup) (hl : H0.length = π.length)
    (ha : domL (· < π.length) args0) (hH : amongH σ.hp π π.length π H0) (hx : capd caps (args.map (ax σ.fr)) = renL (upN π σ.hp.length) args0)
    (kk : ∀ r K, R r K → goR P rd os k Q ⟨upd σ.fr d (RV.ren (upN π σ.hp.length) r), putH σ.hp π K⟩) : goC P rd none f args d os k Q σ := by
  simp only [goC, CallK, hf]
  refine ⟨hc, ?_⟩
  rw [hx]
  exact (h.among π nd hl (amongH_get hH) ha).mono fun r' H' ⟨r, K, hR, h1, h2⟩ => by subst h1; subst h2; exact kk r K hR
end

section
variable {P : Program} {rd : Option Nat} {k : List Fr} {Q : AE → AS → Prop} {σ : AS} {d : Option Nat} {m : Nat} {os : List AO} {f : AX} {args : List AX} {fid : Nat} {caps : Caps} {args0 : List RV} {H0 : List AObj} {R : RV → List AObj → Prop} {l : List (List (Nat × RV) × AO × RV)}
theorem callfs (π : List Nat) (hf : fnv (ax σ.fr f) = some (fid, caps)) (hc : ∀ vs w, (callFunc fid vs).run P w = .ok (.enter fid vs) w) (h : CallS P fid args0 H0 R) (nd : π.Nodup) (hl : H0.length = π.length)
    (ha : domL (· < π.length) args0) (hH : amongH σ.hp π π.length π H0) (hx : capd caps (args.map (ax σ.fr)) = renL (upN π σ.hp.length) args0)
    (kk : ∀ r K, R r K → (putH σ.hp π K = σ.hp ∨ stab P l (putH σ.hp π K)) ∧ goS P rd l os k Q ⟨upd σ.fr d (RV.ren (upN π σ.hp.length) r), putH σ.hp π K⟩) : goCS P rd l none f args d os k Q σ := by
  simp only [goCS, CallK, hf]
  refine ⟨hc, ?_⟩
  rw [hx]
  exact (h.among π nd hl (amongH_get hH) ha).mono fun r' H' ⟨r, K, hR, h1, h2⟩ => by subst h1; subst h2; exact kk r K hR
end

/-! ### Told weaker: nil is an empty list -/
inductive Wk : AV → AV → Prop
  | refl (a : AV) : Wk a a
  | nil (sz : Nat) : Wk .nil (.sl sz [])
  | tup {xs ys : List AV} (hl : xs.length = ys.length) (h : ∀ (j : Nat) x y, xs[j]? = some x → ys[j]? = some y → Wk x y) : Wk (.tup xs) (.tup ys)
  | g {xs ys : List AV} (hl : xs.length = ys.length) (h : ∀ (j : Nat) x y, xs[j]? = some x → ys[j]? = some y → Wk x y) : Wk (.g xs) (.g ys)
theorem Wk.vi {w : World} {Im : Nat → Prop} {a b : AV} (h : Wk a b) : ∀ {c : Value}, VI w Im a c → VI w Im b c := by
  induction h with
  | refl a => intro c h; exact h
  | nil sz => intro c h; cases h; exact .sle _ _ _
  | @tup xs ys hl _ ih =>
    intro c h
    cases h with
    | tup _ vs hn h =>
      refine .tup _ vs (by omega) fun j y c hy hc => ?_
      have hj : j < vs.size := (Array.getElem?_eq_some_iff.1 hc).1
      have hx := List.getElem?_eq_getElem (l := xs) (i := j) (by omega)
      exact ih j _ y hx hy (h j _ c hx hc)
  | @g xs ys hl _ ih =>
    intro c h
    cases h with
    | g _ vs hn h1 h =>
      refine .g _ vs (by omega) h1 fun j y c hy hc => ?_
      have hj : j < vs.size := (Array.getElem?_eq_some_iff.1 hc).1
      have hx := List.getElem?_eq_getElem (l := xs) (i := j) (by omega)
      exact ih j _ y hx hy (h j _ c hx hc)
def WkL : List AV → List AV → Prop
  | [], [] => True
  | x :: xs, y :: ys => Wk x y ∧ WkL xs ys
  | _, _ => False
theorem WkL.get : ∀ {xs ys : List AV}, WkL xs ys → xs.length = ys.length ∧ ∀ (j : Nat) x y, xs[j]? = some x → ys[j]? = some y → Wk x y
  | [], [], _ => ⟨rfl, fun j x y h => by simp at h⟩
  | x :: xs, y :: ys, h => by
    obtain ⟨h1, h2⟩ := h
    obtain ⟨h3, h4⟩ := WkL.get h2
    refine ⟨by simp [h3], fun j a b ha hb => ?_⟩
    cases j with
    | zero => simp at ha hb; subst ha; subst hb; exact h1
    | succ j => exact h4 j a b (by simpa using ha) (by simpa using hb)
  | [], _ :: _, h => h.elim
  | _ :: _, [], h => h.elim
theorem WkL.refl : ∀ (xs : List AV), WkL xs xs
  | [] => trivial
  | x :: xs => ⟨.refl x, WkL.refl xs⟩
theorem WkL.of : ∀ {xs ys : List AV}, xs.length = ys.length → (∀ (j : Nat) x y, xs[j]? = some x → ys[j]? = some y → Wk x y) → WkL xs ys
  | [], [], _, _ => trivial
  | x :: xs, y :: ys, hl, h => ⟨h 0 x y rfl rfl, WkL.of (by simpa using hl) fun j a b ha hb => h (j + 1) a b (by simpa using ha) (by simpa using hb)⟩
  | [], _ :: _, hl, _ => by simp at hl
  | _ :: _, [], hl, _ => by simp at hl
@[simp] theorem wkL_nil : WkL [] [] = True := rfl
@[simp] theorem wkL_cons (x y : AV) (xs ys : List AV) : WkL (x :: xs) (y :: ys) = (Wk x y ∧ WkL xs ys) := rfl
@[simp] theorem wk_tup (xs ys : List AV) : Wk (.tup xs) (.tup ys) ↔ WkL xs ys := by
  constructor
  · intro h
    cases h with
    | refl => exact .refl _
    | tup hl h => exact .of hl h
  · intro h; exact .tup h.get.1 h.get.2
@[simp] theorem wk_g (xs ys : List AV) : Wk (.g xs) (.g ys) ↔ WkL xs ys := by
  constructor
  · intro h
    cases h with
    | refl => exact .refl _
    | g hl h => exact .of hl h
  · intro h; exact .g h.get.1 h.get.2
@[simp] theorem wk_i (k k' : IntKind) (n n' : Int) : Wk (.i k n) (.i k' n') ↔ (k = k' ∧ n = n') := by
  constructor
  · intro h; cases h; exact ⟨rfl, rfl⟩
  · rintro ⟨rfl, rfl⟩; exact .refl _
@[simp] theorem wk_b (x y : Bool) : Wk (.b x) (.b y) ↔ x = y := by
  constructor
  · intro h; cases h; rfl
  · rintro rfl; exact .refl _
@[simp] theorem wk_s (x y : List UInt8) : Wk (.s x) (.s y) ↔ x = y := by
  constructor
  · intro h; cases h; rfl
  · rintro rfl; exact .refl _
@[simp] theorem wk_nil (sz : Nat) (l : List (List AV)) : Wk .nil (.sl sz l) ↔ l = [] := by
  constructor
  · intro h; cases h; rfl
  · rintro rfl; exact .nil _
@[simp] theorem wk_sl (sz sz' : Nat) (l l' : List (List AV)) : Wk (.sl sz l) (.sl sz' l') ↔ (sz = sz' ∧ l = l') := by
  constructor
  · intro h; cases h; exact ⟨rfl, rfl⟩
  · rintro ⟨rfl, rfl⟩; exact .refl _
@[simp] theorem wk_rfl (a : AV) : Wk a a ↔ True := by simp [Wk.refl]

/-- **WHAT COMES OUT, LET GO, AND TOLD WEAKER**, is a plain value. -/
theorem pure_wk {P : Program} {f : Nat} {args : List AV} {b : AV} (h : CallS P f (args.map .v) [] fun r H' => ∃ a, Frz H' r a ∧ Wk a b) : PureS P f args b := by
  intro e vs g hH hn hv
  refine (h e vs g hH hn hv).mono fun E w' ⟨c, e', r, hE, hw, g', mv, hr, a, hR, hwk⟩ => ?_
  refine ⟨c, ⟨e'.w, fun b => e'.Im b ∨ e'.own b, [], []⟩, .v b, hE, hw, freeze_all g', ?_, .v (hwk.vi (frz_ok g' hR hr)), rfl⟩
  refine ⟨mv.os, mv.tape, mv.output, mv.size, mv.same, fun b hb => .inl (mv.im b hb), mv.imw, ?_, ?_, ?_⟩
  · rintro b (hb | hb)
    · exact mv.imn b hb
    · rcases mv.ownn b hb with h1 | h1
      · exact .inr (.inl h1)
      · exact .inr (.inr h1)
  · intro o ob lo h1
    rw [hH] at h1
    simp at h1
  · rintro b ⟨o, l, h1, _⟩
    simp at h1
theorem pure_wkv {P : Program} {f : Nat} {args : List AV} {b : AV} (h : CallS P f (args.map .v) [] fun r H' => ∃ a, r = .v a ∧ Wk a b) : PureS P f args b :=
  pure_wk (h.mono fun r H' ⟨a, h1, h2⟩ => ⟨a, by subst h1; exact .v a, h2⟩)
attribute [simp] setfrs amongH putP putH upN RV.ren renL RV.dom domL
end Go.Av
