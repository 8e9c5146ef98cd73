/- Loops whose heaps keep their shape; calls among other objects; what a function gives, told weaker. No condition. -/
import Derived.Test.YtgipkikbefnokaaDoorXAv12
set_option linter.constructorNameAsVariable false
namespace Go.Av
open Go Go.RowKit
set_option linter.unusedSimpArgs false
set_option linter.unusedVariables false

theorem lk_low {n : Nat} : ∀ {fr : List (Nat × RV)} (h : frLow n fr) (t : Nat), RV.dom (· < n) (lk fr t)
  | [], _, t => by simp [lk, RV.dom]
  | (s, x) :: fr, h, t => by
    rw [frLow_cons] at h
    rw [lk]
    split
    · exact h.1
    · exact lk_low h.2 t

theorem rel_cut {e0 : Env} {N : Nat} {D : List Deferred} {σ : AS} {a : Act} {w : World} {n : Nat} (h : Rel e0 N D σ a w) (hn : e0.H.length ≤ n) (hf : frLow n σ.fr) (hl : lowH n (σ.hp.take n)) : Rel e0 N D ⟨σ.fr, σ.hp.take n⟩ a w := by
  obtain ⟨e, rfl, hH, g, mv, hf', hN, hD⟩ := h
  obtain ⟨k1, k2, k3⟩ := cut_ok g mv hn (by rw [hH]; exact hl)
  exact ⟨⟨e.w, e.Im, e.ρ.take n, e.H.take n⟩, rfl, by simp only [hH], k1, k2, fun t => k3 _ _ (hf' t) (lk_low hf t), hN, hD.sub rfl (fun _ h => h) fun b ⟨o, l, ho, hb⟩ => ⟨o, l, (by
    have ho : (e.ρ.take n)[o]? = some (some l) := ho
    rw [List.getElem?_take] at ho
    split at ho
    · exact ho
    · cases ho), hb⟩⟩

theorem rel_len {e0 : Env} {N : Nat} {D : List Deferred} {σ : AS} {a : Act} {w : World} (g0 : Good e0) (h : Rel e0 N D σ a w) : e0.H.length ≤ σ.hp.length := by
  obtain ⟨e, rfl, hH, g, mv, _⟩ := h
  apply Nat.le_of_not_lt
  intro hc
  have h1 := List.getElem?_eq_getElem hc
  have h2 := List.getElem?_eq_getElem (l := e0.ρ) (i := σ.hp.length) (by rw [g0.len]; exact hc)
  obtain ⟨ob, _, h3, _⟩ := mv.nx _ _ _ h1 h2
  have := (List.getElem?_eq_some_iff.1 h3).1
  rw [hH] at this; omega

theorem loop_cut {P : Program} (hmx : P.follows .mixedOrders = true) {rd : Option Nat} {c : ACode} {Q : AE → AS → Prop} {σ : AS} {α : Type} (I : α → AS → Prop) (μ : α → Nat) (x0 : α) (n : Nat) (hn : σ.hp.length = n) (h0 : I x0 σ)
    (round : ∀ x σ, I x σ → wpA P rd c (fun e σ' => match e with | .normal => ∃ x', frLow n σ'.fr ∧ lowH n (σ'.hp.take n) ∧ I x' ⟨σ'.fr, σ'.hp.take n⟩ ∧ μ x' < μ x | .exit id => Q (.exit id) σ' | .ret => Q .ret σ') σ) : LoopK P rd c Q σ := by
  intro pf N cd hc e0 g0 t0 D a w hr
  have hlen : e0.H.length ≤ n := by rw [← hn]; exact rel_len g0 hr
  refine wpIn_loop (fun a w => ∃ n x σ, μ x = n ∧ I x σ ∧ Rel e0 N D σ a w) (fun a w => Go.leastOf fun n => ∃ x σ, μ x = n ∧ I x σ ∧ Rel e0 N D σ a w) ⟨_, x0, σ, rfl, h0, hr⟩ ?_
  intro a w hI
  obtain ⟨⟨x, σ, hx, hi, hr⟩, _⟩ := Go.leastOf_spec hI
  refine wpIn_mono (wpA_ok hmx g0 t0 c cd hc _ σ (round x σ hi) a w hr) ?_
  intro e a' w' hq
  cases e with
  | normal =>
    obtain ⟨σ', ⟨x', h1, h2, hi', hlt⟩, hr'⟩ := hq
    have hr' := rel_cut hr' hlen h1 h2
    refine ⟨⟨_, x', _, rfl, hi', hr'⟩, ?_⟩
    have h2 := (Go.leastOf_spec (p := fun n => ∃ x σ, μ x = n ∧ I x σ ∧ Rel e0 N D σ a' w') ⟨_, x', _, rfl, hi', hr'⟩).2 _ ⟨x', _, rfl, hi', hr'⟩
    omega
  | exit id => exact hq
  | ret => exact hq
  | goto l => exact hq.elim
  | panic c => exact hq.elim
  | outgrown => exact hq.elim

def setfrs : List (Nat × RV) → List (Nat × RV) → List (Nat × RV)
  | fr, [] => fr
  | fr, (t, x) :: u => setfrs (setfr fr t x) u
theorem setfr_low {n : Nat} : ∀ {fr : List (Nat × RV)} {t : Nat} {x : RV}, frLow n fr → RV.dom (· < n) x → frLow n (setfr fr t x)
  | [], t, x, h, hx => by simp [setfr]
  | (s, y) :: fr, t, x, h, hx => by
    rw [frLow_cons] at h
    rw [setfr]
    split
    · rw [frLow_cons]; exact ⟨hx, h.2⟩
    · rw [frLow_cons]; exact ⟨h.1, setfr_low h.2 hx⟩
theorem setfrs_low {n : Nat} : ∀ {u fr : List (Nat × RV)}, frLow n fr → frLow n u → frLow n (setfrs fr u)
  | [], fr, h, _ => h
  | (t, x) :: u, fr, h, hu => by
    rw [frLow_cons] at hu
    rw [setfrs]
    exact setfrs_low (setfr_low h hu.1) hu.2

def whileQ {β : Type} (P : Program) (rd : Option Nat) (n : Nat) (U : β → List (Nat × RV)) (Hp : β → List AObj) (J : β → Prop) (μ : β → Nat) (fr : List (Nat × RV)) (b : β) (k : List Fr) (Q : AE → AS → Prop) : AE → AS → Prop
  | .normal, σ => ∃ b', σ.fr = setfrs fr (U b') ∧ σ.hp.take n = Hp b' ∧ J b' ∧ μ b' < μ b
  | .exit id, σ => leave P rd (.exit id) k Q σ
  | .ret, σ => leave P rd .ret k Q σ
section
variable {β : Type} (P : Program) (rd : Option Nat) (n : Nat) (U : β → List (Nat × RV)) (Hp : β → List AObj) (J : β → Prop) (μ : β → Nat) (fr : List (Nat × RV)) (b : β) (k : List Fr) (Q : AE → AS → Prop) (σ : AS)
@[simp] theorem whileQ_normal : whileQ P rd n U Hp J μ fr b k Q .normal σ = ∃ b', σ.fr = setfrs fr (U b') ∧ σ.hp.take n = Hp b' ∧ J b' ∧ μ b' < μ b := rfl
@[simp] theorem whileQ_exit (id : Nat) : whileQ P rd n U Hp J μ fr b k Q (.exit id) σ = leave P rd (.exit id) k Q σ := rfl
@[simp] theorem whileQ_ret : whileQ P rd n U Hp J μ fr b k Q .ret σ = leave P rd .ret k Q σ := rfl
end

theorem go_while {P : Program} (hmx : P.follows .mixedOrders = true) {rd : Option Nat} {c : ACode} {k : List Fr} {Q : AE → AS → Prop} {σ : AS} {β : Type} (n : Nat) (U : β → List (Nat × RV)) (Hp : β → List AObj) (J : β → Prop) (μ : β → Nat) (b0 : β)
    (hn : σ.hp.length = n) (h0 : σ.fr = setfrs σ.fr (U b0)) (hH : σ.hp = Hp b0) (hl : frLow n σ.fr) (hU : ∀ b, frLow n (U b)) (hHp : ∀ b, lowH n (Hp b)) (hJ : J b0)
    (round : ∀ b, J b → go P rd c [] (whileQ P rd n U Hp J μ σ.fr b k Q) ⟨setfrs σ.fr (U b), Hp b⟩) : goL P rd c k Q σ := by
  refine loop_cut hmx (fun b σ' => J b ∧ σ' = ⟨setfrs σ.fr (U b), Hp b⟩) μ b0 n hn ⟨hJ, by obtain ⟨fr, hp⟩ := σ; simp only at h0 hH; rw [← h0, ← hH]⟩ ?_
  rintro b _ ⟨hj, rfl⟩
  have := round b hj
  rw [← go_start] at this
  refine wpA_mono c ?_ this
  intro e σ' h
  cases e with
  | normal =>
    obtain ⟨b', h1, h2, h3, h4⟩ := h
    exact ⟨b', by rw [h1]; exact setfrs_low hl (hU b'), by rw [h2]; exact hHp b', ⟨h3, by rw [h1, h2]⟩, h4⟩
  | exit id => exact h
  | ret => exact h

def eachQ {α β : Type} (P : Program) (rd : Option Nat) (n t : Nat) (U : β → List (Nat × RV)) (Hp : β → List AObj) (J : Nat → β → List α → Prop) (fr : List (Nat × RV)) (i : Nat) (rest : List α) (k : List Fr) (Q : AE → AS → Prop) : AE → AS → Prop
  | .normal, σ => ∃ b, σ.fr = setfrs fr ((t, .v (.i .i64 ((i : Int) + 1))) :: U b) ∧ σ.hp.take n = Hp b ∧ J (i + 1) b rest
  | .exit id, σ => leave P rd (.exit id) k Q σ
  | .ret, σ => leave P rd .ret k Q σ
section
variable {α β : Type} (P : Program) (rd : Option Nat) (n t : Nat) (U : β → List (Nat × RV)) (Hp : β → List AObj) (J : Nat → β → List α → Prop) (fr : List (Nat × RV)) (i : Nat) (rest : List α) (k : List Fr) (Q : AE → AS → Prop) (σ : AS)
@[simp] theorem eachQ_normal : eachQ P rd n t U Hp J fr i rest k Q .normal σ = ∃ b, σ.fr = setfrs fr ((t, .v (.i .i64 ((i : Int) + 1))) :: U b) ∧ σ.hp.take n = Hp b ∧ J (i + 1) b rest := rfl
@[simp] theorem eachQ_exit (id : Nat) : eachQ P rd n t U Hp J fr i rest k Q (.exit id) σ = leave P rd (.exit id) k Q σ := rfl
@[simp] theorem eachQ_ret : eachQ P rd n t U Hp J fr i rest k Q .ret σ = leave P rd .ret k Q σ := rfl
end

theorem go_each {P : Program} (hmx : P.follows .mixedOrders = true) {rd : Option Nat} {c : ACode} {k : List Fr} {Q : AE → AS → Prop} {σ : AS} {α β : Type} (n t : Nat) (xs : List α) (U : β → List (Nat × RV)) (Hp : β → List AObj) (J : Nat → β → List α → Prop) (b0 : β)
    (hlen : xs.length < 9223372036854775807) (hn : σ.hp.length = n) (h0 : σ.fr = setfrs σ.fr ((t, .v (.i .i64 0)) :: U b0)) (hH : σ.hp = Hp b0) (hl : frLow n σ.fr) (hU : ∀ b, frLow n (U b)) (hHp : ∀ b, lowH n (Hp b)) (hJ : J 0 b0 xs)
    (body : ∀ i x rest b (hi : i < xs.length), xs[i] = x → xs.drop (i + 1) = rest → J i b (x :: rest) → IntKind.i64.wrap ((i : Int) + 1) = (i : Int) + 1 →
      go P rd c [] (eachQ P rd n t U Hp J σ.fr i rest k Q) ⟨setfrs σ.fr ((t, .v (.i .i64 (i : Int))) :: U b), Hp b⟩)
    (done : ∀ b, J xs.length b [] → go P rd c [] (exitQ P rd k Q) ⟨setfrs σ.fr ((t, .v (.i .i64 (xs.length : Int))) :: U b), Hp b⟩) : goL P rd c k Q σ := by
  refine go_while hmx n (fun (s : Nat × β) => (t, .v (.i .i64 (s.1 : Int))) :: U s.2) (fun s => Hp s.2) (fun s => s.1 ≤ xs.length ∧ J s.1 s.2 (xs.drop s.1)) (fun s => xs.length - s.1) (0, b0) hn h0 hH hl (fun s => by rw [frLow_cons]; exact ⟨by simp [RV.dom], hU s.2⟩) (fun s => hHp s.2) ⟨Nat.zero_le _, hJ⟩ ?_
  rintro ⟨i, b⟩ ⟨hi, hj⟩
  simp only at hi hj
  by_cases hlt : i < xs.length
  · rw [List.drop_eq_getElem_cons hlt] at hj
    have := body i _ _ b hlt rfl rfl hj (by rw [wrap_in (by omega) (by omega)])
    rw [← go_start] at this ⊢
    refine wpA_mono c ?_ this
    intro e σ' h
    cases e with
    | normal =>
      obtain ⟨b', h1, h2, h3⟩ := h
      exact ⟨(i + 1, b'), h1, h2, ⟨by simp only; omega, h3⟩, by simp only; omega⟩
    | exit id => exact h
    | ret => exact h
  · obtain rfl : i = xs.length := by omega
    rw [List.drop_length] at hj
    have := done b hj
    rw [← go_start] at this ⊢
    refine wpA_mono c ?_ this
    intro e σ' h
    cases e with
    | normal => exact h.elim
    | exit id => exact h
    | ret => exact h

def amongH (H : List AObj) (π : List Nat) (m : Nat) : List Nat → List AObj → Prop
  | o :: l, ob :: K => (ob.dom (· < m) ∧ H[o]? = some (ob.ren (upN π H.length))) ∧ amongH H π m l K
  | _, _ => True
theorem amongH_get {H : List AObj} {π : List Nat} {m : Nat} : ∀ {l : List Nat} {K : List AObj}, amongH H π m l K → ∀ (j o : Nat) ob, l[j]? = some o → K[j]? = some ob → ob.dom (· < m) ∧ H[o]? = some (ob.ren (upN π H.length))
  | [], _, _, j, o, ob, h, _ => by simp at h
  | _ :: _, [], _, j, o, ob, _, h => by simp at h
  | o' :: l, ob' :: K, h, j, o, ob, h1, h2 => by
    simp only [amongH] at h
    cases j with
    | zero => simp at h1 h2; subst h1; subst h2; exact h.1
    | succ j => exact amongH_get h.2 j o ob (by simpa using h1) (by simpa using h2)

section
variable {P : Program} {rd : Option Nat} {k : List Fr} {Q : AE → AS → Prop} {σ : AS} {d : Option Nat} {m : Nat} {os : List AO} {f : AX} {args : List AX} {fid : Nat} {caps : Caps} {args0 : List RV} {H0 : List AObj} {R : RV → List AObj → Prop}
theorem callf (π : List Nat) (hf : fnv (ax σ.fr f) = some (fid, caps)) (hc : ∀ vs w, (callFunc fid vs).run P w = .ok (.enter fid vs) w) (h : CallS P fid args0 H0 R) (nd : π.Nodup) (hl : H0.length = π.length)
    (ha : domL (· < π.length) args0) (hH : amongH σ.hp π π.length π H0) (hx : capd caps (args.map (ax σ.fr)) = renL (upN π σ.hp.length) args0)
    (kk : ∀ r K, R r K → goR P rd os k Q ⟨upd σ.fr d (RV.ren (upN π σ.hp.length) r), putH σ.hp π K⟩) : goC P rd none f args d os k Q σ := by
  simp only [goC, CallK, hf]
  refine ⟨hc, ?_⟩
  rw [hx]
  exact (h.among π nd hl (amongH_get hH) ha).mono fun r' H' ⟨r, K, hR, h1, h2⟩ => by subst h1; subst h2; exact kk r K hR
end

section
variable {P : Program} {rd : Option Nat} {k : List Fr} {Q : AE → AS → Prop} {σ : AS} {d : Option Nat} {m : Nat} {os : List AO} {f : AX} {args : List AX} {fid : Nat} {caps : Caps} {args0 : List RV} {H0 : List AObj} {R : RV → List AObj → Prop} {l : List (List (Nat × RV) × AO × RV)}
theorem callfs (π : List Nat) (hf : fnv (ax σ.fr f) = some (fid, caps)) (hc : ∀ vs w, (callFunc fid vs).run P w = .ok (.enter fid vs) w) (h : CallS P fid args0 H0 R) (nd : π.Nodup) (hl : H0.length = π.length)
    (ha : domL (· < π.length) args0) (hH : amongH σ.hp π π.length π H0) (hx : capd caps (args.map (ax σ.fr)) = renL (upN π σ.hp.length) args0)
    (kk : ∀ r K, R r K → (putH σ.hp π K = σ.hp ∨ stab P l (putH σ.hp π K)) ∧ goS P rd l os k Q ⟨upd σ.fr d (RV.ren (upN π σ.hp.length) r), putH σ.hp π K⟩) : goCS P rd l none f args d os k Q σ := by
  simp only [goCS, CallK, hf]
  refine ⟨hc, ?_⟩
  rw [hx]
  exact (h.among π nd hl (amongH_get hH) ha).mono fun r' H' ⟨r, K, hR, h1, h2⟩ => by subst h1; subst h2; exact kk r K hR
end

/-! ### Told weaker: nil is an empty list -/
inductive Wk : AV → AV → Prop
  | refl (a : AV) : Wk a a
  | nil (sz : Nat) : Wk .nil (.sl sz [])
  | tup {xs ys : List AV} (hl : xs.length = ys.length) (h : ∀ (j : Nat) x y, xs[j]? = some x → ys[j]? = some y → Wk x y) : Wk (.tup xs) (.tup ys)
  | g {xs ys : List AV} (hl : xs.length = ys.length) (h : ∀ (j : Nat) x y, xs[j]? = some x → ys[j]? = some y → Wk x y) : Wk (.g xs) (.g ys)
theorem Wk.vi {w : World} {Im : Nat → Prop} {a b : AV} (h : Wk a b) : ∀ {c : Value}, VI w Im a c → VI w Im b c := by
  induction h with
  | refl a => intro c h; exact h
  | nil sz => intro c h; cases h; exact .sle _ _ _
  | @tup xs ys hl _ ih =>
    intro c h
    cases h with
    | tup _ vs hn h =>
      refine .tup _ vs (by omega) fun j y c hy hc => ?_
      have hj : j < vs.size := (Array.getElem?_eq_some_iff.1 hc).1
      have hx := List.getElem?_eq_getElem (l := xs) (i := j) (by omega)
      exact ih j _ y hx hy (h j _ c hx hc)
  | @g xs ys hl _ ih =>
    intro c h
    cases h with
    | g _ vs hn h1 h =>
      refine .g _ vs (by omega) h1 fun j y c hy hc => ?_
      have hj : j < vs.size := (Array.getElem?_eq_some_iff.1 hc).1
      have hx := List.getElem?_eq_getElem (l := xs) (i := j) (by omega)
      exact ih j _ y hx hy (h j _ c hx hc)
def WkL : List AV → List AV → Prop
  | [], [] => True
  | x :: xs, y :: ys => Wk x y ∧ WkL xs ys
  | _, _ => False
theorem WkL.get : ∀ {xs ys : List AV}, WkL xs ys → xs.length = ys.length ∧ ∀ (j : Nat) x y, xs[j]? = some x → ys[j]? = some y → Wk x y
  | [], [], _ => ⟨rfl, fun j x y h => by simp at h⟩
  | x :: xs, y :: ys, h => by
    obtain ⟨h1, h2⟩ := h
    obtain ⟨h3, h4⟩ := WkL.get h2
    refine ⟨by simp [h3], fun j a b ha hb => ?_⟩
    cases j with
    | zero => simp at ha hb; subst ha; subst hb; exact h1
    | succ j => exact h4 j a b (by simpa using ha) (by simpa using hb)
  | [], _ :: _, h => h.elim
  | _ :: _, [], h => h.elim
theorem WkL.refl : ∀ (xs : List AV), WkL xs xs
  | [] => trivial
  | x :: xs => ⟨.refl x, WkL.refl xs⟩
theorem WkL.of : ∀ {xs ys : List AV}, xs.length = ys.length → (∀ (j : Nat) x y, xs[j]? = some x → ys[j]? = some y → Wk x y) → WkL xs ys
  | [], [], _, _ => trivial
  | x :: xs, y :: ys, hl, h => ⟨h 0 x y rfl rfl, WkL.of (by simpa using hl) fun j a b ha hb => h (j + 1) a b (by simpa using ha) (by simpa using hb)⟩
  | [], _ :: _, hl, _ => by simp at hl
  | _ :: _, [], hl, _ => by simp at hl
@[simp] theorem wkL_nil : WkL [] [] = True := rfl
@[simp] theorem wkL_cons (x y : AV) (xs ys : List AV) : WkL (x :: xs) (y :: ys) = (Wk x y ∧ WkL xs ys) := rfl
@[simp] theorem wk_tup (xs ys : List AV) : Wk (.tup xs) (.tup ys) ↔ WkL xs ys := by
  constructor
  · intro h
    cases h with
    | refl => exact .refl _
    | tup hl h => exact .of hl h
  · intro h; exact .tup h.get.1 h.get.2
@[simp] theorem wk_g (xs ys : List AV) : Wk (.g xs) (.g ys) ↔ WkL xs ys := by
  constructor
  · intro h
    cases h with
    | refl => exact .refl _
    | g hl h => exact .of hl h
  · intro h; exact .g h.get.1 h.get.2
@[simp] theorem wk_i (k k' : IntKind) (n n' : Int) : Wk (.i k n) (.i k' n') ↔ (k = k' ∧ n = n') := by
  constructor
  · intro h; cases h; exact ⟨rfl, rfl⟩
  · rintro ⟨rfl, rfl⟩; exact .refl _
@[simp] theorem wk_b (x y : Bool) : Wk (.b x) (.b y) ↔ x = y := by
  constructor
  · intro h; cases h; rfl
  · rintro rfl; exact .refl _
@[simp] theorem wk_s (x y : List UInt8) : Wk (.s x) (.s y) ↔ x = y := by
  constructor
  · intro h; cases h; rfl
  · rintro rfl; exact .refl _
@[simp] theorem wk_nil (sz : Nat) (l : List (List AV)) : Wk .nil (.sl sz l) ↔ l = [] := by
  constructor
  · intro h; cases h; rfl
  · rintro rfl; exact .nil _
@[simp] theorem wk_sl (sz sz' : Nat) (l l' : List (List AV)) : Wk (.sl sz l) (.sl sz' l') ↔ (sz = sz' ∧ l = l') := by
  constructor
  · intro h; cases h; exact ⟨rfl, rfl⟩
  · rintro ⟨rfl, rfl⟩; exact .refl _
@[simp] theorem wk_rfl (a : AV) : Wk a a ↔ True := by simp [Wk.refl]

theorem pure_wk {P : Program} {f : Nat} {args : List AV} {b : AV} (h : CallS P f (args.map .v) [] fun r H' => ∃ a, Frz H' r a ∧ Wk a b) : PureS P f args b := by
  intro e vs g tb hH hn hv
  refine (h e vs g tb hH hn hv).mono fun E w' ⟨c, e', r, hE, hw, g', mv, hr, a, hR, hwk⟩ => ?_
  refine ⟨c, ⟨e'.w, fun b => e'.Im b ∨ e'.own b, [], []⟩, .v b, hE, hw, freeze_all g', ?_, .v (hwk.vi (frz_ok g' hR hr)), rfl⟩
  refine ⟨mv.os, mv.tape, mv.output, mv.size, mv.same, fun b hb => .inl (mv.im b hb), mv.imw, ?_, ?_, ?_⟩
  · rintro b (hb | hb)
    · exact mv.imn b hb
    · rcases mv.ownn b hb with h1 | h1
      · exact .inr (.inl h1)
      · exact .inr (.inr h1)
  · intro o ob lo h1
    rw [hH] at h1
    simp at h1
  · rintro b ⟨o, l, h1, _⟩
    simp at h1
theorem pure_wkv {P : Program} {f : Nat} {args : List AV} {b : AV} (h : CallS P f (args.map .v) [] fun r H' => ∃ a, r = .v a ∧ Wk a b) : PureS P f args b :=
  pure_wk (h.mono fun r H' ⟨a, h1, h2⟩ => ⟨a, by subst h1; exact .v a, h2⟩)
attribute [simp] setfrs amongH putP putH upN RV.ren renL RV.dom domL
end Go.Av
/- Functions that give a list in memory of its own; what is one's own is lent to them; a list may take the place of an older one. No condition. -/
set_option linter.constructorNameAsVariable false
namespace Go.Av
open Go Go.RowKit
set_option linter.unusedSimpArgs false
set_option linter.unusedVariables false

def FrzL (H : List AObj) : List RV → List AV → Prop
  | [], [] => True
  | x :: xs, y :: ys => Frz H x y ∧ FrzL H xs ys
  | _, _ => False
theorem FrzL.get {H : List AObj} : ∀ {xs : List RV} {ys : List AV}, FrzL H xs ys → xs.length = ys.length ∧ ∀ (j : Nat) x y, xs[j]? = some x → ys[j]? = some y → Frz H x y
  | [], [], _ => ⟨rfl, fun j x y h => by simp at h⟩
  | x :: xs, y :: ys, h => by
    obtain ⟨h1, h2⟩ := h
    obtain ⟨h3, h4⟩ := FrzL.get h2
    refine ⟨by simp [h3], fun j a b ha hb => ?_⟩
    cases j with
    | zero => simp at ha hb; subst ha; subst hb; exact h1
    | succ j => exact h4 j a b (by simpa using ha) (by simpa using hb)
  | [], _ :: _, h => h.elim
  | _ :: _, [], h => h.elim
@[simp] theorem frzL_nil (H : List AObj) : FrzL H [] [] = True := rfl
@[simp] theorem frzL_cons (H : List AObj) (x : RV) (xs : List RV) (y : AV) (ys : List AV) : FrzL H (x :: xs) (y :: ys) = (Frz H x y ∧ FrzL H xs ys) := rfl
@[simp] theorem frz_self (H : List AObj) (x : AV) : Frz H (.v x) x ↔ True := by simp [Frz.v]
theorem frz_rows {H : List AObj} {o v sz : Nat} {l : List (List AV)} (h : H[o]? = some (.arr v sz (vrows l))) : Frz H (.os o v) (.sl sz l) := Frz.plain h
theorem frz_nil (H : List AObj) (sz : Nat) : Frz H (.v .nil) (.sl sz []) := .nil sz
theorem frz_pt {H : List AObj} {o : Nat} {cs : List AV} (h : H[o]? = some (.var (cs.map .v))) : Frz H (.pt o 0 0 0) (.pim cs) := by
  have := Frz.pt (r := 0) (off := 0) (cs' := cs) h (by simp) (fun j x x' hx hx' => by
    rw [List.getElem?_map, hx'] at hx
    cases hx
    exact .v _)
  simpa using this
theorem frz_gr {H : List AObj} {cs : List RV} {cs' : List AV} (h : FrzL H cs cs') : Frz H (.gr cs) (.g cs') := .gr h.get.1.symm h.get.2
theorem frz_tr {H : List AObj} {cs : List RV} {cs' : List AV} (h : FrzL H cs cs') : Frz H (.tr cs) (.tup cs') := .tr h.get.1.symm h.get.2

def Own1 (P : Program) (f : Nat) (xs : List AV) (sz : Nat) (rows : List (List AV)) : Prop := CallS P f (xs.map .v) [] fun r K => ∃ v, r = .os 0 v ∧ K = [.arr v sz (vrows rows)]

theorem Own1.pure {P : Program} {f : Nat} {xs : List AV} {sz : Nat} {rows : List (List AV)} (h : Own1 P f xs sz rows) : PureS P f xs (.sl sz rows) :=
  pure_of (CallS.mono h fun r K ⟨v, h1, h2⟩ => by subst h1; subst h2; exact frz_rows rfl)

theorem Own1.lent {P : Program} {f : Nat} {xs : List AV} {sz : Nat} {rows : List (List AV)} (h : Own1 P f xs sz rows) (hf : ∀ row ∈ rows, ∀ x ∈ row, Flat x) {H : List AObj} {args : List RV} (hz : FrzL H args xs)
    (o : Nat) (ob' : AObj) (H' : List AObj) (vn : Nat) (hob : ob' = .arr vn sz (vrows rows))
    (hH : (H' = H ++ [ob'] ∧ o = H.length) ∨ (∃ vo szo ro, H[o]? = some (.arr vo szo ro) ∧ vo < vn ∧ H' = H.set o ob')) :
    CallS P f args H fun r' H'' => r' = .os o vn ∧ H'' = H' := by
  intro e vs g tb hHe hn hv
  subst hHe
  obtain ⟨hzl, hzx⟩ := hz.get
  have g0 := freeze_all g
  have hc := h ⟨e.w, fun b => e.Im b ∨ e.own b, [], []⟩ vs g0 (tb.more fun b hb => .inl hb) rfl (by simp; omega) (fun j x y hj hy => by
    rw [List.getElem?_map, Option.map_eq_some_iff] at hj
    obtain ⟨x', hx', rfl⟩ := hj
    have hjl := (List.getElem?_eq_some_iff.1 hx').1
    have ha := list_get (l := args) (j := j) (by omega) RV.any
    exact .v (frz_ok g (hzx j _ x' ha hx') (hv j _ y ha hy)))
  refine hc.mono fun E w' ⟨c, e', r, hE, hw, g', mv, hr, v, h1, h2⟩ => ?_
  subst h1
  have e0 : e'.H[0]? = some (.arr v sz (vrows rows)) := by rw [h2]; rfl
  obtain ⟨lo, hlo, hav⟩ := hr.slice g' e0
  obtain ⟨hsz, hobj⟩ := g'.obj _ _ _ e0 hlo
  have sm : ∀ b, b < e.w.heap.size → e'.w.heap[b]? = e.w.heap[b]? := fun b hb => by
    by_cases ho : e.own b
    · exact mv.imw b (.inr ho)
    · exact mv.same b hb (fun ⟨o, l, h1, _⟩ => by simp at h1)
  have hnew : ∀ l, lo = some l → e.w.heap.size ≤ l.blk ∧ l.blk < e'.w.heap.size := fun l hl => by
    refine ⟨?_, g'.lt 0 l (by rw [hlo, hl])⟩
    rcases mv.ownn l.blk ⟨0, l, by rw [hlo, hl], rfl⟩ with ⟨o, l, h1, _⟩ | h3
    · simp at h1
    · exact h3
  -- the list reads so whatever else there is
  have hread : ∀ e2 : Env, e2.w = e'.w → ObjR e2 ob' lo := fun e2 he2 => by
    subst hob
    refine ⟨hsz, ?_⟩
    cases lo with
    | none => exact hobj
    | some l =>
      obtain ⟨k1, k2, k3⟩ := hobj
      refine ⟨k1, fun k hk => ?_, fun r row j x hr hx => ?_⟩
      · obtain ⟨c, h1, h2⟩ := k2 k hk
        exact ⟨c, by rw [he2]; exact h1, by rw [he2]; exact h2⟩
      · obtain ⟨c, h1, h2, h3⟩ := k3 r row j x hr hx
        refine ⟨c, by rw [he2]; exact h1, h2, ?_⟩
        simp only [vrows, List.getElem?_map, Option.map_eq_some_iff] at hr
        obtain ⟨row', hr', rfl⟩ := hr
        rw [List.getElem?_map, Option.map_eq_some_iff] at hx
        obtain ⟨x', hx', rfl⟩ := hx
        cases h3 with | v h3 => exact .v ((hf row' (List.mem_of_getElem? hr') x' (List.mem_of_getElem? hx')).vi h3)
  have hone : c.oneCell' = true := by cases hr; assumption
  have hcv : ∀ n, n = vn → osOK ob' lo n c := fun n hn => by
    subst hn; subst hob
    exact ⟨Nat.le_refl _, fun _ => hav⟩
  rcases hH with ⟨rfl, rfl⟩ | ⟨vo, szo, ro, ho, hlt, rfl⟩
  · have hp := push_ok g e'.w ob' lo mv.os mv.tape mv.output mv.size sm hnew (fun e2 he2 _ => hread e2 he2)
    refine ⟨c, ⟨e'.w, e.Im, e.ρ ++ [lo], e.H ++ [ob']⟩, .os e.H.length vn, hE, hw, hp.1, hp.2, ?_, rfl, rfl⟩
    exact .os ob' lo (by simp) (by simp [← g.len]) (hcv vn rfl) hone
  · have holt : o < e.H.length := (List.getElem?_eq_some_iff.1 ho).1
    have holr : o < e.ρ.length := by rw [g.len]; exact holt
    have mv' : Mv e ⟨e'.w, e.Im, e.ρ.set o lo, e.H.set o ob'⟩ := by
      refine ⟨mv.os, mv.tape, mv.output, mv.size, fun b hb _ => sm b hb, fun _ h => h, fun b hb => sm b (g.imlt b hb), fun _ h => .inl h, ?_, ?_⟩
      · intro k x y hx hy
        by_cases hk : o = k
        · subst hk
          refine ⟨ob', lo, by simp [holt], by simp [holr], ?_⟩
          rw [ho] at hx; cases hx
          subst hob
          exact ⟨vo, szo, ro, rfl, .inl hlt⟩
        · exact ⟨x, y, by simp [List.getElem?_set, hk, hx], by simp [List.getElem?_set, hk, hy], .refl _ _⟩
      · rintro b ⟨k, l, hk, rfl⟩
        have hk : (e.ρ.set o lo)[k]? = some (some l) := hk
        rcases set_get hk with ⟨_, hk⟩ | ⟨_, hk⟩
        · exact .inr (hnew l hk.symm).1
        · exact .inl ⟨k, l, hk, rfl⟩
    have hlk : ∀ (k : Nat) l, (e.ρ.set o lo)[k]? = some (some l) → (k = o ∧ lo = some l) ∨ (k ≠ o ∧ e.ρ[k]? = some (some l)) := fun k l hk => by
      rcases set_get hk with ⟨h1, h2⟩ | ⟨h1, h2⟩
      · exact .inl ⟨h1.symm, h2.symm⟩
      · exact .inr ⟨fun hc => h1 hc.symm, h2⟩
    refine ⟨c, ⟨e'.w, e.Im, e.ρ.set o lo, e.H.set o ob'⟩, .os o vn, hE, hw, ⟨by simp [g.len], ?_, ?_, ?_, fun b hb => Nat.lt_of_lt_of_le (g.imlt b hb) mv.size, ?_⟩, mv', ?_, rfl, rfl⟩
    · intro k k' l l' hk hk' hne
      rcases hlk k l hk with ⟨a1, a2⟩ | ⟨a1, a2⟩ <;> rcases hlk k' l' hk' with ⟨b1, b2⟩ | ⟨b1, b2⟩
      · exact absurd (a1.trans b1.symm) hne
      · have h3 := (hnew l a2).1; have h4 := g.lt k' l' b2; omega
      · have h3 := (hnew l' b2).1; have h4 := g.lt k l a2; omega
      · exact g.inj k k' l l' a2 b2 hne
    · intro k l hk hi
      rcases hlk k l hk with ⟨a1, a2⟩ | ⟨a1, a2⟩
      · have h3 := (hnew l a2).1; have h4 := g.imlt _ hi; omega
      · exact g.dis k l a2 hi
    · intro k l hk
      rcases hlk k l hk with ⟨a1, a2⟩ | ⟨a1, a2⟩
      · exact (hnew l a2).2
      · exact Nat.lt_of_lt_of_le (g.lt k l a2) mv.size
    · intro k x y hx hy
      rcases set_get hx with ⟨h1, rfl⟩ | ⟨h1, hx⟩
      · rcases set_get hy with ⟨_, rfl⟩ | ⟨h2, _⟩
        · exact hread _ rfl
        · exact absurd h1 h2
      · rcases set_get hy with ⟨h2, _⟩ | ⟨_, hy⟩
        · exact absurd h2 h1
        · exact (g.obj k x y hx hy).keep (fun l hl => sm _ (g.lt k l (by rw [hy, hl]))) mv'
    · exact .os ob' lo (by simp [holt]) (by simp [holr]) (hcv vn rfl) hone

section
variable {P : Program} {rd : Option Nat} {k : List Fr} {Q : AE → AS → Prop} {σ : AS} {d : Option Nat} {m : Nat} {os : List AO} {f : AX} {args : List AX} {fid : Nat} {caps : Caps} {xs : List AV} {r : AV} {sz : Nat} {rows : List (List AV)} {l : List (List (Nat × RV) × AO × RV)}
theorem callo (hf : fnv (ax σ.fr f) = some (fid, caps)) (hc : ∀ vs w, (callFunc fid vs).run P w = .ok (.enter fid vs) w) (h : Own1 P fid xs sz rows) (hfl : ∀ row ∈ rows, ∀ x ∈ row, Flat x) (hz : FrzL σ.hp (capd caps (args.map (ax σ.fr))) xs)
    (kk : goR P rd os k Q ⟨upd σ.fr d (.os σ.hp.length 0), σ.hp ++ [.arr 0 sz (vrows rows)]⟩) : goC P rd none f args d os k Q σ := by
  simp only [goC, CallK, hf]
  exact ⟨hc, (h.lent hfl hz σ.hp.length _ _ 0 rfl (.inl ⟨rfl, rfl⟩)).mono fun r' H' ⟨h1, h2⟩ => by subst h1; subst h2; exact kk⟩
theorem callv (o : Nat) {vo szo : Nat} {ro : List (List RV)} (hf : fnv (ax σ.fr f) = some (fid, caps)) (hc : ∀ vs w, (callFunc fid vs).run P w = .ok (.enter fid vs) w) (h : Own1 P fid xs sz rows) (hfl : ∀ row ∈ rows, ∀ x ∈ row, Flat x) (ho : σ.hp[o]? = some (.arr vo szo ro)) (hz : FrzL σ.hp (capd caps (args.map (ax σ.fr))) xs)
    (kk : goR P rd os k Q ⟨upd σ.fr d (.os o (vo + 1)), σ.hp.set o (.arr (vo + 1) sz (vrows rows))⟩) : goC P rd none f args d os k Q σ := by
  simp only [goC, CallK, hf]
  exact ⟨hc, (h.lent hfl hz o _ _ (vo + 1) rfl (.inr ⟨vo, szo, ro, ho, Nat.lt_succ_self _, rfl⟩)).mono fun r' H' ⟨h1, h2⟩ => by subst h1; subst h2; exact kk⟩
theorem callz (hf : fnv (ax σ.fr f) = some (fid, caps)) (hc : ∀ vs w, (callFunc fid vs).run P w = .ok (.enter fid vs) w) (h : PureS P fid xs r) (hr : Flat r)
    (hz : FrzL σ.hp (capd caps (args.map (ax σ.fr))) xs) (kk : goR P rd os k Q ⟨upd σ.fr d (.v r), σ.hp⟩) : goC P rd none f args d os k Q σ :=
  calll hf hc h hr rfl hz.get.1 hz.get.2 kk
theorem callzs (hf : fnv (ax σ.fr f) = some (fid, caps)) (hc : ∀ vs w, (callFunc fid vs).run P w = .ok (.enter fid vs) w) (h : PureS P fid xs r) (hr : Flat r)
    (hz : FrzL σ.hp (capd caps (args.map (ax σ.fr))) xs) (kk : goS P rd l os k Q ⟨upd σ.fr d (.v r), σ.hp⟩) : goCS P rd l none f args d os k Q σ := by
  simp only [goCS, CallK, hf]
  exact ⟨hc, (lend h hr hz.get.1 hz.get.2).mono fun r' H' ⟨h1, h2⟩ => by subst h1; subst h2; exact ⟨.inl rfl, kk⟩⟩
end

theorem flat_rows {α : Type} {f : α → List AV} {l : List α} (h : ∀ a, ∀ x ∈ f a, Flat x) : ∀ row ∈ l.map f, ∀ x ∈ row, Flat x := by
  intro row hr x hx
  obtain ⟨a, _, rfl⟩ := List.mem_map.1 hr
  exact h a x hx

attribute [simp] tupV evResL

theorem fun_cut {pf : Bool} {P : Program} {f : Nat} {fn : Func} {c : ACode} {rs : List ARes} {args : List RV} {H : List AObj} {R : RV → List AObj → Prop} (n : Nat) (hmx : P.follows .mixedOrders = true) (hf : P.funcs[f]? = some fn) (hc : (fn.body.bind (resCX pf P fn.ntmps)) = some (strip c))
    (hr : fn.results.toList.mapM (resRes P) = some rs) (hn : args.length ≤ fn.ntmps) (hl : H.length ≤ n)
    (h : go P none c [] (retQ rs fun r H' => RV.dom (· < n) r ∧ lowH n (H'.take n) ∧ R r (H'.take n)) ⟨zipA 0 args, H⟩) : CallS P f args H R :=
  .cut n hl (fun_go hmx hf hc hr hn h)

theorem fun_sel {pf : Bool} {P : Program} {f : Nat} {fn : Func} {c : ACode} {rs : List ARes} {args : List RV} {H : List AObj} {R : RV → List AObj → Prop} (S : List Nat) (hmx : P.follows .mixedOrders = true) (hf : P.funcs[f]? = some fn) (hc : (fn.body.bind (resCX pf P fn.ntmps)) = some (strip c))
    (hr : fn.results.toList.mapM (resRes P) = some rs) (hn : args.length ≤ fn.ntmps) (nd : S.Nodup) (hS : ∀ o, o < H.length → S[o]? = some o)
    (h : go P none c [] (retQ rs fun r H' => RV.dom (· ∈ S) r ∧ (∀ o ∈ S, o < H'.length ∧ ((H'[o]?).getD .none).dom (· ∈ S)) ∧ R (RV.ren (S.idxOf ·) r) (S.map fun o => ((H'[o]?).getD .none).ren (S.idxOf ·))) ⟨zipA 0 args, H⟩) : CallS P f args H R :=
  .sel S nd hS (fun_go hmx hf hc hr hn h)
end Go.Av
/- Calls that give lists, in regions whose order is drawn. No condition. -/
set_option linter.constructorNameAsVariable false
namespace Go.Av
open Go Go.RowKit
set_option linter.unusedSimpArgs false
set_option linter.unusedVariables false
section
variable {P : Program} {rd : Option Nat} {k : List Fr} {Q : AE → AS → Prop} {σ : AS} {d : Option Nat} {m : Nat} {os : List AO} {f : AX} {args : List AX} {fid : Nat} {caps : Caps} {xs : List AV} {r : AV} {sz : Nat} {rows : List (List AV)} {l : List (List (Nat × RV) × AO × RV)}
theorem callvs (o : Nat) {vo szo : Nat} {ro : List (List RV)} (hf : fnv (ax σ.fr f) = some (fid, caps)) (hc : ∀ vs w, (callFunc fid vs).run P w = .ok (.enter fid vs) w) (h : Own1 P fid xs sz rows) (hfl : ∀ row ∈ rows, ∀ x ∈ row, Flat x) (ho : σ.hp[o]? = some (.arr vo szo ro)) (hz : FrzL σ.hp (capd caps (args.map (ax σ.fr))) xs)
    (kk : (σ.hp.set o (.arr (vo + 1) sz (vrows rows)) = σ.hp ∨ stab P l (σ.hp.set o (.arr (vo + 1) sz (vrows rows)))) ∧ goS P rd l os k Q ⟨upd σ.fr d (.os o (vo + 1)), σ.hp.set o (.arr (vo + 1) sz (vrows rows))⟩) : goCS P rd l none f args d os k Q σ := by
  simp only [goCS, CallK, hf]
  exact ⟨hc, (h.lent hfl hz o _ _ (vo + 1) rfl (.inr ⟨vo, szo, ro, ho, Nat.lt_succ_self _, rfl⟩)).mono fun r' H' ⟨h1, h2⟩ => by subst h1; subst h2; exact kk⟩
theorem callos (hf : fnv (ax σ.fr f) = some (fid, caps)) (hc : ∀ vs w, (callFunc fid vs).run P w = .ok (.enter fid vs) w) (h : Own1 P fid xs sz rows) (hfl : ∀ row ∈ rows, ∀ x ∈ row, Flat x) (hz : FrzL σ.hp (capd caps (args.map (ax σ.fr))) xs)
    (kk : (σ.hp ++ [.arr 0 sz (vrows rows)] = σ.hp ∨ stab P l (σ.hp ++ [.arr 0 sz (vrows rows)])) ∧ goS P rd l os k Q ⟨upd σ.fr d (.os σ.hp.length 0), σ.hp ++ [.arr 0 sz (vrows rows)]⟩) : goCS P rd l none f args d os k Q σ := by
  simp only [goCS, CallK, hf]
  exact ⟨hc, (h.lent hfl hz σ.hp.length _ _ 0 rfl (.inl ⟨rfl, rfl⟩)).mono fun r' H' ⟨h1, h2⟩ => by subst h1; subst h2; exact kk⟩
end
attribute [simp] evSla evCvb
end Go.Av
