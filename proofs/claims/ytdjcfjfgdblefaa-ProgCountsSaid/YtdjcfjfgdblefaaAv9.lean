/- A program's function does what its walk tells. No condition. -/
import Derived.Test.YtdjcfjfgdblefaaAv8
set_option linter.constructorNameAsVariable false
namespace Go.Av
open Go Go.RowKit
set_option linter.unusedSimpArgs false
set_option linter.unusedVariables false

inductive ARes where
  | t (n : Nat)
  | c (n : Nat) (s : Option Nat)

def resRes (P : Program) : ResultVar → Option ARes
  | .tmp t => some (.t t)
  | .cell a ty => (aggSize P ty).map (.c a)

def evRes1 (σ : AS) : ARes → Option (Prop × RV)
  | .t n => some (True, lk σ.fr n)
  | .c n s => evLd s (lk σ.fr n) σ.hp

def tupV (cs : List RV) : RV :=
  match cs.mapM toV with
  | some xs => .v (.tup xs)
  | none => .tr cs

def evResL (σ : AS) : List ARes → Option (Prop × List RV)
  | [] => some (True, [])
  | r :: rs => (evRes1 σ r).bind fun (C, x) => (evResL σ rs).map fun (D, xs) => (C ∧ D, x :: xs)

def evRes (σ : AS) : List ARes → Option (Prop × RV)
  | [r] => evRes1 σ r
  | rs => (evResL σ rs).map fun (C, xs) => (C, tupV xs)

def resSem (tmps : Array Value) : ResultVar → Sem Value
  | .tmp t => pure (tmps.getD t undef)
  | .cell a t => do loadVar t (← asAddr (tmps.getD a undef))

theorem results_eq (fn : Func) (tmps : Array Value) : results fn tmps = (fn.results.mapM (resSem tmps)) >>= fun vs => pure (if h : vs.size = 1 then vs[0] else .tuple vs) := by
  unfold results
  congr 1

theorem res1_ok {P : Program} {e : Env} (g : Good e) {σ : AS} {tmps : Array Value} (hH : e.H = σ.hp) (hf : ∀ t, VR e (lk σ.fr t) (tmps.getD t undef)) {rv : ResultVar} {ar : ARes} (hr : resRes P rv = some ar) {C : Prop} {x : RV} (h : evRes1 σ ar = some (C, x)) (hC : C) :
    Tells P e (resSem tmps rv) x := by
  cases rv with
  | tmp t =>
    simp [resRes] at hr; subst hr
    obtain ⟨rfl, rfl⟩ := someP h
    exact ⟨_, rfl, hf t⟩
  | cell a ty =>
    simp only [resRes, Option.map_eq_some_iff] at hr
    obtain ⟨s, hs, rfl⟩ := hr
    simp only [evRes1, ← hH] at h
    obtain ⟨c, h1, h2⟩ := ld_ok (P := P) g hs (hf a) h hC
    refine ⟨c, ?_, h2⟩
    rw [← h1]
    unfold Instr.loadAt
    have hp : ∃ ad, tmps.getD a undef = .pointer (some ad) := by
      have hv := hf a
      unfold evLd at h
      split at h
      · rename_i cs heq
        rw [heq] at hv
        obtain ⟨b, off, f, hp, _⟩ := hv.pim
        exact ⟨_, hp⟩
      · rename_i o ver r off heq
        rw [heq] at hv
        obtain ⟨p1, p2⟩ := hv.ptr g
        split at h
        · rename_i cs hcs
          obtain ⟨_, l, _, hp⟩ := p1 _ hcs
          exact ⟨_, hp⟩
        · rename_i v z rows hcs
          have hver : ver = v := by
            split at h <;> (obtain ⟨rfl, rfl⟩ := someP h) <;> exact hC.1
          subst hver
          obtain ⟨l, _, hp⟩ := p2 _ _ hcs
          exact ⟨_, hp⟩
        · cases h
      · cases h
    obtain ⟨ad, had⟩ := hp
    simp only [Array.getD_eq_getD_getElem?] at had
    simp [had, asAddr, Instr.sureAddr, resSem]

theorem resL_ok {P : Program} {e : Env} (g : Good e) {σ : AS} {tmps : Array Value} (hH : e.H = σ.hp) (hf : ∀ t, VR e (lk σ.fr t) (tmps.getD t undef)) : ∀ (rvs : List ResultVar) (ars : List ARes), rvs.mapM (resRes P) = some ars → ∀ {C : Prop} {xs : List RV}, evResL σ ars = some (C, xs) → C →
    ∃ vs : List Value, (rvs.mapM (resSem tmps)).run P e.w = .ok vs e.w ∧ vs.length = xs.length ∧ vs.length = rvs.length ∧ ∀ (j : Nat) x y, xs[j]? = some x → vs[j]? = some y → VR e x y := by
  intro rvs
  induction rvs with
  | nil =>
    intro ars h C xs hx hC
    simp at h; subst h
    cases hx
    exact ⟨[], rfl, rfl, rfl, fun j x y h => by simp at h⟩
  | cons rv rvs ih =>
    intro ars h C xs hx hC
    simp only [List.mapM_cons, Option.bind_eq_bind, Option.bind_eq_some_iff] at h
    obtain ⟨ar, har, ars', hars, he⟩ := h
    simp at he; subst he
    simp only [evResL, Option.bind_eq_some_iff, Option.map_eq_some_iff] at hx
    obtain ⟨⟨C1, x⟩, hx1, ⟨D, xs'⟩, hx2, he⟩ := hx
    cases he
    obtain ⟨c, hc, hv⟩ := res1_ok (P := P) g hH hf har hx1 hC.1
    obtain ⟨vs, hvs, hn, hn2, hh⟩ := ih ars' hars hx2 hC.2
    refine ⟨c :: vs, ?_, by simp [hn], by simp [hn2], fun j x' y hx' hy => ?_⟩
    · simp only [List.mapM_cons, Sem.run_bind, hc, Result.andThen_ok, hvs, Sem.run_pure]
    · cases j with
      | zero => simp at hx' hy; subst hx'; subst hy; exact hv
      | succ j => exact hh j x' y (by simpa using hx') (by simpa using hy)

theorem tupV_ok {e : Env} {xs : List RV} {vs : Array Value} (hn : vs.size = xs.length) (h : ∀ (j : Nat) x y, xs[j]? = some x → vs[j]? = some y → VR e x y) : VR e (tupV xs) (.tuple vs) := by
  unfold tupV
  split
  · rename_i cs hcs
    have := mapM_toV hcs
    subst this
    exact .v (.tup _ _ (by simpa using hn) (fun j x y hx hy => vr_v (h j (.v x) y (by simp [hx]) hy)))
  · exact .tr hn h

theorem res_ok {P : Program} {e : Env} (g : Good e) {σ : AS} {fn : Func} {tmps : Array Value} (hH : e.H = σ.hp) (hf : ∀ t, VR e (lk σ.fr t) (tmps.getD t undef)) {ars : List ARes} (hr : fn.results.toList.mapM (resRes P) = some ars) {C : Prop} {x : RV} (h : evRes σ ars = some (C, x)) (hC : C) :
    Tells P e (results fn tmps) x := by
  have hall : ∀ {C : Prop} {xs : List RV}, evResL σ ars = some (C, xs) → C → ∃ vs : Array Value, (results fn tmps).run P e.w = .ok (if h : vs.size = 1 then vs[0] else .tuple vs) e.w ∧ vs.size = xs.length ∧ vs.size = ars.length ∧ ∀ (j : Nat) x y, xs[j]? = some x → vs[j]? = some y → VR e x y := by
    intro C xs hx hC
    obtain ⟨vs, hvs, hn, hn2, hh⟩ := resL_ok (P := P) g hH hf _ _ hr hx hC
    refine ⟨vs.toArray, ?_, by simpa using hn, by rw [(mapM_get hr).1]; simpa using hn2, fun j x y hx hy => hh j x y hx (by simpa using hy)⟩
    rw [results_eq, Array.mapM_eq_mapM_toList]
    simp only [Sem.run_bind, Sem.run_map, hvs, Result.andThen_ok, Sem.run_pure]
  unfold evRes at h
  split at h
  · rename_i r
    have h2 : evResL σ [r] = some (C ∧ True, [x]) := by simp [evResL, h]
    obtain ⟨vs, hvs, hn, _, hh⟩ := hall h2 ⟨hC, trivial⟩
    have h1 : vs.size = 1 := by simpa using hn
    refine ⟨vs[0], by rw [hvs]; simp [h1], hh 0 x _ (by simp) (by simp [h1])⟩
  · rename_i hne
    simp only [Option.map_eq_some_iff] at h
    obtain ⟨⟨C', xs⟩, hx, he⟩ := h
    cases he
    obtain ⟨vs, hvs, hn, hn2, hh⟩ := hall hx hC
    have h1 : ¬ vs.size = 1 := fun h1 => by
      rw [hn2] at h1
      obtain ⟨r, rfl⟩ := List.length_eq_one_iff.1 h1
      exact hne r rfl
    exact ⟨.tuple vs, by rw [hvs]; simp [h1], tupV_ok hn hh⟩

/-- What is asked at a function's end. -/
def retQ (rs : List ARes) (R : RV → List AObj → Prop) (e : AE) (σ : AS) : Prop :=
  match e with
  | .exit _ => False
  | _ =>
    match evRes σ rs with
    | some (C, r) => C ∧ R r σ.hp
    | none => False

def zipA : Nat → List RV → List (Nat × RV)
  | _, [] => []
  | k, x :: l => (k, x) :: zipA (k + 1) l

theorem lk_zip {l : List RV} : ∀ (k t : Nat), (t < k ∨ k + l.length ≤ t) → lk (zipA k l) t = .any := by
  induction l with
  | nil => intro k t _; rfl
  | cons x l ih =>
    intro k t h
    simp only [List.length_cons] at h
    rw [zipA, lk, if_neg (by omega)]
    exact ih (k + 1) t (by omega)
theorem lk_zip_at {l : List RV} : ∀ (k j : Nat) x, l[j]? = some x → lk (zipA k l) (k + j) = x := by
  induction l with
  | nil => intro k j x h; simp at h
  | cons y l ih =>
    intro k j x h
    cases j with
    | zero => simp at h; subst h; rw [zipA, lk, if_pos (by omega)]
    | succ j =>
      rw [zipA, lk, if_neg (by omega)]
      have := ih (k + 1) j x (by simpa using h)
      rw [← this]; congr 1; omega

/-- **A FUNCTION's CONTRACT OUT OF ITS WALK.** -/
theorem fun_ok {P : Program} {f : Nat} {fn : Func} {cd : Code} {c : ACode} {rs : List ARes} {args : List RV} {H : List AObj} {R : RV → List AObj → Prop} (hmx : P.follows .mixedOrders = true) (hf : P.funcs[f]? = some fn) (hb : fn.body = some cd) (hc : resC P fn.ntmps cd = some (strip c))
    (hr : fn.results.toList.mapM (resRes P) = some rs) (hn : args.length ≤ fn.ntmps)
    (h : wpA P none c (retQ rs R) ⟨zipA 0 args, H⟩) : CallS P f args H R := by
  intro e vs g hH hvn hv
  refine callsIn_of_wp hf hb trivial ?_ rfl
  have hrel : Rel e fn.ntmps [] ⟨zipA 0 args, H⟩ { tmps := vs ++ Array.replicate (fn.ntmps - vs.size) undef, defers := [] } e.w := by
    refine ⟨e, rfl, hH, g, .refl, fun t => ?_, by simp; omega, rfl⟩
    by_cases ht : t < args.length
    · have hx := List.getElem?_eq_getElem ht
      have := lk_zip_at 0 t _ hx
      rw [Nat.zero_add] at this
      rw [this]
      obtain ⟨y, hy⟩ := array_get (vs := vs) hvn ht
      have e1 : (vs ++ Array.replicate (fn.ntmps - vs.size) undef).getD t undef = y := by
        rw [Array.getD_eq_getD_getElem?, Array.getElem?_append_left (by omega), hy]; rfl
      rw [e1]
      exact hv t _ y hx hy
    · rw [lk_zip 0 t (by omega)]; exact .any
  refine wpIn_mono (wpA_ok hmx g c cd hc _ _ h _ _ hrel) ?_
  have fin : ∀ σ a w, (retQ rs R .ret σ) → Rel e fn.ntmps [] σ a w → a.defers = [] ∧ ∃ v, (results fn a.tmps).run P w = .ok v w ∧ ∃ (c : Value) (e' : Env) (r : RV), Ending.returned v = .returned c ∧ e'.w = w ∧ Good e' ∧ Mv e e' ∧ VR e' r c ∧ R r e'.H := by
    rintro σ a w hq ⟨e', rfl, hH', g', mv', hf', hN', hD'⟩
    simp only [retQ] at hq
    split at hq
    rotate_left
    · exact hq.elim
    rename_i C r hev
    obtain ⟨hC, hR⟩ := hq
    obtain ⟨v, h1, h2⟩ := res_ok (P := P) g' hH' hf' hr hev hC
    exact ⟨hD', v, h1, v, e', r, rfl, rfl, g', mv', h2, by rw [hH']; exact hR⟩
  intro ex a w hq
  cases ex with
  | normal => obtain ⟨σ, h1, h2⟩ := hq; exact fin σ a w h1 h2
  | exit id => obtain ⟨σ, h1, h2⟩ := hq; exact h1.elim
  | ret => obtain ⟨σ, h1, h2⟩ := hq; exact fin σ a w h1 h2
  | goto l => exact hq.elim
  | panic c => exact hq.elim
  | outgrown => exact hq.elim

/-- The same, with the text's body as it stands in the program. -/
theorem fun_at {P : Program} {f : Nat} {fn : Func} {c : ACode} {rs : List ARes} {args : List RV} {H : List AObj} {R : RV → List AObj → Prop} (hmx : P.follows .mixedOrders = true) (hf : P.funcs[f]? = some fn) (hc : (fn.body.bind (resC P fn.ntmps)) = some (strip c))
    (hr : fn.results.toList.mapM (resRes P) = some rs) (hn : args.length ≤ fn.ntmps)
    (h : wpA P none c (retQ rs R) ⟨zipA 0 args, H⟩) : CallS P f args H R := by
  obtain ⟨cd, hb, hc⟩ := Option.bind_eq_some_iff.1 hc
  exact fun_ok hmx hf hb hc hr hn h

theorem call_pure {P : Program} {f : Nat} {xs : List AV} {r : AV} {args : List RV} {H : List AObj} {R : RV → List AObj → Prop} (hc : ∀ vs w, (callFunc f vs).run P w = .ok (.enter f vs) w) (h : PureS P f xs r) (ha : args = xs.map .v) (hR : R (.v r) H) :
    (∀ vs w, (callFunc f vs).run P w = .ok (.enter f vs) w) ∧ CallS P f args H R := by
  subst ha
  exact ⟨hc, (h.frame H).mono fun r' H' ⟨h1, h2⟩ => by subst h1; subst h2; exact hR⟩

end Go.Av
