/- A program's function does what its walk tells. No condition. -/
import Derived.Test.YtgipkikbefnokaaDoorXAv8
import Derived.RangeFuncLeaves
import Derived.RangeFuncRecord
import Derived.Carry
import Derived.ChangeOld
import GoSem.ClaimJoined
import Derived.OpenShut
import Derived.SizedLaws
import Derived.WalkKit
import Derived.ProofKit
import Derived.ShutString
import Derived.Below
import Derived.CallsIn
set_option linter.constructorNameAsVariable false
namespace Go.Av
open Go Go.RowKit
set_option linter.unusedSimpArgs false
set_option linter.unusedVariables false

inductive ARes where
  | t (n : Nat)
  | c (n : Nat) (s : Option Nat)

def resRes (P : Program) : ResultVar → Option ARes
  | .tmp t => some (.t t)
  | .cell a ty => (aggSize P ty).map (.c a)

def evRes1 (σ : AS) : ARes → Option (Prop × RV)
  | .t n => some (True, lk σ.fr n)
  | .c n s => evLd s (lk σ.fr n) σ.hp

def tupV (cs : List RV) : RV :=
  match cs.mapM toV with
  | some xs => .v (.tup xs)
  | none => .tr cs

def evResL (σ : AS) : List ARes → Option (Prop × List RV)
  | [] => some (True, [])
  | r :: rs => (evRes1 σ r).bind fun (C, x) => (evResL σ rs).map fun (D, xs) => (C ∧ D, x :: xs)

def evRes (σ : AS) : List ARes → Option (Prop × RV)
  | [r] => evRes1 σ r
  | rs => (evResL σ rs).map fun (C, xs) => (C, tupV xs)

def resSem (tmps : Array Value) : ResultVar → Sem Value
  | .tmp t => pure (tmps.getD t undef)
  | .cell a t => do loadVar t (← asAddr (tmps.getD a undef))

theorem results_eq (fn : Func) (tmps : Array Value) : results fn tmps = (fn.results.mapM (resSem tmps)) >>= fun vs => pure (if h : vs.size = 1 then vs[0] else .tuple vs) := by
  unfold results
  congr 1

theorem res1_ok {P : Program} {e : Env} (g : Good e) {σ : AS} {tmps : Array Value} (hH : e.H = σ.hp) (hf : ∀ t, VR e (lk σ.fr t) (tmps.getD t undef)) {rv : ResultVar} {ar : ARes} (hr : resRes P rv = some ar) {C : Prop} {x : RV} (h : evRes1 σ ar = some (C, x)) (hC : C) :
    Tells P e (resSem tmps rv) x := by
  cases rv with
  | tmp t =>
    simp [resRes] at hr; subst hr
    obtain ⟨rfl, rfl⟩ := someP h
    exact ⟨_, rfl, hf t⟩
  | cell a ty =>
    simp only [resRes, Option.map_eq_some_iff] at hr
    obtain ⟨s, hs, rfl⟩ := hr
    simp only [evRes1, ← hH] at h
    obtain ⟨c, h1, h2⟩ := ld_ok (P := P) g hs (hf a) h hC
    refine ⟨c, ?_, h2⟩
    rw [← h1]
    unfold Instr.loadAt
    have hp : ∃ ad, tmps.getD a undef = .pointer (some ad) := by
      have hv := hf a
      unfold evLd at h
      split at h
      · rename_i cs heq
        rw [heq] at hv
        obtain ⟨b, off, f, hp, _⟩ := hv.pim
        exact ⟨_, hp⟩
      · rename_i o ver r off heq
        rw [heq] at hv
        obtain ⟨p1, p2⟩ := hv.ptr g
        split at h
        · rename_i cs hcs
          obtain ⟨_, l, _, hp⟩ := p1 _ hcs
          exact ⟨_, hp⟩
        · rename_i v z rows hcs
          have hver : ver = v := by
            split at h <;> (obtain ⟨rfl, rfl⟩ := someP h) <;> exact hC.1
          subst hver
          obtain ⟨l, _, hp⟩ := p2 _ _ hcs
          exact ⟨_, hp⟩
        · cases h
      · cases h
    obtain ⟨ad, had⟩ := hp
    simp only [Array.getD_eq_getD_getElem?] at had
    simp [had, asAddr, Instr.sureAddr, resSem]

theorem resL_ok {P : Program} {e : Env} (g : Good e) {σ : AS} {tmps : Array Value} (hH : e.H = σ.hp) (hf : ∀ t, VR e (lk σ.fr t) (tmps.getD t undef)) : ∀ (rvs : List ResultVar) (ars : List ARes), rvs.mapM (resRes P) = some ars → ∀ {C : Prop} {xs : List RV}, evResL σ ars = some (C, xs) → C →
    ∃ vs : List Value, (rvs.mapM (resSem tmps)).run P e.w = .ok vs e.w ∧ vs.length = xs.length ∧ vs.length = rvs.length ∧ ∀ (j : Nat) x y, xs[j]? = some x → vs[j]? = some y → VR e x y := by
  intro rvs
  induction rvs with
  | nil =>
    intro ars h C xs hx hC
    simp at h; subst h
    cases hx
    exact ⟨[], rfl, rfl, rfl, fun j x y h => by simp at h⟩
  | cons rv rvs ih =>
    intro ars h C xs hx hC
    simp only [List.mapM_cons, Option.bind_eq_bind, Option.bind_eq_some_iff] at h
    obtain ⟨ar, har, ars', hars, he⟩ := h
    simp at he; subst he
    simp only [evResL, Option.bind_eq_some_iff, Option.map_eq_some_iff] at hx
    obtain ⟨⟨C1, x⟩, hx1, ⟨D, xs'⟩, hx2, he⟩ := hx
    cases he
    obtain ⟨c, hc, hv⟩ := res1_ok (P := P) g hH hf har hx1 hC.1
    obtain ⟨vs, hvs, hn, hn2, hh⟩ := ih ars' hars hx2 hC.2
    refine ⟨c :: vs, ?_, by simp [hn], by simp [hn2], fun j x' y hx' hy => ?_⟩
    · simp only [List.mapM_cons, Sem.run_bind, hc, Result.andThen_ok, hvs, Sem.run_pure]
    · cases j with
      | zero => simp at hx' hy; subst hx'; subst hy; exact hv
      | succ j => exact hh j x' y (by simpa using hx') (by simpa using hy)

theorem tupV_ok {e : Env} {xs : List RV} {vs : Array Value} (hn : vs.size = xs.length) (h : ∀ (j : Nat) x y, xs[j]? = some x → vs[j]? = some y → VR e x y) : VR e (tupV xs) (.tuple vs) := by
  unfold tupV
  split
  · rename_i cs hcs
    have := mapM_toV hcs
    subst this
    exact .v (.tup _ _ (by simpa using hn) (fun j x y hx hy => vr_v (h j (.v x) y (by simp [hx]) hy)))
  · exact .tr hn h

theorem res_ok {P : Program} {e : Env} (g : Good e) {σ : AS} {fn : Func} {tmps : Array Value} (hH : e.H = σ.hp) (hf : ∀ t, VR e (lk σ.fr t) (tmps.getD t undef)) {ars : List ARes} (hr : fn.results.toList.mapM (resRes P) = some ars) {C : Prop} {x : RV} (h : evRes σ ars = some (C, x)) (hC : C) :
    Tells P e (results fn tmps) x := by
  have hall : ∀ {C : Prop} {xs : List RV}, evResL σ ars = some (C, xs) → C → ∃ vs : Array Value, (results fn tmps).run P e.w = .ok (if h : vs.size = 1 then vs[0] else .tuple vs) e.w ∧ vs.size = xs.length ∧ vs.size = ars.length ∧ ∀ (j : Nat) x y, xs[j]? = some x → vs[j]? = some y → VR e x y := by
    intro C xs hx hC
    obtain ⟨vs, hvs, hn, hn2, hh⟩ := resL_ok (P := P) g hH hf _ _ hr hx hC
    refine ⟨vs.toArray, ?_, by simpa using hn, by rw [(mapM_get hr).1]; simpa using hn2, fun j x y hx hy => hh j x y hx (by simpa using hy)⟩
    rw [results_eq, Array.mapM_eq_mapM_toList]
    simp only [Sem.run_bind, Sem.run_map, hvs, Result.andThen_ok, Sem.run_pure]
  unfold evRes at h
  split at h
  · rename_i r
    have h2 : evResL σ [r] = some (C ∧ True, [x]) := by simp [evResL, h]
    obtain ⟨vs, hvs, hn, _, hh⟩ := hall h2 ⟨hC, trivial⟩
    have h1 : vs.size = 1 := by simpa using hn
    refine ⟨vs[0], by rw [hvs]; simp [h1], hh 0 x _ (by simp) (by simp [h1])⟩
  · rename_i hne
    simp only [Option.map_eq_some_iff] at h
    obtain ⟨⟨C', xs⟩, hx, he⟩ := h
    cases he
    obtain ⟨vs, hvs, hn, hn2, hh⟩ := hall hx hC
    have h1 : ¬ vs.size = 1 := fun h1 => by
      rw [hn2] at h1
      obtain ⟨r, rfl⟩ := List.length_eq_one_iff.1 h1
      exact hne r rfl
    exact ⟨.tuple vs, by rw [hvs]; simp [h1], tupV_ok hn hh⟩

def retQ (rs : List ARes) (R : RV → List AObj → Prop) (e : AE) (σ : AS) : Prop :=
  match e with
  | .exit _ => False
  | _ =>
    match evRes σ rs with
    | some (C, r) => C ∧ R r σ.hp
    | none => False

def zipA : Nat → List RV → List (Nat × RV)
  | _, [] => []
  | k, x :: l => (k, x) :: zipA (k + 1) l

theorem lk_zip {l : List RV} : ∀ (k t : Nat), (t < k ∨ k + l.length ≤ t) → lk (zipA k l) t = .any := by
  induction l with
  | nil => intro k t _; rfl
  | cons x l ih =>
    intro k t h
    simp only [List.length_cons] at h
    rw [zipA, lk, if_neg (by omega)]
    exact ih (k + 1) t (by omega)
theorem lk_zip_at {l : List RV} : ∀ (k j : Nat) x, l[j]? = some x → lk (zipA k l) (k + j) = x := by
  induction l with
  | nil => intro k j x h; simp at h
  | cons y l ih =>
    intro k j x h
    cases j with
    | zero => simp at h; subst h; rw [zipA, lk, if_pos (by omega)]
    | succ j =>
      rw [zipA, lk, if_neg (by omega)]
      have := ih (k + 1) j x (by simpa using h)
      rw [← this]; congr 1; omega

def shut (w : World) (ms : List Nat) : World := ms.foldl (fun w r => w.putObj r (.deferred none)) w
theorem shut_same : ∀ (ms : List Nat) (w : World), (shut w ms).os = w.os ∧ (shut w ms).tape = w.tape ∧ OutW w (shut w ms) ∧ (shut w ms).heap.size = w.heap.size ∧ ∀ b, b ∉ ms → (shut w ms).heap[b]? = w.heap[b]?
  | [], w => ⟨rfl, rfl, ⟨rfl, Nat.le_refl _⟩, rfl, fun _ _ => rfl⟩
  | r :: ms, w => by
    obtain ⟨h1, h2, h3, h4, h5⟩ := shut_same ms (w.putObj r (.deferred none))
    refine ⟨h1, h2, h3, h4.trans World.putObj_size, fun b hb => ?_⟩
    simp only [List.mem_cons, not_or] at hb
    exact (h5 b hb.2).trans (World.putObj_heap_other hb.1)
theorem leaves_ms {P : Program} {fn : Func} {tmps : Array Value} {R : Ending → World → Prop} : ∀ (ms : List Nat) (w : World), ms.Nodup → (∀ r ∈ ms, w.heap[r]? = some (.deferred (some []))) →
    (∃ v, (results fn tmps).run P (shut w ms) = .ok v (shut w ms) ∧ R (.returned v) (shut w ms)) → LeavesInM (FW none) 0 P fn tmps R (ms.map fun r => { target := .collected r, args := #[] }) .returning w
  | [], w, _, _, h => by simpa [LeavesInM, LeavesIn, shut] using h
  | r :: ms, w, nd, hd, h => by
    rw [List.nodup_cons] at nd
    refine ⟨by simp, .inl ⟨r, w.putObj r (.deferred none), rfl, run_takeDeferred (hd r (by simp)), leaves_ms ms _ nd.2 (fun r' hr' => ?_) h⟩⟩
    rw [World.putObj_heap_other (fun hc => nd.1 (by rw [← hc]; exact hr'))]
    exact hd r' (by simp [hr'])
theorem untie {e0 e : Env} (g0 : Good e0) (g : Good e) (mv : Mv e0 e) (ms : List Nat) (hm : ∀ r ∈ ms, e0.w.heap.size ≤ r ∧ r < e.w.heap.size ∧ e.w.heap[r]? = some (.deferred (some [])) ∧ ¬ e.own r ∧ ¬ e.Im r) :
    Good ⟨shut e.w ms, e.Im, e.ρ, e.H⟩ ∧ Mv e0 ⟨shut e.w ms, e.Im, e.ρ, e.H⟩ ∧ ∀ {x : RV} {c : Value}, VR e x c → VR ⟨shut e.w ms, e.Im, e.ρ, e.H⟩ x c := by
  obtain ⟨h1, h2, h3, h4, h5⟩ := shut_same ms e.w
  have him : ∀ b, e.Im b → (shut e.w ms).heap[b]? = e.w.heap[b]? := fun b hb => h5 b fun hc => (hm b hc).2.2.2.2 hb
  obtain ⟨e2, he2⟩ : ∃ e2 : Env, e2 = ⟨shut e.w ms, e.Im, e.ρ, e.H⟩ := ⟨_, rfl⟩
  have hv : ∀ {x : RV} {c : Value}, VR e x c → VR ⟨shut e.w ms, e.Im, e.ρ, e.H⟩ x c := fun {x c} h => by
    rw [← he2]
    refine VR.mono (e := e) (e' := e2) (by subst he2; exact fun _ h => h) (by subst he2; exact him) (by subst he2; exact .refl _ _) (fun l s hb => ?_) h
    refine Bs.next (e := e) (e' := e2) hb (by subst he2; exact fun _ h => h) (by subst he2; exact him) (by subst he2; exact .refl _ _) fun r k1 k2 k3 => ?_
    subst he2
    exact ⟨(h5 l fun hc => by have := (hm l hc).2.2.1; rw [k1] at this; cases this).trans k1, k2, k3⟩
  refine ⟨⟨g.len, g.inj, g.dis, fun o l ho => by simp only [h4]; exact g.lt o l ho, fun b hb => by simp only [h4]; exact g.imlt b hb, fun o ob lo k1 k2 => (g.obj o ob lo k1 k2).keepV (fun l hl => h5 _ fun hc => (hm _ hc).2.2.2.1 ⟨o, l, by rw [k2, hl], rfl⟩) hv⟩, ?_, hv⟩
  refine ⟨h1.trans mv.os, h2.trans mv.tape, ⟨h3.1.trans mv.output.1, Nat.le_trans mv.output.2 h3.2⟩, by simp only [h4]; exact mv.size, fun b hb ho => (h5 b fun hc => by have := (hm b hc).1; omega).trans (mv.same b hb ho), mv.im, fun b hb => (h5 b fun hc => by have := (hm b hc).1; have := g0.imlt b hb; omega).trans (mv.imw b hb), mv.imn, mv.nx, mv.ownn⟩

theorem fun_ok {pf : Bool} {P : Program} {f : Nat} {fn : Func} {cd : Code} {c : ACode} {rs : List ARes} {args : List RV} {H : List AObj} {R : RV → List AObj → Prop} (hmx : P.follows .mixedOrders = true) (hf : P.funcs[f]? = some fn) (hb : fn.body = some cd) (hc : resCX pf P fn.ntmps cd = some (strip c))
    (hr : fn.results.toList.mapM (resRes P) = some rs) (hn : args.length ≤ fn.ntmps)
    (h : wpA P none c (retQ rs R) ⟨zipA 0 args, H⟩) : CallS P f args H R := by
  intro e vs g tb hH hvn hv
  refine callsIn_of_wp_marks hf hb trivial ?_ rfl
  have hrel : Rel e fn.ntmps [] ⟨zipA 0 args, H⟩ { tmps := vs ++ Array.replicate (fn.ntmps - vs.size) undef, defers := [] } e.w := by
    refine ⟨e, rfl, hH, g, .refl, fun t => ?_, by simp; omega, .nil⟩
    by_cases ht : t < args.length
    · have hx := List.getElem?_eq_getElem ht
      have := lk_zip_at 0 t _ hx
      rw [Nat.zero_add] at this
      rw [this]
      obtain ⟨y, hy⟩ := array_get (vs := vs) hvn ht
      have e1 : (vs ++ Array.replicate (fn.ntmps - vs.size) undef).getD t undef = y := by
        rw [Array.getD_eq_getD_getElem?, Array.getElem?_append_left (by omega), hy]; rfl
      rw [e1]
      exact hv t _ y hx hy
    · rw [lk_zip 0 t (by omega)]; exact .any
  refine wpIn_mono (wpA_ok hmx g tb c cd hc _ _ h _ _ hrel) ?_
  have fin : ∀ σ a w, (retQ rs R .ret σ) → Rel e fn.ntmps [] σ a w → LeavesInM (FW none) 0 P fn a.tmps (fun E w' => ∃ (c : Value) (e' : Env) (r : RV), E = .returned c ∧ e'.w = w' ∧ Good e' ∧ Mv e e' ∧ VR e' r c ∧ R r e'.H) a.defers .returning w := by
    rintro σ a w hq ⟨e', rfl, hH', g', mv', hf', hN', ms, hD', nd, hm⟩
    simp only [retQ] at hq
    split at hq
    rotate_left
    · exact hq.elim
    rename_i C r hev
    obtain ⟨hC, hR⟩ := hq
    obtain ⟨g2, mv2, hv2⟩ := untie g g' mv' ms hm
    obtain ⟨v, h1, h2⟩ := res_ok (P := P) g2 hH' (fun t => hv2 (hf' t)) hr hev hC
    rw [hD', List.append_nil]
    exact leaves_ms ms _ nd (fun r hr => (hm r hr).2.2.1) ⟨v, h1, v, ⟨shut e'.w ms, e'.Im, e'.ρ, e'.H⟩, r, rfl, rfl, g2, mv2, h2, by simp only [hH']; exact hR⟩
  intro ex a w hq
  cases ex with
  | normal => obtain ⟨σ, h1, h2⟩ := hq; exact fin σ a w h1 h2
  | exit id => obtain ⟨σ, h1, h2⟩ := hq; exact h1.elim
  | ret => obtain ⟨σ, h1, h2⟩ := hq; exact fin σ a w h1 h2
  | goto l => exact hq.elim
  | panic c => exact hq.elim
  | outgrown => exact hq.elim

theorem fun_at {pf : Bool} {P : Program} {f : Nat} {fn : Func} {c : ACode} {rs : List ARes} {args : List RV} {H : List AObj} {R : RV → List AObj → Prop} (hmx : P.follows .mixedOrders = true) (hf : P.funcs[f]? = some fn) (hc : (fn.body.bind (resCX pf P fn.ntmps)) = some (strip c))
    (hr : fn.results.toList.mapM (resRes P) = some rs) (hn : args.length ≤ fn.ntmps)
    (h : wpA P none c (retQ rs R) ⟨zipA 0 args, H⟩) : CallS P f args H R := by
  obtain ⟨cd, hb, hc⟩ := Option.bind_eq_some_iff.1 hc
  exact fun_ok hmx hf hb hc hr hn h

theorem call_pure {P : Program} {f : Nat} {xs : List AV} {r : AV} {args : List RV} {H : List AObj} {R : RV → List AObj → Prop} (hc : ∀ vs w, (callFunc f vs).run P w = .ok (.enter f vs) w) (h : PureS P f xs r) (ha : args = xs.map .v) (hR : R (.v r) H) :
    (∀ vs w, (callFunc f vs).run P w = .ok (.enter f vs) w) ∧ CallS P f args H R := by
  subst ha
  exact ⟨hc, (h.frame H).mono fun r' H' ⟨h1, h2⟩ => by subst h1; subst h2; exact hR⟩

end Go.Av
/- Contracts of plain values, out of contracts with memory of one's own, and the other way about. No condition. -/
set_option linter.constructorNameAsVariable false
namespace Go.Av
open Go Go.RowKit
set_option linter.unusedSimpArgs false
set_option linter.unusedVariables false

theorem pure_of {P : Program} {f : Nat} {args : List AV} {a : AV} (h : CallS P f (args.map .v) [] fun r H' => Frz H' r a) : PureS P f args a := by
  intro e vs g tb hH hn hv
  refine (h e vs g tb hH hn hv).mono fun E w' ⟨c, e', r, hE, hw, g', mv, hr, hR⟩ => ?_
  refine ⟨c, ⟨e'.w, fun b => e'.Im b ∨ e'.own b, [], []⟩, .v a, hE, hw, freeze_all g', ?_, .v (frz_ok g' hR hr), rfl⟩
  refine ⟨mv.os, mv.tape, mv.output, mv.size, mv.same, fun b hb => .inl (mv.im b hb), mv.imw, ?_, ?_, ?_⟩
  · rintro b (hb | hb)
    · exact mv.imn b hb
    · rcases mv.ownn b hb with h1 | h1
      · exact .inr (.inl h1)
      · exact .inr (.inr h1)
  · intro o ob lo h1
    rw [hH] at h1
    simp at h1
  · rintro b ⟨o, l, h1, _⟩
    simp at h1

theorem lend {P : Program} {f : Nat} {args : List RV} {H : List AObj} {xs : List AV} {a : AV} (h : PureS P f xs a) (hf : Flat a) (hl : args.length = xs.length) (hx : ∀ (j : Nat) x y, args[j]? = some x → xs[j]? = some y → Frz H x y) : CallS P f args H fun r H' => r = .v a ∧ H' = H := by
  intro e vs g tb hH hn hv
  have g0 := freeze_all g
  have hc := h ⟨e.w, fun b => e.Im b ∨ e.own b, [], []⟩ vs g0 (tb.more fun b hb => .inl hb) rfl (by simp; omega) (fun j x y hj hy => by
    rw [List.getElem?_map, Option.map_eq_some_iff] at hj
    obtain ⟨x', hx', rfl⟩ := hj
    have hjl := (List.getElem?_eq_some_iff.1 hx').1
    have ha := list_get (l := args) (j := j) (by omega) RV.any
    exact .v (frz_ok g (hH ▸ hx j _ x' ha hx') (hv j _ y ha hy)))
  refine hc.mono fun E w' ⟨c, e', r, hE, hw, g', mv, hr, hR⟩ => ?_
  subst hR
  have sm : ∀ b, b < e.w.heap.size → e'.w.heap[b]? = e.w.heap[b]? := fun b hb => by
    by_cases ho : e.own b
    · exact mv.imw b (.inr ho)
    · exact mv.same b hb (fun ⟨o, l, h1, _⟩ => by simp at h1)
  have mv' : Mv e ⟨e'.w, e.Im, e.ρ, e.H⟩ := ⟨mv.os, mv.tape, mv.output, mv.size, fun b hb _ => sm b hb, fun _ h => h, fun b hb => sm b (g.imlt b hb), fun _ h => .inl h, .refl _ _, fun _ h => .inl h⟩
  have gg : Good ⟨e'.w, e.Im, e.ρ, e.H⟩ := ⟨g.len, g.inj, g.dis, fun o l ho => Nat.lt_of_lt_of_le (g.lt o l ho) mv.size, fun b hb => Nat.lt_of_lt_of_le (g.imlt b hb) mv.size, fun o ob lo h1 h2 => (g.obj o ob lo h1 h2).keep (fun l hl => sm _ (g.lt o l (by rw [h2, hl]))) mv'⟩
  refine ⟨c, ⟨e'.w, e.Im, e.ρ, e.H⟩, .v a, hE, hw, gg, mv', ?_, rfl, hH⟩
  cases hr with
  | v hr => exact .v (hf.vi hr)

theorem call_lend {P : Program} {f : Nat} {xs : List AV} {r : AV} {args : List RV} {H : List AObj} {R : RV → List AObj → Prop} (hc : ∀ vs w, (callFunc f vs).run P w = .ok (.enter f vs) w) (h : PureS P f xs r) (hf : Flat r) (hl : args.length = xs.length) (hx : ∀ (j : Nat) x y, args[j]? = some x → xs[j]? = some y → Frz H x y) (hR : R (.v r) H) :
    (∀ vs w, (callFunc f vs).run P w = .ok (.enter f vs) w) ∧ CallS P f args H R :=
  ⟨hc, (lend h hf hl hx).mono fun r' H' ⟨h1, h2⟩ => by subst h1; subst h2; exact hR⟩

end Go.Av
/- What came in reads as plain values of its type's shape. No condition beyond the row's own. -/
set_option linter.constructorNameAsVariable false
namespace Go.Av
open Go Go.RowKit
set_option linter.unusedSimpArgs false
set_option linter.unusedVariables false

inductive Sh where
  | b
  | i (k : IntKind)
  | s
  | sl (bytes : Nat) (l : List Sh)

def shF (P : Program) (rec : TypeId → Option (List Sh)) : List Field → Nat → Option (List Sh)
  | [], _ => some []
  | f :: fs, off =>
    if f.offset == off then
      (rec f.type).bind fun ks => if P.cellsOf f.type = ks.length then (shF P rec fs (off + ks.length)).map fun l => ks ++ l else none
    else none

def shT (P : Program) : Nat → TypeId → Option (List Sh)
  | 0, _ => none
  | d + 1, t =>
    match P.underlying t with
    | some .bool => some [.b]
    | some (.int k) => some [.i k]
    | some .string => some [.s]
    | some (.struct fs) => (shF P (shT P d) fs.toList 0).bind fun l => if P.cellsOf t = l.length then some l else none
    | some (.array n e) => (shT P d e).bind fun ks => if P.cellsOf e = ks.length ∧ P.cellsOf t = n * ks.length then some (List.replicate n ks).flatten else none
    | some (.slice e) => (shT P d e).bind fun ks => if P.cellsOf e = ks.length ∧ 0 < ks.length then some [.sl (P.bytesOf e) ks] else none
    | _ => none

mutual
def Fit : Sh → AV → Prop
  | .b, a => ∃ x, a = .b x
  | .i k, a => ∃ n, a = .i k n ∧ k.min ≤ n ∧ n ≤ k.max
  | .s, a => ∃ l : List UInt8, a = .s l ∧ l.length ≤ 140737488351232
  | .sl bytes l, a => ∃ rows, a = .sl l.length rows ∧ rows.length * bytes ≤ 140737488351232 ∧ rows.length ≤ 9223372036854775807 ∧ ∀ row ∈ rows, FitL l row
def FitL : List Sh → List AV → Prop
  | [], [] => True
  | s :: ss, x :: xs => Fit s x ∧ FitL ss xs
  | _, _ => False
end

theorem fitL_length : ∀ {l : List Sh} {xs : List AV}, FitL l xs → xs.length = l.length
  | [], [], _ => rfl
  | _ :: _, _ :: _, h => by simp only [FitL] at h; simp [fitL_length h.2]
  | [], _ :: _, h => by simp [FitL] at h
  | _ :: _, [], h => by simp [FitL] at h

theorem fitL_append : ∀ {l l' : List Sh} {xs ys : List AV}, FitL l xs → FitL l' ys → FitL (l ++ l') (xs ++ ys)
  | [], l', [], ys, _, h => h
  | _ :: _, l', _ :: _, ys, h, h' => by simp only [FitL, List.cons_append] at h ⊢; exact ⟨h.1, fitL_append h.2 h'⟩
  | [], _, _ :: _, _, h, _ => by simp [FitL] at h
  | _ :: _, _, [], _, h, _ => by simp [FitL] at h

def VIs (w : World) (Im : Nat → Prop) : List AV → List Value → Prop
  | [], [] => True
  | x :: xs, c :: cs => VI w Im x c ∧ c.oneCell' = true ∧ VIs w Im xs cs
  | _, _ => False

theorem VIs.append {w : World} {Im : Nat → Prop} : ∀ {xs ys : List AV} {cs ds : List Value}, VIs w Im xs cs → VIs w Im ys ds → VIs w Im (xs ++ ys) (cs ++ ds)
  | [], ys, [], ds, _, h => h
  | _ :: _, ys, _ :: _, ds, h, h' => by simp only [VIs, List.cons_append] at h ⊢; exact ⟨h.1, h.2.1, VIs.append h.2.2 h'⟩
  | [], _, _ :: _, _, h, _ => by simp [VIs] at h
  | _ :: _, _, [], _, h, _ => by simp [VIs] at h

theorem VIs.get {w : World} {Im : Nat → Prop} : ∀ {xs : List AV} {cs : List Value}, VIs w Im xs cs → cs.length = xs.length ∧ ∀ (j : Nat) x c, xs[j]? = some x → cs[j]? = some c → VI w Im x c ∧ c.oneCell' = true
  | [], [], _ => ⟨rfl, fun j x c h => by simp at h⟩
  | x :: xs, c :: cs, h => by
    simp only [VIs] at h
    obtain ⟨h1, h2⟩ := VIs.get h.2.2
    refine ⟨by simp [h1], fun j y d hy hd => ?_⟩
    cases j with
    | zero => simp at hy hd; subst hy; subst hd; exact ⟨h.1, h.2.1⟩
    | succ j => exact h2 j y d (by simpa using hy) (by simpa using hd)
  | [], _ :: _, h => by simp [VIs] at h
  | _ :: _, [], h => by simp [VIs] at h

theorem min_le_of_wf {k : IntKind} {n : Int} (h : (Lit.int k n).wf = true) : k.min ≤ n ∧ n ≤ k.max := by simpa [Lit.wf] using h

theorem reach_eq : reachBytes = 140737488351232 := by decide

theorem maxLen_eq : maxLen = 9223372036854775807 := rfl

section
variable {H : Type} {enc : TypeId × Value → H} {P : Program} {w : World} {spare : Nat → Bool} {held : Bool}

def OpenAt (enc : TypeId × Value → H) (P : Program) (w : World) (spare : Nat → Bool) (held : Bool) (fuel : Nat) (t : TypeId) (sh : List Sh) : Prop :=
  ∀ (cs : List Value) (d : DataW H) (ps : List MemPlace), DataW.trod enc P w 0 spare held fuel t cs = some (d, ps) → (d.weights P t).all (· ≤ reachBytes) = true →
    ∃ xs, FitL sh xs ∧ VIs w (fun b => b < w.heap.size) xs cs

theorem open_fields {fuel : Nat} {rec : TypeId → Option (List Sh)} (IH : ∀ t sh, rec t = some sh → OpenAt enc P w spare held fuel t sh) : ∀ (fs : List Field) (off : Nat) (sh : List Sh) (cs : List Value) (ds : List (DataW H × List MemPlace)), shF P rec fs off = some sh →
    fs.mapM (fun f => DataW.trod enc P w 0 spare held fuel f.type ((cs.drop f.offset).take (P.cellsOf f.type))) = some ds → (DataW.weightsEach P (fs.map (·.type)) (ds.map (·.1))).all (· ≤ reachBytes) = true → off + sh.length = cs.length →
    ∃ xs, FitL sh xs ∧ VIs w (fun b => b < w.heap.size) xs (cs.drop off)
  | [], off, sh, cs, ds, h, hd, _, hl => by
    simp [shF] at h; subst h
    refine ⟨[], trivial, ?_⟩
    rw [List.drop_eq_nil_of_le (by simp at hl; omega)]
    trivial
  | f :: fs, off, sh, cs, ds, h, hd, hw, hl => by
    simp only [shF] at h
    split at h
    · rename_i ho
      simp only [beq_iff_eq] at ho
      simp only [Option.bind_eq_some_iff] at h
      obtain ⟨k1, hk1, h⟩ := h
      split at h
      · rename_i hc
        obtain ⟨k2, hk2, rfl⟩ := Option.map_eq_some_iff.1 h
        simp only [List.mapM_cons, Option.bind_eq_bind, Option.bind_eq_some_iff] at hd
        obtain ⟨⟨d1, p1⟩, hd1, ds', hds, he⟩ := hd
        simp at he; subst he
        simp only [List.map_cons, DataW.weightsEach, List.all_append, Bool.and_eq_true] at hw
        obtain ⟨x1, hf1, hv1⟩ := IH f.type k1 hk1 _ d1 p1 hd1 hw.1
        obtain ⟨x2, hf2, hv2⟩ := open_fields IH fs (off + k1.length) k2 cs ds' hk2 hds hw.2 (by simp at hl; omega)
        refine ⟨x1 ++ x2, fitL_append hf1 hf2, ?_⟩
        have : cs.drop off = (cs.drop f.offset).take (P.cellsOf f.type) ++ cs.drop (off + k1.length) := by
          rw [ho, hc, ← List.drop_drop, List.take_append_drop]
        rw [this]
        exact hv1.append hv2
      · cases h
    · cases h

theorem open_items {fuel : Nat} {e : TypeId} {sh : List Sh} (IH : OpenAt enc P w spare held fuel e sh) (hc : P.cellsOf e = sh.length) (cs : List Value) : ∀ (n i : Nat) (ds : List (DataW H × List MemPlace)),
    (List.range' i n).mapM (fun i => DataW.trod enc P w 0 spare held fuel e ((cs.drop (i * P.cellsOf e)).take (P.cellsOf e))) = some ds → (DataW.weightsAll P e (ds.map (·.1))).all (· ≤ reachBytes) = true → (i + n) * sh.length = cs.length →
    ∃ xs, FitL (List.replicate n sh).flatten xs ∧ VIs w (fun b => b < w.heap.size) xs (cs.drop (i * sh.length))
  | 0, i, ds, hd, _, hl => by
    refine ⟨[], trivial, ?_⟩
    rw [List.drop_eq_nil_of_le (by rw [Nat.add_zero] at hl; omega)]
    trivial
  | n + 1, i, ds, hd, hw, hl => by
    rw [List.range'_succ] at hd
    simp only [List.mapM_cons, Option.bind_eq_bind, Option.bind_eq_some_iff] at hd
    obtain ⟨⟨d1, p1⟩, hd1, ds', hds, he⟩ := hd
    simp at he; subst he
    simp only [List.map_cons, DataW.weightsAll, List.all_append, Bool.and_eq_true] at hw
    obtain ⟨x1, hf1, hv1⟩ := IH _ d1 p1 hd1 hw.1
    obtain ⟨x2, hf2, hv2⟩ := open_items IH hc cs n (i + 1) ds' hds hw.2 (by rw [← hl]; congr 1; omega)
    refine ⟨x1 ++ x2, by rw [List.replicate_succ, List.flatten_cons]; exact fitL_append hf1 hf2, ?_⟩
    have : cs.drop (i * sh.length) = (cs.drop (i * P.cellsOf e)).take (P.cellsOf e) ++ cs.drop ((i + 1) * sh.length) := by
      rw [hc, Nat.add_mul, Nat.one_mul, ← List.drop_drop, List.take_append_drop]
    rw [this]
    exact hv1.append hv2

theorem cells_some {a : Addr} {n : Nat} {cs : List Value} (h : w.cells? 0 a n = some cs) : cs.length = n ∧ ∀ (j : Nat) c, cs[j]? = some c → w.cell? (a.add j) = some c := by
  unfold World.cells? at h
  rw [if_pos (Nat.zero_le _)] at h
  obtain ⟨h1, h2⟩ := mapM_get h
  refine ⟨by simpa using h1, fun j c hc => ?_⟩
  have hj : j < n := by
    have := (List.getElem?_eq_some_iff.1 hc).1; rw [h1] at this; simpa using this
  exact h2 j j c (by simp [hj]) hc

theorem weightsAll_mem {e : TypeId} : ∀ {ds : List (DataW H)}, (DataW.weightsAll P e ds).all (· ≤ reachBytes) = true → ∀ d ∈ ds, (d.weights P e).all (· ≤ reachBytes) = true
  | [], _, d, hd => by simp at hd
  | x :: ds, h, d, hd => by
    simp only [DataW.weightsAll, List.all_append, Bool.and_eq_true] at h
    rcases List.mem_cons.1 hd with rfl | hd
    · exact h.1
    · exact weightsAll_mem h.2 d hd

theorem open_any : ∀ (fuel dd : Nat) (t : TypeId) (sh : List Sh), shT P dd t = some sh → OpenAt enc P w spare held fuel t sh := by
  intro fuel
  induction fuel with
  | zero => intro dd t sh _ cs d ps h; simp [DataW.trod] at h
  | succ fuel ih =>
    intro dd t sh hsh cs d ps h hw
    cases dd with
    | zero => simp [shT] at hsh
    | succ dd =>
      unfold shT at hsh
      split at hsh
      · rename_i hu
        cases hsh
        obtain ⟨b, rfl, he⟩ := DataW.trod_bool hu h
        exact ⟨[.b b], ⟨⟨_, rfl⟩, trivial⟩, .b _, rfl, trivial⟩
      · rename_i k hu
        cases hsh
        obtain ⟨n, rfl, he, hwf⟩ := DataW.trod_int hu h
        exact ⟨[.i k n], ⟨⟨_, rfl, min_le_of_wf hwf⟩, trivial⟩, .i _ _, rfl, trivial⟩
      · rename_i hu
        cases hsh
        obtain ⟨s, rfl, he, hs⟩ := DataW.trod_string hu h
        cases he
        simp [DataW.weights, reach_eq] at hw
        exact ⟨[.s s.data.toList], ⟨⟨_, rfl, by simpa using hw⟩, trivial⟩, .s _, rfl, trivial⟩
      · rename_i fs hu
        simp only [Option.bind_eq_some_iff] at hsh
        obtain ⟨l, hl, hsh⟩ := hsh
        split at hsh
        · rename_i hcl
          cases hsh
          unfold DataW.trod at h
          rw [hu] at h
          simp only [Option.bind_eq_bind, Option.pure_def] at h
          split at h
          · rename_i hlen
            obtain ⟨ds, hds, he⟩ := Option.map_eq_some_iff.1 h
            simp only [Prod.mk.injEq] at he
            obtain ⟨rfl, _⟩ := he
            have hw' : (DataW.weightsEach P (fs.toList.map (·.type)) (ds.map (·.1))).all (· ≤ reachBytes) = true := by simpa [DataW.weights, hu] using hw
            have := open_fields (fun t sh => ih dd t sh) fs.toList 0 _ _ ds hl hds hw' (by omega)
            simpa using this
          · cases h
        · cases hsh
      · rename_i n e hu
        simp only [Option.bind_eq_some_iff] at hsh
        obtain ⟨ks, hks, hsh⟩ := hsh
        split at hsh
        · rename_i hcl
          cases hsh
          unfold DataW.trod at h
          rw [hu] at h
          simp only [Option.bind_eq_bind, Option.pure_def] at h
          split at h
          · rename_i hlen
            obtain ⟨ds, hds, he⟩ := Option.map_eq_some_iff.1 h
            simp only [Prod.mk.injEq] at he
            obtain ⟨rfl, _⟩ := he
            have hw' : (DataW.weightsAll P e (ds.map (·.1))).all (· ≤ reachBytes) = true := by simpa [DataW.weights, hu] using hw
            rw [List.range_eq_range'] at hds
            have := open_items (ih dd e ks hks) hcl.1 _ n 0 ds hds hw' (by rw [Nat.zero_add]; omega)
            simpa using this
          · cases h
        · cases hsh
      · rename_i e hu
        simp only [Option.bind_eq_some_iff] at hsh
        obtain ⟨ks, hks, hsh⟩ := hsh
        split at hsh
        · rename_i hcl
          cases hsh
          rcases DataW.trod_slice hu h with ⟨rfl, _⟩ | ⟨a, len, cap, elems, rest, m, hm, rfl, he, _, hlc, hcm, hel, hget, _⟩
          · exact ⟨[.sl ks.length []], ⟨⟨[], rfl, by simp, by simp, fun row h => by simp at h⟩, trivial⟩, .sle _ _ _, rfl, trivial⟩
          · cases hm
            cases he
            have hw1 : (elems.length + rest.length) * P.bytesOf e ≤ reachBytes ∧ (DataW.weightsAll P e (elems.map (·.1))).all (· ≤ reachBytes) = true := by
              simp only [DataW.weights, hu, List.length_map, List.all_cons, List.all_append, Bool.and_eq_true, decide_eq_true_eq] at hw
              exact ⟨hw.1, hw.2.1⟩
            have hrow : ∀ i, ∃ xs : List AV, i < len → FitL ks xs ∧ ∃ csi, w.cells? 0 (a.add (i * P.cellsOf e)) (P.cellsOf e) = some csi ∧ VIs w (fun b => b < w.heap.size) xs csi := by
              intro i
              by_cases hi : i < len
              · have hg := hget i hi
                have hie : elems[i]? = some (elems[i]'(by omega)) := List.getElem?_eq_getElem (by omega)
                rw [hie] at hg
                simp only [Option.bind_eq_some_iff] at hg
                obtain ⟨csi, hcsi, htr⟩ := hg
                obtain ⟨xs, h1, h2⟩ := ih dd e ks hks csi _ _ htr (weightsAll_mem hw1.2 _ (List.mem_map.2 ⟨_, List.getElem_mem (by omega), rfl⟩))
                exact ⟨xs, fun _ => ⟨h1, csi, hcsi, h2⟩⟩
              · exact ⟨[], fun h => absurd h hi⟩
            have hX : ∃ X : Nat → List AV, ∀ i, i < len → FitL ks (X i) ∧ ∃ csi, w.cells? 0 (a.add (i * P.cellsOf e)) (P.cellsOf e) = some csi ∧ VIs w (fun b => b < w.heap.size) (X i) csi := ⟨fun i => (hrow i).choose, fun i => (hrow i).choose_spec⟩
            obtain ⟨X, hX⟩ := hX
            have hlen : ((List.range len).map X).length = len := by simp
            have hrg : ∀ (r : Nat) row, ((List.range len).map X)[r]? = some row → r < len ∧ row = X r := fun r row h => by
              rw [List.getElem?_map, Option.map_eq_some_iff] at h
              obtain ⟨q, hq, rfl⟩ := h
              obtain ⟨hlt, e1⟩ := List.getElem?_eq_some_iff.1 hq
              simp at hlt e1; subst e1; exact ⟨hlt, rfl⟩
            refine ⟨[.sl ks.length ((List.range len).map X)], ⟨⟨_, rfl, ?_, ?_, ?_⟩, trivial⟩, ?_, rfl, trivial⟩
            · rw [hlen, ← hel, ← reach_eq]
              exact Nat.le_trans (Nat.mul_le_mul_right _ (Nat.le_add_right _ _)) hw1.1
            · rw [hlen]; rw [maxLen_eq] at hcm; omega
            · intro row hm
              obtain ⟨q, hq, rfl⟩ := List.mem_map.1 hm
              exact (hX q (List.mem_range.1 hq)).1
            · cases len with
              | zero => exact .sle _ _ _
              | succ len =>
                have hspot : a.spot = none := by
                  obtain ⟨_, csi, hcsi, hv⟩ := hX 0 (by omega)
                  obtain ⟨hl0, hc0⟩ := cells_some hcsi
                  have : ∃ c, csi[0]? = some c := ⟨csi[0]'(by omega), by simp⟩
                  obtain ⟨c, hc⟩ := this
                  have := hc0 0 c hc
                  simp only [Nat.zero_mul, Addr.add, if_true] at this
                  unfold World.cell? at this
                  split at this
                  · split at this
                    · cases this
                    · rename_i h; simpa using h
                  · cases this
                obtain ⟨bk, of, sp⟩ := a
                simp only at hspot
                subst hspot
                have hcell : ∀ (r : Nat) row (j : Nat) x, ((List.range (len + 1)).map X)[r]? = some row → row[j]? = some x → ∃ c, w.cell? ⟨bk, of + r * ks.length + j, none⟩ = some c ∧ c.oneCell' = true ∧ VI w (fun b => b < w.heap.size) x c := by
                  intro r row j x hr hx
                  obtain ⟨hrl, rfl⟩ := hrg r row hr
                  obtain ⟨_, csi, hcsi, hv⟩ := hX r hrl
                  obtain ⟨hl0, hc0⟩ := cells_some hcsi
                  obtain ⟨hv1, hv2⟩ := hv.get
                  have hj : j < csi.length := by rw [hv1]; exact (List.getElem?_eq_some_iff.1 hx).1
                  have hcj := List.getElem?_eq_getElem hj
                  have h3 := hv2 j x _ hx hcj
                  refine ⟨csi[j], ?_, h3.2, h3.1⟩
                  have := hc0 j _ hcj
                  rw [add_none, add_none, hcl.1] at this
                  exact this
                have hlt : bk < w.heap.size := by
                  have h0 : ((List.range (len + 1)).map X)[0]? = some (X 0) := by simp
                  have hx0 := fitL_length (hX 0 (by omega)).1
                  obtain ⟨c, hc, _⟩ := hcell 0 (X 0) 0 _ h0 (List.getElem?_eq_getElem (by omega))
                  exact World.block_lt_of_cell? (h := hc)
                have hf : ∃ f : Nat → Nat → Value, ∀ (r : Nat) row (j : Nat) x, ((List.range (len + 1)).map X)[r]? = some row → row[j]? = some x → w.cell? ⟨bk, of + r * ks.length + j, none⟩ = some (f r j) ∧ (f r j).oneCell' = true ∧ VI w (fun b => b < w.heap.size) x (f r j) := by
                  refine ⟨fun r j => (w.cell? ⟨bk, of + r * ks.length + j, none⟩).getD undef, fun r row j x hr hx => ?_⟩
                  obtain ⟨c, hc, h1, h2⟩ := hcell r row j x hr hx
                  simp only [hc, Option.getD_some]; exact ⟨trivial, h1, h2⟩
                obtain ⟨f, hf⟩ := hf
                have := VI.sl (w := w) (Im := fun b => b < w.heap.size) ks.length ((List.range (len + 1)).map X) bk of cap f hlt (fun row hm => by
                  obtain ⟨q, hq, rfl⟩ := List.mem_map.1 hm
                  exact fitL_length (hX q (List.mem_range.1 hq)).1) (by rw [hlen]; exact hlc) (fun r row j x hr hx => ⟨(hf r row j x hr hx).1, (hf r row j x hr hx).2.1⟩) (fun r row j x hr hx => (hf r row j x hr hx).2.2)
                rw [hlen] at this
                exact this
        · cases hsh
      · cases hsh
end
end Go.Av
/- A law's row: what it is handed reads as plain values, and a contract of plain values that answers true is the row. No condition beyond the row's own. -/
set_option linter.constructorNameAsVariable false
namespace Go.Av
open Go Go.RowKit Go.ChangeShapes Go.WideShapes Go.ChangeAt
set_option linter.unusedSimpArgs false
set_option linter.unusedVariables false

def argV (P : Program) (t : TypeId) (xs : List AV) : AV :=
  match P.underlying t with
  | some (.struct _) => .g xs
  | some (.array _ _) => .g xs
  | _ => xs.headD .nf

def FitA (P : Program) (d : Nat) : List TypeId → List AV → Prop
  | [], [] => True
  | t :: ts, a :: as => (∃ sh xs, shT P d t = some sh ∧ FitL sh xs ∧ a = argV P t xs) ∧ FitA P d ts as
  | _, _ => False

theorem fitA_length {P : Program} {d : Nat} : ∀ {ts : List TypeId} {as : List AV}, FitA P d ts as → as.length = ts.length
  | [], [], _ => rfl
  | _ :: _, _ :: _, h => by simp only [FitA] at h; simp [fitA_length h.2]
  | [], _ :: _, h => by simp [FitA] at h
  | _ :: _, [], h => by simp [FitA] at h

section
variable {H : Type} {enc : TypeId × Value → H} {P : Program} {w : World} {spare : Nat → Bool} {held : Bool}

theorem shT_one {d : Nat} {t : TypeId} {sh : List Sh} (h : shT P d t = some sh) (h1 : ∀ fs, P.underlying t ≠ some (.struct fs)) (h2 : ∀ n e, P.underlying t ≠ some (.array n e)) : ∃ s, sh = [s] := by
  cases d with
  | zero => simp [shT] at h
  | succ d =>
    unfold shT at h
    split at h
    · cases h; exact ⟨_, rfl⟩
    · cases h; exact ⟨_, rfl⟩
    · cases h; exact ⟨_, rfl⟩
    · rename_i fs hu; exact absurd hu (h1 fs)
    · rename_i n e hu; exact absurd hu (h2 n e)
    · simp only [Option.bind_eq_some_iff] at h
      obtain ⟨ks, _, h⟩ := h
      split at h
      · cases h; exact ⟨_, rfl⟩
      · cases h
    · cases h

theorem cell_arg {r : Reach} {base : Nat} {t : TypeId} {v : Value} (h : Value.okWide P w r base t v) (h1 : ∀ fs, P.underlying t ≠ some (.struct fs)) (h2 : ∀ n e, P.underlying t ≠ some (.array n e)) (hc : v.cells.toList.length = 1) {x : AV} {Im : Nat → Prop} (hv : VIs w Im [x] v.cells.toList) : VI w Im x v := by
  unfold Value.okWide at h
  split at h
  · rename_i fs hu; exact absurd hu (h1 fs)
  · rename_i n e hu; exact absurd hu (h2 n e)
  · cases v with
    | agg cs =>
      exfalso
      revert h
      unfold Cell.okWide
      split <;> simp_all [Cell.ok]
    | _ => exact hv.1

theorem open_arg {d : Nat} {t : TypeId} {sh : List Sh} (hsh : shT P d t = some sh) {v : Value} {dd : DataW H} {ps : List MemPlace} (h : DataW.Trod enc P w 0 spare held t v dd ps) (hw : (dd.weights P t).all (· ≤ reachBytes) = true) {r : Reach} {base : Nat} (hok : Value.okWide P w r base t v) :
    ∃ xs, FitL sh xs ∧ VI w (fun b => b < w.heap.size) (argV P t xs) v := by
  obtain ⟨fuel, h⟩ := h
  obtain ⟨xs, h1, h2⟩ := open_any fuel d t sh hsh _ _ _ h hw
  refine ⟨xs, h1, ?_⟩
  unfold argV
  split
  · rename_i fs hu
    unfold Value.okWide at hok
    rw [hu] at hok
    obtain ⟨cs, rfl, _, _⟩ := hok
    obtain ⟨h3, h4⟩ := h2.get
    refine .g xs cs (by simpa [Value.cells] using h3) ?_ ?_
    · intro j c hc
      have hj : j < xs.length := by
        have := (Array.getElem?_eq_some_iff.1 hc).1
        simp [Value.cells] at h3; omega
      exact (h4 j _ c (List.getElem?_eq_getElem hj) (by simpa [Value.cells] using hc)).2
    · intro j a c ha hc
      exact (h4 j a c ha (by simpa [Value.cells] using hc)).1
  · rename_i n e hu
    unfold Value.okWide at hok
    rw [hu] at hok
    obtain ⟨cs, rfl, _, _⟩ := hok
    obtain ⟨h3, h4⟩ := h2.get
    refine .g xs cs (by simpa [Value.cells] using h3) ?_ ?_
    · intro j c hc
      have hj : j < xs.length := by
        have := (Array.getElem?_eq_some_iff.1 hc).1
        simp [Value.cells] at h3; omega
      exact (h4 j _ c (List.getElem?_eq_getElem hj) (by simpa [Value.cells] using hc)).2
    · intro j a c ha hc
      exact (h4 j a c ha (by simpa [Value.cells] using hc)).1
  · rename_i h5 h6
    obtain ⟨s, rfl⟩ := shT_one hsh h5 h6
    have hl := fitL_length h1
    cases xs with
    | nil => simp at hl
    | cons x xs =>
      cases xs with
      | nil =>
        obtain ⟨h3, _⟩ := h2.get
        exact cell_arg hok h5 h6 (by simpa using h3) h2
      | cons _ _ => simp at hl

theorem open_args {d : Nat} {r : Reach} {base : Nat} : ∀ {ts : List TypeId} {vs : List Value} {ds : List (DataW H)} {ps : List MemPlace}, DataW.TrodAll enc P w 0 spare held ts vs ds ps → (DataW.weightsEach P ts ds).all (· ≤ reachBytes) = true →
    (∀ (j : Nat) t v, ts[j]? = some t → vs[j]? = some v → Value.okWide P w r base t v) → ts.all (fun t => (shT P d t).isSome) = true →
    ∃ as, FitA P d ts as ∧ vs.length = as.length ∧ ∀ (j : Nat) a v, as[j]? = some a → vs[j]? = some v → VI w (fun b => b < w.heap.size) a v
  | [], vs, ds, ps, h, _, _, _ => by
    obtain ⟨rfl, rfl, rfl⟩ := trodAll_nil h
    exact ⟨[], trivial, rfl, fun j a v h => by simp at h⟩
  | t :: ts, vs, ds, ps, h, hw, hok, hs => by
    obtain ⟨v, vs, dd, ds, p, q, rfl, rfl, rfl, h1, h2⟩ := trodAll_cons h
    simp only [DataW.weightsEach, List.all_append, Bool.and_eq_true] at hw
    simp only [List.all_cons, Bool.and_eq_true, Option.isSome_iff_exists] at hs
    obtain ⟨⟨sh, hsh⟩, hs⟩ := hs
    obtain ⟨xs, h3, h4⟩ := open_arg hsh h1 hw.1 (hok 0 t v rfl rfl)
    obtain ⟨as, h5, h6, h7⟩ := open_args h2 hw.2 (fun j t v ht hv => hok (j + 1) t v (by simpa using ht) (by simpa using hv)) hs
    refine ⟨argV P t xs :: as, ⟨⟨sh, xs, hsh, h3, rfl⟩, h5⟩, by simp [h6], fun j a v ha hv => ?_⟩
    cases j with
    | zero => simp at ha hv; subst ha; subst hv; exact h4
    | succ j => exact h7 j a v (by simpa using ha) (by simpa using hv)

theorem below_all {W W' : World} (hl : laidOutB P = true) (hb : Below W.heap.size W W') : ∀ {ts : List TypeId} {vs : List Value} {ds : List (DataW H)} {ps : List MemPlace}, ts.all (fun t => P.readableRec t && decide (t < P.types.size)) = true →
    DataW.TrodAll enc P W 0 (fun _ => true) true ts vs ds ps → DataW.TrodAll enc P W' 0 (fun b => decide (b < W.heap.size)) true ts vs ds ps
  | [], vs, ds, ps, _, h => by
    obtain ⟨rfl, rfl, rfl⟩ := trodAll_nil h
    rfl
  | t :: ts, vs, ds, ps, hs, h => by
    have hlt := DataW.TrodAll.lt h
    obtain ⟨v, vs, dd, ds, p, q, rfl, rfl, rfl, h1, h2⟩ := trodAll_cons h
    simp only [List.all_cons, Bool.and_eq_true, decide_eq_true_eq] at hs
    exact trodAll_cons_mk (Below.trod hl hs.1.1 hs.1.2 h1 hb (fun x hx => hlt x (List.mem_append_left _ hx))) (below_all hl hb hs.2 h2)
end

theorem law_contract {H : Type} {enc : TypeId × Value → H} {P : Program} {a : Assume} {f : FuncId} {fn : Func} {s : ChangeSpec} {conds : List PathCond} {d tb : Nat} (hmx : P.follows .mixedOrders = true)
    (hs : ∀ ds : List (DataW H), ds.length = fn.params.toList.length → s.fn H ds = { results := [.lit (.bool true)], args := ds }) (hvs : s.vars = []) (hr : fn.resultTypes = #[tb]) (hb : P.underlying tb = some .bool)
    (hsh : fn.params.toList.all (fun t => (shT P d t).isSome) = true) (hrow : fn.params.toList.all (fun t => P.readableRec t && decide (t < P.types.size)) = true) (hl : laidOutB P = true)
    (law : ∀ as, FitA P d fn.params.toList as → ∀ (W : World) (args : Array Value), args.toList.length = as.length → (∀ (j : Nat) a v, as[j]? = some a → args[j]? = some v → VI W (fun b => b < W.heap.size) a v) →
      Calls P f args W fun e W' => e = .returned (.bool true) ∧ Below W.heap.size W W') :
    ∀ (W : World) (base : Nat) (args : Array Value) (ds gs : List (DataW H)) (before : List MemPlace),
      (∀ (j : Nat) t v, fn.params[j]? = some t → args[j]? = some v → Value.okWide P W .any base t v) →
      DataW.Whole enc P fn.params.toList s.vars false W args.toList ds gs before →
      conds.all (PathCond.test P ⟨fn.params.toList, ds, s.plain.varTypes P, gs⟩) = true →
      (DataW.weightsEach P (fn.params.toList ++ s.plain.varTypes P) (ds ++ gs)).all (· ≤ reachBytes) = true →
      a.holds P (lone (Frame.enter P f args .normal) [] W) →
      Calls P f args W fun e W' => ∃ v, e = .returned v ∧ s.post enc P fn false true false false W args v W' := by
  intro W base args ds gs before hval hW _ hsz _
  have hW' := hW
  obtain ⟨p, q, hA, hV, rfl, hfz, hnd⟩ := hW
  rw [hvs] at hV
  obtain ⟨rfl, rfl⟩ := trodVars_none hV
  have hvt : s.plain.varTypes P = [] := by simp [DataSpec.varTypes, ChangeSpec.plain, hvs]
  rw [hvt] at hsz
  simp only [List.append_nil] at hsz
  obtain ⟨as, h1, h2, h3⟩ := open_args hA hsz (fun j t v ht hv => hval j t v (by simpa using ht) (by simpa using hv)) hsh
  refine (law as h1 W args h2 (fun j a v ha hv => h3 j a v ha (by simpa using hv))).mono fun e W' ⟨he, bel⟩ => ?_
  subst he
  have hlen : ds.length = fn.params.toList.length := by
    have : ∀ {ts : List TypeId} {vs : List Value} {ds : List (DataW H)} {ps : List MemPlace}, DataW.TrodAll enc P W 0 (fun _ => true) true ts vs ds ps → ds.length = ts.length := by
      intro ts
      induction ts with
      | nil => intro vs ds ps h; obtain ⟨rfl, rfl, rfl⟩ := trodAll_nil h; rfl
      | cons t ts ih => intro vs ds ps h; obtain ⟨v, vs, dd, ds, p, q, rfl, rfl, rfl, h1, h2⟩ := trodAll_cons h; simp [ih h2]
    exact this hA
  have hf := hs ds hlen
  refine ⟨_, rfl, ds, [], _, [], p, [], hW', ?_, ?_, ?_, bel.frame _, fun h => by cases h⟩
  · rw [List.append_nil, hf, hr]
    exact trodAll_mk1 (shut_bool hb _)
  · rw [List.append_nil, hf]
    exact below_all hl bel hrow hA
  · rw [List.append_nil, hf, hvs]
    rfl

theorem no_tabs {P : Program} (h : P.globals.toList.all (fun g => (tabNamed g.name).isNone) = true) (e : Env) : Tabs P e := by
  intro g cs hg
  unfold tabOf at hg
  obtain ⟨gl, h1, h2⟩ := Option.bind_eq_some_iff.1 hg
  have hm : gl ∈ P.globals.toList := by simpa using Array.mem_of_getElem? h1
  have := List.all_eq_true.1 h gl hm
  rw [h2] at this
  cases this
theorem law_calls {P : Program} {f : Nat} {as : List AV} (h : PureS P f as (.b true)) (W : World) (tb : Tabs P ⟨W, fun b => b < W.heap.size, [], []⟩) (args : Array Value) (hn : args.toList.length = as.length) (hv : ∀ (j : Nat) a v, as[j]? = some a → args[j]? = some v → VI W (fun b => b < W.heap.size) a v) :
    Calls P f args W fun e W' => e = .returned (.bool true) ∧ Below W.heap.size W W' := by
  have g : Good ⟨W, fun b => b < W.heap.size, [], []⟩ := ⟨rfl, fun o o' l l' h => by simp at h, fun o l h => by simp at h, fun o l h => by simp at h, fun b hb => hb, fun o ob lo h => by simp at h⟩
  have := h ⟨W, fun b => b < W.heap.size, [], []⟩ args g tb rfl (by simpa using hn) (fun j x y hx hy => by
    rw [List.getElem?_map] at hx
    obtain ⟨a, ha, rfl⟩ := Option.map_eq_some_iff.1 hx
    exact .v (hv j a y ha hy))
  refine (this.calls (fun k d hd => by cases hd)).mono fun E w' ⟨c, e', r, hE, hw, _, mv, hr, hR⟩ => ?_
  subst hE; subst hw; subst hR
  cases hr with
  | v hr =>
    cases hr
    exact ⟨rfl, mv.os, mv.tape, mv.output.1, mv.size, fun k hk => mv.imw k hk⟩
end Go.Av
