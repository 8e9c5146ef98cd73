/- A loop over a function, by its rounds. No condition. -/
import Derived.Test.YtgipkikbefnokaaDoorXAv20
set_option linter.constructorNameAsVariable false
namespace Go.Av
open Go Go.RowKit
set_option linter.unusedSimpArgs false
set_option linter.unusedVariables false
def putPs : List Nat → List AV → List (Nat × RV) → List (Nat × RV)
  | p :: ps, a :: as, fr => putPs ps as ((p, .v a) :: fr)
  | _, _, fr => fr
theorem putPs_ok {e : Env} {N : Nat} : ∀ (ps : List Nat) (as : List AV) (vs : List Value) (fr : List (Nat × RV)) (tm : Array Value), tm.size = N → (∀ p ∈ ps, p < N) → as.length = vs.length → (∀ (j : Nat) x y, as[j]? = some x → vs[j]? = some y → VR e (.v x) y) →
    (∀ t, VR e (lk fr t) (tm.getD t undef)) → ∀ t, VR e (lk (putPs ps as fr) t) (((ps.zip vs).foldl (fun tm (p, v) => tm.setIfInBounds p v) tm).getD t undef)
  | [], as, vs, fr, tm, _, _, _, _, h, t => by cases as <;> exact h t
  | p :: ps, [], vs, fr, tm, _, _, hl, _, h, t => by
    obtain rfl : vs = [] := List.eq_nil_of_length_eq_zero (by simpa using hl.symm)
    exact h t
  | p :: ps, a :: as, [], fr, tm, _, _, hl, _, h, t => by simp at hl
  | p :: ps, a :: as, v :: vs, fr, tm, hN, hp, hl, hv, h, t => by
    simp only [putPs, List.zip_cons_cons, List.foldl_cons]
    refine putPs_ok ps as vs _ _ (by simpa using hN) (fun q hq => hp q (by simp [hq])) (by simpa using hl) (fun j x y hx hy => hv (j + 1) x y (by simpa using hx) (by simpa using hy)) (fun t => ?_) t
    rw [lk]
    have hpN := hp p (by simp)
    by_cases hpt : p = t
    · subst hpt
      rw [if_pos rfl]
      have : (tm.setIfInBounds p v).getD p undef = v := by simp [Array.getD, hN, hpN]
      rw [this]; exact hv 0 a v rfl rfl
    · rw [if_neg hpt]
      have : (tm.setIfInBounds p v).getD t undef = tm.getD t undef := by simp [Array.getElem?_setIfInBounds, hpt]
      rw [this]; exact h t
theorem foldl_size : ∀ (l : List (Nat × Value)) (tm : Array Value), (l.foldl (fun tm (p, v) => tm.setIfInBounds p v) tm).size = tm.size
  | [], tm => rfl
  | (p, v) :: l, tm => by simp [foldl_size l]
def asgQ (P : Program) (rd : Option Nat) (y : ACode) (Q : AE → AS → Prop) : AE → AS → Prop
  | .normal, σ => frLow σ.hp.length σ.fr ∧ lowH σ.hp.length σ.hp ∧ go P rd y [] Q σ
  | _, _ => False
def rfQ (J : Nat → List AObj → Prop) (i : Nat) : AE → AS → Prop
  | .normal, σ => ∃ h X, σ.hp = h ++ X ∧ J (i + 1) h
  | _, _ => False
section
variable (P : Program) (rd : Option Nat) (y : ACode) (Q : AE → AS → Prop) (J : Nat → List AObj → Prop) (i id : Nat) (σ : AS)
@[simp] theorem asgQ_normal : asgQ P rd y Q .normal σ = (frLow σ.hp.length σ.fr ∧ lowH σ.hp.length σ.hp ∧ go P rd y [] Q σ) := rfl
@[simp] theorem asgQ_exit : asgQ P rd y Q (.exit id) σ = False := rfl
@[simp] theorem asgQ_ret : asgQ P rd y Q .ret σ = False := rfl
@[simp] theorem rfQ_normal : rfQ J i .normal σ = ∃ h X, σ.hp = h ++ X ∧ J (i + 1) h := rfl
@[simp] theorem rfQ_exit : rfQ J i (.exit id) σ = False := rfl
@[simp] theorem rfQ_ret : rfQ J i .ret σ = False := rfl
end
theorem rf_ok {P : Program} (hmx : P.follows .mixedOrders = true) {f : AX} {ps : List Nat} {x y : ACode} {Q : AE → AS → Prop} {σ : AS} {gid : Nat} {caps : List AV} {xs : List (List AV)} (hf : ax σ.fr f = .v (.fn gid caps)) (hc : ∀ vs w, (callFunc gid vs).run P w = .ok (.enter gid vs) w)
    (it : IterS P gid caps xs) (hps : ∀ a ∈ xs, a.length = ps.length) (J : Nat → List AObj → Prop) (hJ : ∀ i h, J i h → h.length = σ.hp.length ∧ lowH σ.hp.length h) (h0 : J 0 σ.hp)
    (fr1 : List (Nat × RV)) (hfr : ∀ t, lk fr1 t = lk σ.fr t ∨ lk fr1 t = .any) (hlow : frLow σ.hp.length fr1)
    (round : ∀ l i h (hi : i < xs.length), J i h → wpA P (some l) x (asgQ P (some l) y (rfQ J i)) ⟨putPs ps xs[i] fr1, h⟩)
    (done : ∀ h, J xs.length h → Q .normal ⟨σ.fr, h⟩) : RfK P none f ps x y Q σ := by
  intro pf N fo pa cx cy hfo hpa hpN hx hy e0 g0 t0 D a w hr
  obtain ⟨e, rfl, hH, g, mv, hfv, hN, hD⟩ := hr
  have hval := reads_ax (t0.mv mv) hfv fo _ hfo
  rw [hf] at hval
  have hvi := vr_v hval
  obtain ⟨vs, hev, hvn, hvc⟩ : ∃ vs : Array Value, a.eval fo = .func (.func gid) #[] vs ∧ vs.size = caps.length ∧ ∀ (j : Nat) b c, caps[j]? = some b → vs[j]? = some c → VI e.w e.Im b c := by
    generalize a.eval fo = val at hvi
    cases hvi with
    | fn _ _ vs hn h => exact ⟨vs, rfl, hn, h⟩
  refine wpIn_rangeFunc ?_
  intro fn hfn
  obtain ⟨rec, hrec⟩ : ∃ rec : Loop, rec = { state := .ready, pending := none, fn, tmps := a.tmps, params := pa, assign := cx, body := cy, defers := e.w.heap.size } := ⟨_, rfl⟩
  obtain ⟨l, hl⟩ : ∃ l, l = e.w.heap.size + 1 := ⟨_, rfl⟩
  obtain ⟨W1, hW1⟩ : ∃ W1, (e.w.alloc (.deferred (some []))).alloc (.loop rec) = W1 := ⟨_, rfl⟩
  have hL1 : W1.heap[l]? = some (.loop rec) := by
    rw [← hW1, hl]; have := World.alloc_heap_new (e.w.alloc (.deferred (some []))) (.loop rec); rwa [World.size_alloc] at this
  have hb1 : ∀ b, b < e.w.heap.size → W1.heap[b]? = e.w.heap[b]? := fun b hb => by
    rw [← hW1]
    show ((e.w.heap.push _).push _)[b]? = _
    rw [Array.getElem?_push_lt (by simp; omega), Array.getElem_push_lt (by omega), Array.getElem?_eq_getElem hb]
  have hK1 : W1.heap[e.w.heap.size]? = some (.deferred (some [])) := by
    rw [← hW1]
    show ((e.w.heap.push _).push _)[e.w.heap.size]? = _
    rw [Array.getElem?_push_lt (by simp), Array.getElem_push_eq]
  have hs1 : W1.heap.size = e.w.heap.size + 2 := by rw [← hW1]; simp
  obtain ⟨e1, he1⟩ : ∃ e1 : Env, e1 = ⟨W1, e.Im, e.ρ, e.H⟩ := ⟨_, rfl⟩
  have hw1 : e1.w = W1 := by rw [he1]
  have hi1 : e1.Im = e.Im := by rw [he1]
  have hH1 : e1.H = σ.hp := by rw [he1]; exact hH
  have hr1 : e1.ρ = e.ρ := by rw [he1]
  have ho1 : ∀ b, e1.own b ↔ e.own b := fun b => by simp only [Env.own, hr1]
  have mv1 : Mv e e1 := by
    subst he1
    refine ⟨by rw [← hW1]; rfl, by rw [← hW1]; rfl, by rw [← hW1]; exact ⟨rfl, Nat.le_refl _⟩, by simp only [hs1]; omega, fun b hb _ => hb1 b hb, fun _ h => h, fun b hb => hb1 b (g.imlt b hb), fun _ h => .inl h, .refl _ _, fun _ h => .inl h⟩
  have g1 : Good e1 := by
    have hsz : e.w.heap.size ≤ e1.w.heap.size := mv1.size
    refine ⟨by rw [hr1, hH1, ← hH]; exact g.len, by rw [hr1]; exact g.inj, by rw [hr1, hi1]; exact g.dis, fun o q ho => by rw [hr1] at ho; exact Nat.lt_of_lt_of_le (g.lt o q ho) hsz, fun b hb => by rw [hi1] at hb; exact Nat.lt_of_lt_of_le (g.imlt b hb) hsz, fun o ob lo h1 h2 => ?_⟩
    rw [hr1] at h2
    rw [hH1, ← hH] at h1
    exact (g.obj o ob lo h1 h2).keep (fun q hq => by rw [hw1]; exact hb1 _ (g.lt o q (by rw [h2, hq]))) mv1
  have ownlt : ∀ b, e1.own b → b < e.w.heap.size := fun b hb => by obtain ⟨o, q, ho, hb⟩ := (ho1 b).1 hb; have := g.lt o q ho; omega
  have imlt1 : ∀ b, e1.Im b → b < e.w.heap.size := fun b hb => g.imlt b (by rw [← hi1]; exact hb)
  have bs1 : Bs l e1.st e1.st := ⟨fun _ h => h, fun _ _ => rfl, fun o ob lo h1 h2 => ⟨ob, lo, h1, h2, by cases ob with | none => trivial | var => exact ⟨rfl, rfl⟩ | xo im => exact ⟨rfl, rfl⟩ | buf t v n => exact ⟨v, n, rfl, .inr ⟨rfl, rfl, rfl⟩⟩ | arr v sz n => exact ⟨v, sz, n, rfl, .inr ⟨rfl, rfl, rfl, rfl⟩⟩⟩, ⟨rec, by show e1.w.heap[l]? = _; rw [hw1]; exact hL1, by show e1.w.heap[l]? = _; rw [hw1]; exact hL1⟩, fun h => by have := ownlt l h; omega, fun h => by have := imlt1 l h; omega⟩
  refine ⟨l, [{ target := .collected e.w.heap.size, args := #[] }], W1, { target := .fn (.func gid) vs, args := #[.func (.yield l) #[] #[]] }, W1, gid, #[.func (.yield l) #[] #[]] ++ vs, W1, ?_, ?_, fun _ _ => trivial, ?_, fun h => by simp at h, ?_⟩
  · rw [← hW1, hrec, hl]; exact run_enterLoop_outer _ _ _ _ _
  · simp only [resolve, hev]
    simp [go_sem]
  · simp [invoke, go_sem, hc]
  -- what is one's own behind the rounds
  have rec_at : ∀ e' : Env, Bs l e1.st e'.st → e'.w.heap[l]? = some (.loop rec) := fun e' hb => by
    obtain ⟨r, h1, h2⟩ := hb.lp
    have h1 : e1.w.heap[l]? = some (.loop r) := h1
    rw [hw1, hL1] at h1
    cases h1
    exact h2
  have call := it l e1.st σ.hp J (by simp [Env.st, hH1]) hJ (fun i h hi hj => by
    intro e3 vs3 g3 t3 hH3 bs3 hn3 hv3
    obtain ⟨hlen3, low3⟩ := hJ i h hj
    have hL3 := rec_at e3 bs3
    have no3 : ¬ e3.own l := bs3.no
    have ni3 : ¬ e3.Im l := bs3.ni
    have l3 : l < e3.w.heap.size := (Array.getElem?_eq_some_iff.1 hL3).1
    have hxl := hps _ (List.getElem_mem hi)
    have hrp : rec.params = pa := by rw [hrec]
    have hsz : vs3.size = pa.size := by rw [hn3, List.length_map, hxl, ← hpa, Array.length_toList]
    have hy3 := run_yield (P := P) (args := vs3) hL3 (by rw [hrp]; exact hsz)
    rw [hrec] at hy3
    refine ⟨fn, _, cx, cy, hy3, roundIn_of_wpIn trivial ?_⟩
    have nx13 : Nx e1.H e1.ρ e3.H e3.ρ := Mv.nxOf bs3.nx
    have slots : ∀ t, VR e3 (lk fr1 t) (a.tmps.getD t undef) := fun t => by
      rcases hfr t with ht | ht
      · have hd := lk_low hlow t
        rw [ht] at hd ⊢
        exact VR.monoD bs3.im bs3.imw nx13 (mv1.vr (hfv t)) hd
      · rw [ht]; exact .any
    have hfold : ((pa.zip vs3).foldl (fun tmps (p : Tmp × Value) => tmps.setIfInBounds p.1 p.2) a.tmps) = ((ps.zip vs3.toList).foldl (fun tm (p : Nat × Value) => tm.setIfInBounds p.1 p.2) a.tmps) := by
      rw [← Array.foldl_toList, Array.toList_zip, hpa]
    have rel3 : Rel e3 N [] ⟨putPs ps xs[i] fr1, h⟩ { tmps := (pa.zip vs3).foldl (fun tmps (p : Tmp × Value) => tmps.setIfInBounds p.1 p.2) a.tmps, defers := [] } e3.w := by
      refine ⟨e3, rfl, hH3, g3, .refl, fun t => ?_, ?_, .nil⟩
      · simp only [hfold]
        exact putPs_ok ps xs[i] vs3.toList fr1 a.tmps hN hpN (by have := hn3; rw [List.length_map] at this; exact this.symm.trans Array.length_toList.symm) (fun j u v hu hv => hv3 j (.v u) v (by rw [List.getElem?_map, hu]; rfl) (by simpa using hv)) slots t
      · simp only [hfold]; rw [foldl_size]; exact hN
    refine wpIn_mono (wpA_ok hmx g3 t3 x cx hx _ _ (round l i h hi hj) _ _ rel3) ?_
    intro ex a1 w1 hq
    cases ex with
    | exit id => obtain ⟨σ1, h1, _⟩ := hq; exact h1.elim
    | ret => obtain ⟨σ1, h1, _⟩ := hq; exact h1.elim
    | goto t => exact hq.elim
    | panic c => exact hq.elim
    | outgrown => exact hq.elim
    | normal =>
    obtain ⟨σ1, ⟨fl1, hl1, hgo⟩, e4, rfl, hH4, g4, mv4, hf4, hN4, hD4⟩ := hq
    have bs4 := mv4.bs bs3
    have hL4 := rec_at e4 bs4
    have no4 : ¬ e4.own l := bs4.no
    have ni4 : ¬ e4.Im l := bs4.ni
    refine ⟨_, run_beginRound hL4 (by rw [hrec]), ?_⟩
    obtain ⟨g5, hv5⟩ := settle g4 (n := e4.H.length) (l := l) (h := e4.H) (X := []) (by simp) rfl (by rw [hH4]; exact hl1) (.loop { rec with state := .busy }) no4 ni4
    obtain ⟨e5, he5⟩ : ∃ e5 : Env, e5 = ⟨e4.w.putObj l (.loop { rec with state := .busy }), e4.Im, e4.ρ.take e4.H.length, e4.H⟩ := ⟨_, rfl⟩
    rw [← he5] at g5 hv5
    have h5w : e5.w = e4.w.putObj l (.loop { rec with state := .busy }) := by rw [he5]
    have h5H : e5.H = e4.H := by rw [he5]
    have h5r : e5.ρ = e4.ρ := by rw [he5]; simp only; rw [← g4.len, List.take_length]
    have h5i : e5.Im = e4.Im := by rw [he5]
    have rel5 : Rel e5 N a1.defers σ1 a1 e5.w := by
      refine ⟨e5, rfl, h5H.trans hH4, g5, .refl, fun t => hv5 _ _ (hf4 t) ?_, hN4, .nil⟩
      rw [hH4]; exact lk_low fl1 t
    have t5 : Tabs P e5 := fun g cs hg => by
      obtain ⟨h1, t, fz, h2⟩ := t3.mv mv4 g cs hg
      have hne : g ≠ l := fun hc => ni4 (hc ▸ h1)
      exact ⟨by rw [h5i]; exact h1, t, fz, by rw [h5w, World.putObj_heap_other hne]; exact h2⟩
    rw [← h5w]
    rw [← go_start] at hgo
    refine wpIn_mono (wpA_ok hmx g5 t5 y cy hy _ σ1 hgo a1 _ rel5) ?_
    intro ex2 a2 w2 hq2
    cases ex2 with
    | exit id => obtain ⟨σ2, h1, _⟩ := hq2; exact h1.elim
    | ret => obtain ⟨σ2, h1, _⟩ := hq2; exact h1.elim
    | goto t => exact hq2.elim
    | panic c => exact hq2.elim
    | outgrown => exact hq2.elim
    | normal =>
    obtain ⟨σ2, ⟨h', X, hp2, hj'⟩, e6, rfl, hH6, g6, mv6, _, _, _⟩ := hq2
    obtain ⟨hlen', low'⟩ := hJ _ _ hj'
    have l4 : l < e4.w.heap.size := (Array.getElem?_eq_some_iff.1 hL4).1
    have no5 : ¬ e5.own l := fun h => no4 (by simpa only [Env.own, h5r] using h)
    have ni5 : ¬ e5.Im l := by rw [h5i]; exact ni4
    have hL5 : e5.w.heap[l]? = some (.loop { rec with state := .busy }) := by rw [h5w]; exact World.putObj_heap_same l4
    have l5 : l < e5.w.heap.size := (Array.getElem?_eq_some_iff.1 hL5).1
    have hL6 : e6.w.heap[l]? = some (.loop { rec with state := .busy }) := (mv6.same l l5 no5).trans hL5
    have no6 : ¬ e6.own l := fun h => by
      rcases mv6.ownn l h with h | h
      · exact no5 h
      · omega
    have ni6 : ¬ e6.Im l := fun h => by
      rcases mv6.imn l h with h | h | h
      · exact ni5 h
      · exact no5 h
      · omega
    have hend := run_endRound (P := P) none hL6
    refine ⟨_, _, hend, .bool true, ?_⟩
    have hrec6 : ({ ({ rec with state := .busy } : Loop) with state := if (none : Option Code).isNone then .ready else .done, pending := none } : Loop) = rec := by rw [hrec]; rfl
    rw [hrec6]
    obtain ⟨g7, hv7⟩ := settle g6 (n := σ.hp.length) (l := l) (h := h') (X := X) (by rw [hH6, hp2]) hlen' low' (.loop rec) no6 ni6
    refine ⟨⟨e6.w.putObj l (.loop rec), e6.Im, e6.ρ.take σ.hp.length, h'⟩, .v (.b true), rfl, rfl, g7, ?_, .v (.b true), rfl, hj'⟩
    have sz45 : e5.w.heap.size = e4.w.heap.size := by rw [h5w, World.putObj_size]
    have nx36 : Nx e3.H e3.ρ e6.H e6.ρ := by
      have h1 := mv4.nx
      have h2 := mv6.nx
      rw [h5H, h5r] at h2
      exact h1.trans h2
    have own36 : ∀ b, e6.own b → e3.own b ∨ e3.w.heap.size ≤ b := fun b hb => by
      rcases mv6.ownn b hb with h1 | h1
      · have h1 : e4.own b := by simpa only [Env.own, h5r] using h1
        exact mv4.ownn b h1
      · have := mv4.size; exact .inr (by omega)
    have sub : ∀ (k : Nat) lo, (e6.ρ.take σ.hp.length)[k]? = some lo → k < σ.hp.length ∧ e6.ρ[k]? = some lo := fun k lo hk => by
      rw [List.getElem?_take] at hk
      split at hk
      · exact ⟨by assumption, hk⟩
      · cases hk
    have heap36 : ∀ b, b < e3.w.heap.size → ¬ e3.own b → (e6.w.putObj l (.loop rec)).heap[b]? = e3.w.heap[b]? := fun b hb hno => by
      by_cases hbl : b = l
      · rw [hbl, World.putObj_heap_same (Array.getElem?_eq_some_iff.1 hL6).1, hL3]
      · rw [World.putObj_heap_other hbl]
        have h4 : ¬ e4.own b := fun h => by
          rcases mv4.ownn b h with h | h
          · exact hno h
          · omega
        have hs := mv4.size
        rw [mv6.same b (by omega) (fun h => h4 (by simpa only [Env.own, h5r] using h)), h5w, World.putObj_heap_other hbl, mv4.same b hb hno]
    refine ⟨?_, ?_, ?_, ?_, heap36, ?_, ?_, ?_, ?_, ?_⟩
    · exact mv6.os.trans (by rw [h5w]; exact mv4.os)
    · exact mv6.tape.trans (by rw [h5w]; exact mv4.tape)
    · have h := mv6.output
      rw [h5w] at h
      exact ⟨h.1.trans mv4.output.1, Nat.le_trans mv4.output.2 h.2⟩
    · rw [World.putObj_size]; have h1 := mv6.size; have h2 := mv4.size; omega
    · exact fun b hb => mv6.im b (by rw [h5i]; exact mv4.im b hb)
    · exact fun b hb => heap36 b (g3.imlt b hb) (fun ⟨o, q, ho, hq⟩ => g3.dis o q ho (hq ▸ hb))
    · intro b hb
      rcases mv6.imn b hb with h1 | h1 | h1
      · rw [h5i] at h1; exact mv4.imn b h1
      · have h1 : e4.own b := by simpa only [Env.own, h5r] using h1
        rcases mv4.ownn b h1 with h2 | h2
        · exact .inr (.inl h2)
        · exact .inr (.inr h2)
      · have := mv4.size; exact .inr (.inr (by omega))
    · intro o ob lo h1 h2
      obtain ⟨ob', lo', k1, k2, k3⟩ := nx36 o ob lo h1 h2
      have ho : o < σ.hp.length := by
        have := (List.getElem?_eq_some_iff.1 h1).1; rw [hH3] at this; omega
      refine ⟨ob', lo', ?_, ?_, k3⟩
      · rw [hH6, hp2, List.getElem?_append_left (by omega)] at k1; exact k1
      · rw [List.getElem?_take, if_pos ho]; exact k2
    · rintro b ⟨k, q, hk, rfl⟩
      exact own36 _ ⟨k, q, (sub k _ hk).2, rfl⟩) h0
  have := call e1 (#[.func (.yield l) #[] #[]] ++ vs) g1 ((t0.mv mv).mv mv1) hH1 (by simp [hvn]; omega) (fun j u v hu hv => by
    cases j with
    | zero =>
      simp at hu
      have hv : v = .func (.yield l) #[] #[] := by rw [Array.getElem?_append_left (by simp)] at hv; simpa using hv.symm
      subst hu; subst hv
      exact .yl bs1
    | succ j =>
      simp only [List.getElem?_cons_succ, List.getElem?_map, Option.map_eq_some_iff] at hu
      obtain ⟨b, hb, rfl⟩ := hu
      rw [Array.getElem?_append_right (by simp)] at hv
      exact .v (mv1.vi (hvc j b v hb (by simpa using hv))))
  rw [hw1] at this
  refine CallsIn.mono this ?_
  rintro E w2 ⟨c, e2, r, rfl, rfl, g2, mv2, _, h2, X, hH2, hj2⟩
  obtain ⟨hlen2, low2⟩ := hJ _ _ hj2
  have bs2 := mv2.bs bs1
  have hL2 := rec_at e2 bs2
  have hend := run_endLoop (P := P) hL2 (by rw [hrec]; simp)
  refine ⟨_, _, hend, ?_⟩
  have hpend : rec.pending = none := by rw [hrec]
  generalize hre : ({ rec with state := .exhausted } : Loop) = rec'
  rw [hpend]
  show QQ Q e0 N D .normal _ _
  obtain ⟨g4, hv4⟩ := settle g2 (n := σ.hp.length) (l := l) (h := h2) (X := X) hH2 hlen2 low2 (.loop rec') bs2.no bs2.ni
  obtain ⟨e4, he4⟩ : ∃ e4 : Env, e4 = ⟨e2.w.putObj l (.loop rec'), e2.Im, e2.ρ.take σ.hp.length, h2⟩ := ⟨_, rfl⟩
  rw [← he4] at g4
  have h4w : e4.w = e2.w.putObj l (.loop rec') := by rw [he4]
  have h4r : ∀ (k : Nat) lo, e4.ρ[k]? = some lo → e2.ρ[k]? = some lo := fun k lo hk => by
    rw [he4] at hk
    simp only [List.getElem?_take] at hk
    split at hk
    · exact hk
    · cases hk
  have own4 : ∀ b, e4.own b → e2.own b := fun b ⟨k, q, hk, hb⟩ => ⟨k, q, h4r k _ hk, hb⟩
  have im4 : e4.Im = e2.Im := by rw [he4]
  have mv12 : Mv e e2 := mv1.trans mv2 g
  have mv4 : Mv e e4 := by
    refine ⟨by rw [h4w]; exact mv12.os, by rw [h4w]; exact mv12.tape, by rw [h4w]; exact mv12.output, by rw [h4w, World.putObj_size]; exact mv12.size, fun b hb ho => ?_, fun b hb => by rw [im4]; exact mv12.im b hb, fun b hb => ?_, fun b hb => by rw [im4] at hb; exact mv12.imn b hb, ?_, fun b hb => mv12.ownn b (own4 b hb)⟩
    · rw [h4w, World.putObj_heap_other (by omega)]; exact mv12.same b hb ho
    · have := g.imlt b hb
      rw [h4w, World.putObj_heap_other (by omega)]; exact mv12.imw b hb
    · intro o ob lo k1 k2
      obtain ⟨ob', lo', q1, q2, q3⟩ := mv12.nx o ob lo k1 k2
      have ho : o < σ.hp.length := by
        have := (List.getElem?_eq_some_iff.1 k1).1; rw [hH] at this; omega
      refine ⟨ob', lo', ?_, ?_, q3⟩
      · rw [he4]; rw [hH2, List.getElem?_append_left (by omega)] at q1; exact q1
      · rw [he4]; simp only [List.getElem?_take, if_pos ho]; exact q2
  have hD4 := hD.mv mv4
  obtain ⟨ms, hms, nd, hm⟩ := hD4
  obtain ⟨ms0, hms0, nd0, hm0⟩ := hD
  refine ⟨⟨σ.fr, h2⟩, done h2 hj2, e4, h4w, by rw [he4], g4, mv.trans mv4 g0, fun t => mv4.vr (hfv t), hN, e.w.heap.size :: ms0, ?_, ?_, ?_⟩
  · simp [hms0]
  · rw [List.nodup_cons]
    exact ⟨fun hc => by have := (hm0 _ hc).2.1; omega, nd0⟩
  · intro r hr
    rcases List.mem_cons.1 hr with rfl | hr
    · have k1 := mv.size
      have k2 : ¬ e1.own e.w.heap.size := fun h => by have := ownlt _ h; omega
      have k3 : ¬ e1.Im e.w.heap.size := fun h => by have := imlt1 _ h; omega
      have k4 : e.w.heap.size < e1.w.heap.size := by rw [hw1, hs1]; omega
      have k5 := mv2.size
      refine ⟨k1, by rw [h4w, World.putObj_size]; omega, ?_, fun h => ?_, fun h => ?_⟩
      · rw [h4w, World.putObj_heap_other (by omega), mv2.same _ k4 k2, hw1]; exact hK1
      · rcases mv2.ownn _ (own4 _ h) with h | h
        · exact k2 h
        · omega
      · rw [im4] at h
        rcases mv2.imn _ h with h | h | h
        · exact k3 h
        · exact k2 h
        · omega
    · have h1 := hm0 r hr
      obtain ⟨k1, k2, k3, k4, k5⟩ := h1
      refine ⟨k1, Nat.lt_of_lt_of_le k2 mv4.size, (mv4.same r k2 k4).trans k3, fun h => ?_, fun h => ?_⟩
      · rcases mv4.ownn r h with h | h
        · exact k4 h
        · omega
      · rcases mv4.imn r h with h | h | h
        · exact k5 h
        · exact k4 h
        · omega
theorem lk_sub (fr : List (Nat × RV)) (t : Nat) : ∀ ls : List Nat, lk (ls.map fun t => (t, lk fr t)) t = lk fr t ∨ lk (ls.map fun t => (t, lk fr t)) t = .any
  | [] => .inr rfl
  | s :: ls => by
    simp only [List.map_cons, lk]
    split
    · rename_i h; exact .inl (by rw [h])
    · exact lk_sub fr t ls
theorem go_rf {P : Program} (hmx : P.follows .mixedOrders = true) {f : AX} {ps ls : List Nat} {x y : ACode} {k : List Fr} {Q : AE → AS → Prop} {σ : AS} {gid : Nat} {caps : List AV} {xs : List (List AV)} (hf : ax σ.fr f = .v (.fn gid caps)) (hc : ∀ vs w, (callFunc gid vs).run P w = .ok (.enter gid vs) w)
    (it : IterS P gid caps xs) (hps : ∀ a ∈ xs, a.length = ps.length) (J : Nat → List AObj → Prop) (hJ : ∀ i h, J i h → h.length = σ.hp.length ∧ lowH σ.hp.length h) (h0 : J 0 σ.hp) (hlow : frLow σ.hp.length (ls.map fun t => (t, lk σ.fr t)))
    (round : ∀ l i h (hi : i < xs.length), J i h → go P (some l) (.keep ls x) [] (asgQ P (some l) y (rfQ J i)) ⟨putPs ps xs[i] (ls.map fun t => (t, lk σ.fr t)), h⟩)
    (done : ∀ h, J xs.length h → leave P none .normal k Q ⟨σ.fr, h⟩) : go P none (.rf f ps (.keep ls x) y) k Q σ := by
  refine rf_ok hmx hf hc it hps J hJ h0 (ls.map fun t => (t, lk σ.fr t)) (fun t => lk_sub σ.fr t ls) hlow (fun l i h hi hj => ?_) done
  have := round l i h hi hj
  rw [← go_start] at this
  exact this
attribute [simp] putPs
section
variable {P : Program} {rd : Option Nat} {k : List Fr} {Q : AE → AS → Prop} {σ : AS} {d : Option Nat} {os : List AO} {f : AX} {args : List AX} {xs : List AV} {l : Nat} {s : Stt} {J : List AObj → Prop}
theorem cally (h X : List AObj) (hf : ax σ.fr f = .yl l s) (hx : args.map (ax σ.fr) = xs.map .v) (hH : σ.hp = h ++ X) (hy : YieldS P l s (xs.map .v) h fun r h' => r = .v (.b true) ∧ J h') (hs : s.H.length ≤ h.length)
    (hJ : ∀ h', J h' → h'.length = h.length ∧ lowH h.length h') (hlow : lowH h.length h) (kk : ∀ h', J h' → goR P rd os k Q ⟨upd σ.fr d (.v (.b true)), h' ++ X⟩) : goC P rd none f args d os k Q σ := by
  have hn : fnv (ax σ.fr f) = none := by rw [hf]; rfl
  simp only [goC, CallK, hn, YieldK, hf, yv]
  rw [hx, hH]
  refine (yield_pre hy hs hlow fun r h' hr => ⟨⟨_, hr.1⟩, hJ h' hr.2⟩).mono ?_
  rintro r h'' ⟨h', ⟨rfl, hj⟩, rfl⟩
  exact kk h' hj
theorem callyg (h X : List AObj) {j : Nat} {want : Bool} (hf : opn (ax σ.fr f) = .yl l s) (hfn : fnv (ax σ.fr f) = none) (hg : gval (lk σ.fr j) want = some true) (ho : obl (ax σ.fr f) ∧ obls σ.fr args) (hx : (args.map fun x => opn (ax σ.fr x)) = xs.map .v) (hH : σ.hp = h ++ X) (hy : YieldS P l s (xs.map .v) h fun r h' => r = .v (.b true) ∧ J h') (hs : s.H.length ≤ h.length)
    (hJ : ∀ h', J h' → h'.length = h.length ∧ lowH h.length h') (hlow : lowH h.length h) (kk : ∀ h', J h' → goR P rd os k Q ⟨upd σ.fr d (.cnd true (.v (.b true))), h' ++ X⟩) : goC P rd (some (j, want)) f args d os k Q σ := by
  have hn : fnv (RV.yl l s) = none := rfl
  simp only [goC, CallK, hfn, YieldK, hf, hn, yv, hg]
  rw [hx, hH]
  refine ⟨ho.1, ho.2, (yield_pre hy hs hlow fun r h' hr => ⟨⟨_, hr.1⟩, hJ h' hr.2⟩).mono ?_⟩
  rintro r h'' ⟨h', ⟨rfl, hj⟩, rfl⟩
  exact kk h' hj
variable {J : Nat → List AObj → Prop} {N k0 : Nat} {h : List AObj}
theorem callj (hJ : ∀ i h, J i h → h.length = N ∧ lowH N h) (hj : J k0 h) (X : List AObj) (hf : ax σ.fr f = .yl l s) (hx : args.map (ax σ.fr) = xs.map .v) (hH : σ.hp = h ++ X) (hy : YieldS P l s (xs.map .v) h fun r h' => r = .v (.b true) ∧ J (k0 + 1) h') (hs : s.H.length ≤ N)
    (kk : ∀ h', J (k0 + 1) h' → h'.length = N → goR P rd os k Q ⟨upd σ.fr d (.v (.b true)), h' ++ X⟩) : goC P rd none f args d os k Q σ := by
  obtain ⟨h1, h2⟩ := hJ _ _ hj
  refine cally (J := J (k0 + 1)) h X hf hx hH hy (by omega) (fun h' hj' => ?_) (by rw [h1]; exact h2) fun h' hj' => kk h' hj' (hJ _ _ hj').1
  obtain ⟨k1, k2⟩ := hJ _ _ hj'
  exact ⟨by omega, by rw [h1]; exact k2⟩
theorem calljg (hJ : ∀ i h, J i h → h.length = N ∧ lowH N h) (hj : J k0 h) (X : List AObj) {j : Nat} {want : Bool} (hf : opn (ax σ.fr f) = .yl l s) (hfn : fnv (ax σ.fr f) = none) (hg : gval (lk σ.fr j) want = some true) (ho : obl (ax σ.fr f) ∧ obls σ.fr args) (hx : (args.map fun x => opn (ax σ.fr x)) = xs.map .v) (hH : σ.hp = h ++ X) (hy : YieldS P l s (xs.map .v) h fun r h' => r = .v (.b true) ∧ J (k0 + 1) h') (hs : s.H.length ≤ N)
    (kk : ∀ h', J (k0 + 1) h' → h'.length = N → goR P rd os k Q ⟨upd σ.fr d (.cnd true (.v (.b true))), h' ++ X⟩) : goC P rd (some (j, want)) f args d os k Q σ := by
  obtain ⟨h1, h2⟩ := hJ _ _ hj
  refine callyg (J := J (k0 + 1)) h X hf hfn hg ho hx hH hy (by omega) (fun h' hj' => ?_) (by rw [h1]; exact h2) fun h' hj' => kk h' hj' (hJ _ _ hj').1
  obtain ⟨k1, k2⟩ := hJ _ _ hj'
  exact ⟨by omega, by rw [h1]; exact k2⟩
end
theorem end0 {α : Type} {h : List α} {n : Nat} (hn : h.length = n) (x : α) (X : List α) : (h ++ x :: X)[n]? = some x := by subst hn; simp
theorem end1 {α : Type} {h : List α} {n : Nat} (hn : h.length = n) (x y : α) (X : List α) : (h ++ x :: y :: X)[n + 1]? = some y := by subst hn; simp
section
variable {P : Program} {rd : Option Nat} {k : List Fr} {Q : AE → AS → Prop} {σ : AS} {d : Option Nat} {os : List AO} {f : AX} {args : List AX} {xs : List AV} {fid : Nat} {caps : Caps} {r : AV}
theorem callog {j : Nat} {want : Bool} (hg : gval (lk σ.fr j) want = some true) (hfn : fnv (ax σ.fr f) = none) (hf : fnv (opn (ax σ.fr f)) = some (fid, caps)) (hc : ∀ vs w, (callFunc fid vs).run P w = .ok (.enter fid vs) w) (ho : obl (ax σ.fr f) ∧ obls σ.fr args) (h : PureS P fid xs r)
    (hx : capd caps (args.map fun x => opn (ax σ.fr x)) = xs.map .v) (kk : goR P rd os k Q ⟨upd σ.fr d (.cnd true (.v r)), σ.hp⟩) : goC P rd (some (j, want)) f args d os k Q σ := by
  simp only [goC, CallK, hfn, YieldK, hf, hg]
  rw [hx]
  exact ⟨ho.1, ho.2, hc, (h.frame σ.hp).mono fun r' H' ⟨h1, h2⟩ => by subst h1; subst h2; exact kk⟩
theorem callod {j : Nat} {want : Bool} (hg : gval (lk σ.fr j) want = some false) (hfn : fnv (ax σ.fr f) = none) (kk : goR P rd os k Q ⟨upd σ.fr d (.cnd false (.v (.b false))), σ.hp⟩) : goC P rd (some (j, want)) f args d os k Q σ := by
  simp only [goC, CallK, hfn, YieldK, hg]
  exact kk
end
/-! ### Calls of plain values among operations of which some may come late -/
def goCE (P : Program) (rd : Option Nat) (ls : List Nat) (idx : Nat) (l : List (List (Nat × RV) × AO × RV)) (m : Nat) (g : Option (Nat × Bool)) (f : AX) (args : List AX) (d : Option Nat) (os : List AO) (k : List Fr) (Q : AE → AS → Prop) (σ : AS) : Prop :=
  evQ P σ ⟨d, g, .call f args⟩ fun r => goE P rd ls (idx + 1) (if idx ∈ ls then (σ.fr, ⟨d, g, .call f args⟩, r) :: l else l) m os k Q ⟨upd σ.fr d r, σ.hp⟩
@[simp] theorem goE_call (P : Program) (rd : Option Nat) (k : List Fr) (Q : AE → AS → Prop) (σ : AS) (ls : List Nat) (idx : Nat) (l : List (List (Nat × RV) × AO × RV)) (m : Nat) (d : Option Nat) (g : Option (Nat × Bool)) (f : AX) (args : List AX) (os : List AO) :
    goE P rd ls idx l (m + 1) (⟨d, g, .call f args⟩ :: os) k Q σ = goCE P rd ls idx l m g f args d os k Q σ := rfl
theorem callqe {P : Program} {rd : Option Nat} {k : List Fr} {Q : AE → AS → Prop} {σ : AS} {d : Option Nat} {os : List AO} {f : AX} {args : List AX} {fid : Nat} {caps : Caps} {xs : List AV} {r : AV} {ls : List Nat} {idx m : Nat} {l : List (List (Nat × RV) × AO × RV)}
    (hf : fnv (ax σ.fr f) = some (fid, caps)) (hc : ∀ vs w, (callFunc fid vs).run P w = .ok (.enter fid vs) w) (h : PureS P fid xs r) (hx : capd caps (args.map (ax σ.fr)) = xs.map .v)
    (kk : goE P rd ls (idx + 1) (if idx ∈ ls then (σ.fr, ⟨d, none, .call f args⟩, .v r) :: l else l) m os k Q ⟨upd σ.fr d (.v r), σ.hp⟩) : goCE P rd ls idx l m none f args d os k Q σ := by
  simp only [goCE, evQ, hf]
  exact ⟨hc, r, ⟨xs, hx, h⟩, kk⟩
end Go.Av
