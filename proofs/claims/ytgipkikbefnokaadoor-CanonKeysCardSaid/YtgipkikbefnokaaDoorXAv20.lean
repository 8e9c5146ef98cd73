/- Loops over a function: what a round does, what the iterator is owed. No condition. -/
import Derived.Test.YtgipkikbefnokaaDoorXLend
import Derived.RangeFuncIn
import Derived.RangeFuncRecord
set_option linter.constructorNameAsVariable false
namespace Go.Av
open Go Go.RowKit
set_option linter.unusedSimpArgs false
set_option linter.unusedVariables false
def IterS (P : Program) (g : Nat) (caps : List AV) (xs : List (List AV)) : Prop :=
  ∀ (l : Nat) (s : Stt) (H : List AObj) (J : Nat → List AObj → Prop), s.H.length ≤ H.length →
    (∀ i h, J i h → h.length = H.length ∧ lowH H.length h) →
    (∀ i h (hi : i < xs.length), J i h → YieldS P l s (xs[i].map .v) h fun r h' => r = .v (.b true) ∧ J (i + 1) h') → J 0 H →
    CallS P g (.yl l s :: caps.map .v) H fun _ h' => ∃ h0 X, h' = h0 ++ X ∧ J xs.length h0
theorem VR.monoD {e e' : Env} (hi : ∀ b, e.Im b → e'.Im b) (hw : ∀ b, e.Im b → e'.w.heap[b]? = e.w.heap[b]?) (hn : Nx e.H e.ρ e'.H e'.ρ) {p : Nat → Prop} {x : RV} {c : Value} (h : VR e x c) : RV.dom p x → VR e' x c := by
  induction h with
  | v h => intro _; exact .v (h.mono hi hw)
  | os ob lo h1 h2 h h1c => intro _; obtain ⟨ob', lo', e1, e2, n⟩ := hn _ _ _ h1 h2; exact .os ob' lo' e1 e2 (h.next n) h1c
  | sub ob lo h1 h2 h h1c => intro _; obtain ⟨ob', lo', e1, e2, n⟩ := hn _ _ _ h1 h2; exact .sub ob' lo' e1 e2 (h.next n) h1c
  | pt ob lo h1 h2 h h1c => intro _; obtain ⟨ob', lo', e1, e2, n⟩ := hn _ _ _ h1 h2; exact .pt ob' lo' e1 e2 (h.next n) h1c
  | fr hn' _ ih => intro hp; simp only [RV.dom] at hp; exact .fr hn' fun j a c ha hc => ih j a c ha hc (domL_get hp ha)
  | bf hn' _ ih => intro hp; simp only [RV.dom] at hp; exact .bf hn' fun j a c ha hc => ih j a c ha hc (domL_get hp ha)
  | tr hn' _ ih => intro hp; simp only [RV.dom] at hp; exact .tr hn' fun j a c ha hc => ih j a c ha hc (domL_get hp ha)
  | gr hn' h1 _ ih => intro hp; simp only [RV.dom] at hp; exact .gr hn' h1 fun j a c ha hc => ih j a c ha hc (domL_get hp ha)
  | any => intro _; exact .any
  | bo => intro _; exact .bo
  | cnd _ h' ih => intro hp; simp only [RV.dom] at hp; exact .cnd (fun t => ih t hp) h'
  | yl h => intro hp; simp only [RV.dom] at hp
theorem vr_plain {e e' : Env} (hw : e'.w = e.w) (hi : ∀ b, e.Im b → e'.Im b) {a : AV} {c : Value} (h : VR e (.v a) c) : VR e' (.v a) c := .v ((vr_v h).mono hi fun _ _ => by rw [hw])
theorem settle {e : Env} (g : Good e) {n l : Nat} {h X : List AObj} (hH : e.H = h ++ X) (hl : h.length = n) (low : lowH n h) (o : Obj) (no : ¬ e.own l) (ni : ¬ e.Im l) :
    Good ⟨e.w.putObj l o, e.Im, e.ρ.take n, h⟩ ∧ ∀ x c, VR e x c → RV.dom (· < n) x → VR ⟨e.w.putObj l o, e.Im, e.ρ.take n, h⟩ x c := by
  have hρ : ∀ (k : Nat) lo, (e.ρ.take n)[k]? = some lo → k < n ∧ e.ρ[k]? = some lo := fun k lo hk => by
    rw [List.getElem?_take] at hk
    split at hk
    · exact ⟨by assumption, hk⟩
    · cases hk
  have same : ∀ b, b ≠ l → (e.w.putObj l o).heap[b]? = e.w.heap[b]? := fun b hb => World.putObj_heap_other hb
  have him : ∀ b, e.Im b → (e.w.putObj l o).heap[b]? = e.w.heap[b]? := fun b hb => same b fun hc => ni (hc ▸ hb)
  obtain ⟨e', he'⟩ : ∃ e' : Env, e' = ⟨e.w.putObj l o, e.Im, e.ρ.take n, h⟩ := ⟨_, rfl⟩
  have hv : ∀ x c, VR e x c → RV.dom (· < n) x → VR ⟨e.w.putObj l o, e.Im, e.ρ.take n, h⟩ x c := fun x c hx hd => by
    rw [← he']
    have := VR.ren (e := e) (e' := e') (f := id) (p := (· < n)) (by subst he'; exact fun _ h => h) (by subst he'; exact him) (fun k ob hk hob => by
      subst he'
      have hlt : k < h.length := by omega
      rw [hH, List.getElem?_append_left hlt] at hob
      simp only [id]
      rw [AObj.ren_id (f := id) (p := (· < n)) (fun _ _ => rfl) (low ob (List.mem_of_getElem? hob))]
      exact hob) (fun k lo hk hlo => by subst he'; simp only [id]; rw [List.getElem?_take, if_pos hk]; exact hlo) hx hd
    rwa [ren_id (f := id) (p := (· < n)) (fun _ _ => rfl) hd] at this
  have hlen : n ≤ e.ρ.length := by rw [g.len, hH, List.length_append]; omega
  refine ⟨⟨by simp; omega, fun k k' q q' hk hk' hne => g.inj k k' q q' (hρ k _ hk).2 (hρ k' _ hk').2 hne, fun k q hk => g.dis k q (hρ k _ hk).2, fun k q hk => by rw [World.putObj_size]; exact g.lt k q (hρ k _ hk).2, fun b hb => by rw [World.putObj_size]; exact g.imlt b hb, fun k ob lo hk hlo => ?_⟩, hv⟩
  obtain ⟨hkn, hlo'⟩ := hρ k lo hlo
  have hob : e.H[k]? = some ob := by rw [hH, List.getElem?_append_left (by omega)]; exact hk
  have hd := low ob (List.mem_of_getElem? hk)
  have := ObjR.ren (e := e) (e' := ⟨e.w.putObj l o, e.Im, e.ρ.take n, h⟩) (f := id) (p := (· < n)) (fun q hq => same _ fun hc => no ⟨k, q, by rw [hlo', hq], hc⟩)
    (fun x c hx hdx => by rw [ren_id (f := id) (p := (· < n)) (fun _ _ => rfl) hdx]; exact hv x c hx hdx) (g.obj k ob lo hob hlo') hd
  rwa [AObj.ren_id (f := id) (p := (· < n)) (fun _ _ => rfl) hd] at this
theorem yield_pre {P : Program} {l : Nat} {s : Stt} {args : List AV} {h X : List AObj} {R : RV → List AObj → Prop} (hy : YieldS P l s (args.map .v) h R) (hs : s.H.length ≤ h.length) (hlow : lowH h.length h)
    (hR : ∀ r h', R r h' → (∃ a, r = .v a) ∧ h'.length = h.length ∧ lowH h.length h') : YieldS P l s (args.map .v) (h ++ X) fun r h'' => ∃ h', R r h' ∧ h'' = h' ++ X := by
  intro e vs g tb hH bs hn hv
  obtain ⟨n, hnl⟩ : ∃ n, h.length = n := ⟨_, rfl⟩
  rw [hnl] at hs hlow
  have hlen : e.ρ.length = n + X.length := by rw [g.len, hH, List.length_append, hnl]
  have hρ : ∀ (k : Nat) lo, (e.ρ.take n)[k]? = some lo → k < n ∧ e.ρ[k]? = some lo := fun k lo hk => by
    rw [List.getElem?_take] at hk
    split at hk
    · exact ⟨by assumption, hk⟩
    · cases hk
  obtain ⟨e1, he1⟩ : ∃ e1 : Env, e1 = ⟨e.w, e.Im, e.ρ.take n, h⟩ := ⟨_, rfl⟩
  have hvd : ∀ x c, VR e x c → RV.dom (· < n) x → VR e1 x c := fun x c hx hd => by
    have := VR.ren (e := e) (e' := e1) (f := id) (p := (· < n)) (by subst he1; exact fun _ h => h) (by subst he1; exact fun _ _ => rfl) (fun k ob hk hob => by
      subst he1
      rw [hH, List.getElem?_append_left (by omega)] at hob
      simp only [id]
      rw [AObj.ren_id (f := id) (p := (· < n)) (fun _ _ => rfl) (hlow ob (List.mem_of_getElem? hob))]
      exact hob) (fun k lo hk hlo => by subst he1; simp only [id]; rw [List.getElem?_take, if_pos hk]; exact hlo) hx hd
    rwa [ren_id (f := id) (p := (· < n)) (fun _ _ => rfl) hd] at this
  have g1 : Good e1 := by
    subst he1
    refine ⟨by simp; omega, fun k k' q q' hk hk' hne => g.inj k k' q q' (hρ k _ hk).2 (hρ k' _ hk').2 hne, fun k q hk => g.dis k q (hρ k _ hk).2, fun k q hk => g.lt k q (hρ k _ hk).2, g.imlt, fun k ob lo hk hlo => ?_⟩
    obtain ⟨hkn, hlo'⟩ := hρ k lo hlo
    have hob : e.H[k]? = some ob := by rw [hH, List.getElem?_append_left (by omega)]; exact hk
    have hd := hlow ob (List.mem_of_getElem? hk)
    have := ObjR.ren (e := e) (e' := ⟨e.w, e.Im, e.ρ.take n, h⟩) (f := id) (p := (· < n)) (fun q hq => rfl)
      (fun x c hx hdx => by rw [ren_id (f := id) (p := (· < n)) (fun _ _ => rfl) hdx]; exact hvd x c hx hdx) (g.obj k ob lo hob hlo') hd
    rwa [AObj.ren_id (f := id) (p := (· < n)) (fun _ _ => rfl) hd] at this
  have own1 : ∀ b, e1.own b → e.own b := fun b ⟨k, q, hk, hb⟩ => by subst he1; exact ⟨k, q, (hρ k _ hk).2, hb⟩
  have bs1 : Bs l s e1.st := by
    refine ⟨by subst he1; exact bs.im, by subst he1; exact bs.imw, fun o ob lo h1 h2 => ?_, by subst he1; exact bs.lp, fun hc => bs.no (own1 l hc), by subst he1; exact bs.ni⟩
    obtain ⟨ob', lo', k1, k2, k3⟩ := bs.nx o ob lo h1 h2
    have ho : o < n := by have := (List.getElem?_eq_some_iff.1 h1).1; omega
    subst he1
    refine ⟨ob', lo', ?_, ?_, k3⟩
    · simp only [Env.st, hH, List.map_append] at k1 ⊢
      rwa [List.getElem?_append_left (by simp; omega)] at k1
    · simp only [Env.st] at k2 ⊢
      rw [List.getElem?_take, if_pos ho]; exact k2
  have hw1 : e1.w = e.w := by subst he1; rfl
  have hi1 : e1.Im = e.Im := by subst he1; rfl
  have hρ1 : e1.ρ = e.ρ.take n := by subst he1; rfl
  have hH1 : e1.H = h := by subst he1; rfl
  have := hy e1 vs g1 (fun g cs hg => by rw [hw1, hi1]; exact tb g cs hg) hH1 bs1 hn (fun j x y hx hy' => by
    have hv' := hv j x y hx hy'
    rw [List.getElem?_map, Option.map_eq_some_iff] at hx
    obtain ⟨a, _, rfl⟩ := hx
    exact vr_plain hw1 (fun b hb => by rw [hi1]; exact hb) hv')
  rw [hw1] at this
  refine this.mono ?_
  rintro E w' ⟨c, e', r, rfl, rfl, g', mv, hr, hRr⟩
  obtain ⟨⟨a, rfl⟩, hl', low'⟩ := hR r e'.H hRr
  rw [hnl] at hl' low'
  have hρl' : e'.ρ.length = n := by rw [g'.len, hl']
  have split : ∀ (k : Nat) lo, (e'.ρ ++ e.ρ.drop n)[k]? = some lo → (k < n ∧ e'.ρ[k]? = some lo) ∨ (n ≤ k ∧ e.ρ[k]? = some lo) := fun k lo hk => by
    by_cases hlt : k < n
    · rw [List.getElem?_append_left (by omega)] at hk; exact .inl ⟨hlt, hk⟩
    · rw [List.getElem?_append_right (by omega), List.getElem?_drop, hρl', show n + (k - n) = k by omega] at hk
      exact .inr ⟨by omega, hk⟩
  have notown : ∀ (k : Nat) q, n ≤ k → e.ρ[k]? = some (some q) → ¬ e1.own q.blk := fun k q hk hq ⟨j, q', hj, hb⟩ => by
    rw [hρ1] at hj
    obtain ⟨h1, h2⟩ := hρ j _ hj
    exact g.inj j k q' q h2 hq (by omega) hb
  obtain ⟨e2, he2⟩ : ∃ e2 : Env, e2 = ⟨e'.w, e'.Im, e'.ρ ++ e.ρ.drop n, e'.H ++ X⟩ := ⟨_, rfl⟩
  have mv2 : Mv e e2 := by
    subst he2
    refine ⟨mv.os.trans (by rw [hw1]), mv.tape.trans (by rw [hw1]), by have := mv.output; rw [hw1] at this; exact this, by rw [← hw1]; exact mv.size, fun b hb ho => ?_, fun b hb => mv.im b (by rw [hi1]; exact hb), fun b hb => ?_, fun b hb => ?_, ?_, ?_⟩
    · have := mv.same b (by rw [hw1]; exact hb) (fun hc => ho (own1 b hc))
      rw [hw1] at this; exact this
    · have := mv.imw b (by rw [hi1]; exact hb)
      rw [hw1] at this; exact this
    · rcases mv.imn b hb with h1 | h1 | h1
      · exact .inl (by rw [← hi1]; exact h1)
      · exact .inr (.inl (own1 b h1))
      · exact .inr (.inr (by rw [← hw1]; exact h1))
    · intro o ob lo h1 h2
      by_cases ho : o < n
      · rw [hH, List.getElem?_append_left (by omega)] at h1
        obtain ⟨ob', lo', k1, k2, k3⟩ := mv.nx o ob lo (by rw [hH1]; exact h1) (by rw [hρ1, List.getElem?_take, if_pos ho]; exact h2)
        exact ⟨ob', lo', by rw [List.getElem?_append_left (by omega)]; exact k1, by rw [List.getElem?_append_left (by omega)]; exact k2, k3⟩
      · refine ⟨ob, lo, ?_, ?_, .refl _ _⟩
        · rw [hH, List.getElem?_append_right (by omega), hnl] at h1
          show (e'.H ++ X)[o]? = _
          rw [List.getElem?_append_right (by omega), hl']; exact h1
        · show (e'.ρ ++ e.ρ.drop n)[o]? = _
          rw [List.getElem?_append_right (by omega), hρl', List.getElem?_drop, show n + (o - n) = o by omega]; exact h2
    · rintro b ⟨k, q, hk, rfl⟩
      rcases split k _ hk with ⟨_, h2⟩ | ⟨_, h2⟩
      · rcases mv.ownn q.blk ⟨k, q, h2, rfl⟩ with h3 | h3
        · exact .inl (own1 _ h3)
        · exact .inr (by rw [← hw1]; exact h3)
      · exact .inl ⟨k, q, h2, rfl⟩
  have hv2 : ∀ x c, VR e' x c → RV.dom (· < n) x → VR e2 x c := fun x c hx hd => by
    have := VR.ren (e := e') (e' := e2) (f := id) (p := (· < n)) (by subst he2; exact fun _ h => h) (by subst he2; exact fun _ _ => rfl) (fun k ob hk hob => by
      subst he2
      simp only [id]
      rw [List.getElem?_append_left (by omega), AObj.ren_id (f := id) (p := (· < n)) (fun _ _ => rfl) (low' ob (List.mem_of_getElem? hob))]
      exact hob) (fun k lo hk hlo => by subst he2; simp only [id]; rw [List.getElem?_append_left (by omega)]; exact hlo) hx hd
    rwa [ren_id (f := id) (p := (· < n)) (fun _ _ => rfl) hd] at this
  have hlow2 : ∀ (k : Nat) q, n ≤ k → e.ρ[k]? = some (some q) → e'.w.heap[q.blk]? = e.w.heap[q.blk]? := fun k q hk hq => by
    have := mv.same q.blk (by rw [hw1]; exact g.lt k q hq) (notown k q hk hq)
    rw [hw1] at this; exact this
  have g2 : Good e2 := by
    have apart : ∀ (k k' : Nat) q q', e'.ρ[k]? = some (some q) → n ≤ k' → e.ρ[k']? = some (some q') → q.blk ≠ q'.blk := fun k k' q q' hk hk' hq' hb => by
      rcases mv.ownn q.blk ⟨k, q, hk, rfl⟩ with h3 | h3
      · rw [hb] at h3; exact notown k' q' hk' hq' h3
      · have := g.lt k' q' hq'; rw [hw1] at h3; omega
    subst he2
    refine ⟨by simp [hρl', hl', hlen], fun k k' q q' hk hk' hne => ?_, fun k q hk hi => ?_, fun k q hk => ?_, g'.imlt, fun k ob lo hk hlo => ?_⟩
    · rcases split k _ hk with ⟨a1, a2⟩ | ⟨a1, a2⟩ <;> rcases split k' _ hk' with ⟨b1, b2⟩ | ⟨b1, b2⟩
      · exact g'.inj k k' q q' a2 b2 hne
      · exact apart k k' q q' a2 b1 b2
      · exact (apart k' k q' q b2 a1 a2).symm
      · exact g.inj k k' q q' a2 b2 hne
    · rcases split k _ hk with ⟨a1, a2⟩ | ⟨a1, a2⟩
      · exact g'.dis k q a2 hi
      · rcases mv.imn _ hi with h3 | h3 | h3
        · rw [hi1] at h3; exact g.dis k q a2 h3
        · exact notown k q a1 a2 h3
        · have := g.lt k q a2; rw [hw1] at h3; omega
    · rcases split k _ hk with ⟨a1, a2⟩ | ⟨a1, a2⟩
      · exact g'.lt k q a2
      · have h1 := g.lt k q a2; have h2 := mv.size; rw [hw1] at h2; exact Nat.lt_of_lt_of_le h1 h2
    · rcases split k _ hlo with ⟨a1, a2⟩ | ⟨a1, a2⟩
      · have hk : (e'.H ++ X)[k]? = some ob := hk
        rw [List.getElem?_append_left (by omega)] at hk
        have hd := low' ob (List.mem_of_getElem? hk)
        have := ObjR.ren (e := e') (e' := ⟨e'.w, e'.Im, e'.ρ ++ e.ρ.drop n, e'.H ++ X⟩) (f := id) (p := (· < n)) (fun q hq => rfl)
          (fun x c hx hdx => by rw [ren_id (f := id) (p := (· < n)) (fun _ _ => rfl) hdx]; exact hv2 x c hx hdx) (g'.obj k ob lo hk a2) hd
        rwa [AObj.ren_id (f := id) (p := (· < n)) (fun _ _ => rfl) hd] at this
      · have hk : (e'.H ++ X)[k]? = some ob := hk
        rw [List.getElem?_append_right (by omega), hl'] at hk
        have hob : e.H[k]? = some ob := by rw [hH, List.getElem?_append_right (by omega), hnl]; exact hk
        exact (g.obj k ob lo hob a2).keep (fun q hq => hlow2 k q a1 (by rw [a2, hq])) mv2
  refine ⟨c, e2, .v a, rfl, by subst he2; rfl, g2, mv2, vr_plain (by subst he2; rfl) (fun b hb => by subst he2; exact hb) hr, e'.H, hRr, by subst he2; rfl⟩
end Go.Av
