/- Names of objects changed about: what is told of memory may be told under other names, and of less. No condition. -/
import Derived.Test.YtmgbloidhmjbfaaXAv12
set_option linter.constructorNameAsVariable false
namespace Go.Av
open Go Go.RowKit
set_option linter.unusedSimpArgs false
set_option linter.unusedVariables false

mutual
/-- A value with its objects under other names. -/
def RV.ren (f : Nat → Nat) : RV → RV
  | .v x => .v x
  | .os o v => .os (f o) v
  | .pt o v r off => .pt (f o) v r off
  | .fr g cs => .fr g (renL f cs)
  | .bf g cs => .bf g (renL f cs)
  | .tr cs => .tr (renL f cs)
  | .gr cs => .gr (renL f cs)
  | .any => .any
  | .cnd c x => .cnd c (RV.ren f x)
def renL (f : Nat → Nat) : List RV → List RV
  | [] => []
  | x :: xs => RV.ren f x :: renL f xs
end
mutual
/-- All its objects are such. -/
def RV.dom (p : Nat → Prop) : RV → Prop
  | .v _ => True
  | .os o _ => p o
  | .pt o _ _ _ => p o
  | .fr _ cs => domL p cs
  | .bf _ cs => domL p cs
  | .tr cs => domL p cs
  | .gr cs => domL p cs
  | .any => True
  | .cnd _ x => RV.dom p x
def domL (p : Nat → Prop) : List RV → Prop
  | [] => True
  | x :: xs => RV.dom p x ∧ domL p xs
end

theorem renL_map (f : Nat → Nat) : ∀ (l : List RV), renL f l = l.map (RV.ren f)
  | [] => by simp [renL]
  | x :: l => by simp [renL, renL_map f l]
theorem domL_mem {p : Nat → Prop} : ∀ {l : List RV}, domL p l ↔ ∀ x ∈ l, RV.dom p x
  | [] => by simp [domL]
  | x :: l => by simp [domL, domL_mem (l := l)]
theorem domL_get {p : Nat → Prop} {l : List RV} (h : domL p l) {j : Nat} {x : RV} (hx : l[j]? = some x) : RV.dom p x := domL_mem.1 h x (List.mem_of_getElem? hx)
theorem renL_get {f : Nat → Nat} {l : List RV} {j : Nat} {y : RV} (h : (renL f l)[j]? = some y) : ∃ x, l[j]? = some x ∧ y = RV.ren f x := by
  rw [renL_map, List.getElem?_map, Option.map_eq_some_iff] at h
  obtain ⟨x, hx, rfl⟩ := h
  exact ⟨x, hx, rfl⟩
@[simp] theorem renL_length (f : Nat → Nat) (l : List RV) : (renL f l).length = l.length := by rw [renL_map]; simp

def AObj.ren (f : Nat → Nat) : AObj → AObj
  | .none => .none
  | .var cs => .var (renL f cs)
  | .arr v sz rows => .arr v sz (rows.map (renL f))
def AObj.dom (p : Nat → Prop) : AObj → Prop
  | .none => True
  | .var cs => domL p cs
  | .arr _ _ rows => ∀ row ∈ rows, domL p row

@[simp] theorem ren_none (f : Nat → Nat) : AObj.ren f .none = .none := rfl
@[simp] theorem ren_var (f : Nat → Nat) (cs : List RV) : AObj.ren f (.var cs) = .var (renL f cs) := rfl
@[simp] theorem ren_arr (f : Nat → Nat) (v sz : Nat) (rows : List (List RV)) : AObj.ren f (.arr v sz rows) = .arr v sz (rows.map (renL f)) := rfl
@[simp] theorem renL_v (f : Nat → Nat) (l : List AV) : renL f (l.map .v) = l.map .v := by
  rw [renL_map, List.map_map]; congr 1
@[simp] theorem domL_v (p : Nat → Prop) (l : List AV) : domL p (l.map .v) := by
  rw [domL_mem]; intro x hx; obtain ⟨a, _, rfl⟩ := List.mem_map.1 hx; simp [RV.dom]
@[simp] theorem rows_ren (f : Nat → Nat) (l : List (List AV)) : (vrows l).map (renL f) = vrows l := by
  simp [vrows, Function.comp_def]
theorem rows_dom (p : Nat → Prop) (l : List (List AV)) : (∀ row ∈ vrows l, domL p row) := by
  intro row h
  simp only [vrows, List.mem_map] at h
  obtain ⟨a, _, rfl⟩ := h
  exact domL_v p a

mutual
theorem ren_back {f g : Nat → Nat} {p : Nat → Prop} (hg : ∀ o, p o → f (g o) = o) : ∀ {x : RV}, RV.dom p x → RV.ren f (RV.ren g x) = x
  | .v _, _ => by simp [RV.ren]
  | .os _ _, h => by simp only [RV.dom] at h; simp [RV.ren, hg _ h]
  | .pt _ _ _ _, h => by simp only [RV.dom] at h; simp [RV.ren, hg _ h]
  | .fr _ _, h => by simp only [RV.dom] at h; simp [RV.ren, renL_back hg h]
  | .bf _ _, h => by simp only [RV.dom] at h; simp [RV.ren, renL_back hg h]
  | .tr _, h => by simp only [RV.dom] at h; simp [RV.ren, renL_back hg h]
  | .gr _, h => by simp only [RV.dom] at h; simp [RV.ren, renL_back hg h]
  | .any, _ => by simp [RV.ren]
  | .cnd _ _, h => by simp only [RV.dom] at h; simp [RV.ren, ren_back hg h]
theorem renL_back {f g : Nat → Nat} {p : Nat → Prop} (hg : ∀ o, p o → f (g o) = o) : ∀ {l : List RV}, domL p l → renL f (renL g l) = l
  | [], _ => by simp [renL]
  | _ :: _, h => by simp only [domL] at h; simp [renL, ren_back hg h.1, renL_back hg h.2]
end
mutual
theorem dom_ren {g : Nat → Nat} {p q : Nat → Prop} (hg : ∀ o, p o → q (g o)) : ∀ {x : RV}, RV.dom p x → RV.dom q (RV.ren g x)
  | .v _, _ => by simp [RV.ren, RV.dom]
  | .os _ _, h => by simp only [RV.dom] at h; simp [RV.ren, RV.dom, hg _ h]
  | .pt _ _ _ _, h => by simp only [RV.dom] at h; simp [RV.ren, RV.dom, hg _ h]
  | .fr _ _, h => by simp only [RV.dom] at h; simp [RV.ren, RV.dom, domL_ren hg h]
  | .bf _ _, h => by simp only [RV.dom] at h; simp [RV.ren, RV.dom, domL_ren hg h]
  | .tr _, h => by simp only [RV.dom] at h; simp [RV.ren, RV.dom, domL_ren hg h]
  | .gr _, h => by simp only [RV.dom] at h; simp [RV.ren, RV.dom, domL_ren hg h]
  | .any, _ => by simp [RV.ren, RV.dom]
  | .cnd _ _, h => by simp only [RV.dom] at h; simp [RV.ren, RV.dom, dom_ren hg h]
theorem domL_ren {g : Nat → Nat} {p q : Nat → Prop} (hg : ∀ o, p o → q (g o)) : ∀ {l : List RV}, domL p l → domL q (renL g l)
  | [], _ => by simp [renL, domL]
  | _ :: _, h => by simp only [domL] at h; simp [renL, domL, dom_ren hg h.1, domL_ren hg h.2]
end
mutual
theorem ren_id {f : Nat → Nat} {p : Nat → Prop} (hf : ∀ o, p o → f o = o) : ∀ {x : RV}, RV.dom p x → RV.ren f x = x
  | .v _, _ => by simp [RV.ren]
  | .os _ _, h => by simp only [RV.dom] at h; simp [RV.ren, hf _ h]
  | .pt _ _ _ _, h => by simp only [RV.dom] at h; simp [RV.ren, hf _ h]
  | .fr _ _, h => by simp only [RV.dom] at h; simp [RV.ren, renL_id hf h]
  | .bf _ _, h => by simp only [RV.dom] at h; simp [RV.ren, renL_id hf h]
  | .tr _, h => by simp only [RV.dom] at h; simp [RV.ren, renL_id hf h]
  | .gr _, h => by simp only [RV.dom] at h; simp [RV.ren, renL_id hf h]
  | .any, _ => by simp [RV.ren]
  | .cnd _ _, h => by simp only [RV.dom] at h; simp [RV.ren, ren_id hf h]
theorem renL_id {f : Nat → Nat} {p : Nat → Prop} (hf : ∀ o, p o → f o = o) : ∀ {l : List RV}, domL p l → renL f l = l
  | [], _ => by simp [renL]
  | _ :: _, h => by simp only [domL] at h; simp [renL, ren_id hf h.1, renL_id hf h.2]
end
theorem AObj.ren_back {f g : Nat → Nat} {p : Nat → Prop} (hg : ∀ o, p o → f (g o) = o) {ob : AObj} (h : ob.dom p) : (ob.ren g).ren f = ob := by
  cases ob with
  | none => rfl
  | var cs => simp only [AObj.dom] at h; simp [AObj.ren, renL_back hg h]
  | arr v sz rows =>
    simp only [AObj.dom] at h
    simp only [AObj.ren, List.map_map]
    congr 1
    rw [List.map_congr_left (g := id) (fun row hr => by simp [renL_back hg (h row hr)]), List.map_id]
theorem AObj.ren_id {f : Nat → Nat} {p : Nat → Prop} (hf : ∀ o, p o → f o = o) {ob : AObj} (h : ob.dom p) : ob.ren f = ob := by
  cases ob with
  | none => rfl
  | var cs => simp only [AObj.dom] at h; simp [AObj.ren, renL_id hf h]
  | arr v sz rows =>
    simp only [AObj.dom] at h
    simp only [AObj.ren]
    congr 1
    rw [List.map_congr_left (g := id) (fun row hr => by simp [renL_id hf (h row hr)]), List.map_id]
theorem AObj.dom_ren {g : Nat → Nat} {p q : Nat → Prop} (hg : ∀ o, p o → q (g o)) {ob : AObj} (h : ob.dom p) : (ob.ren g).dom q := by
  cases ob with
  | none => trivial
  | var cs => simp only [AObj.dom] at h; simp [AObj.ren, AObj.dom, domL_ren hg h]
  | arr v sz rows =>
    simp only [AObj.dom] at h
    simp only [AObj.ren, AObj.dom, List.mem_map]
    rintro _ ⟨row, hr, rfl⟩
    exact domL_ren hg (h row hr)

theorem osOK.ren {f : Nat → Nat} {ob : AObj} {lo : Option Loc} {v : Nat} {c : Value} (h : osOK ob lo v c) : osOK (ob.ren f) lo v c := by
  cases ob with
  | none => trivial
  | var cs => exact h.elim
  | arr v' sz rows => simpa [AObj.ren, osOK] using h
theorem ptOK.ren {f : Nat → Nat} {ob : AObj} {lo : Option Loc} {v r off : Nat} {c : Value} (h : ptOK ob lo v r off c) : ptOK (ob.ren f) lo v r off c := by
  cases ob with
  | none => trivial
  | var cs => exact h
  | arr v' sz rows => simpa [AObj.ren, ptOK] using h

theorem VR.ren {e e' : Env} {f : Nat → Nat} {p : Nat → Prop} (hi : ∀ b, e.Im b → e'.Im b) (hw : ∀ b, e.Im b → e'.w.heap[b]? = e.w.heap[b]?)
    (hH : ∀ o ob, p o → e.H[o]? = some ob → e'.H[f o]? = some (ob.ren f)) (hρ : ∀ o lo, p o → e.ρ[o]? = some lo → e'.ρ[f o]? = some lo) {x : RV} {c : Value} (h : VR e x c) : RV.dom p x → VR e' (RV.ren f x) c := by
  induction h with
  | v h => intro _; simp only [RV.ren]; exact .v (h.mono hi hw)
  | os ob lo h1 h2 h h1c => intro hp; simp only [RV.dom] at hp; simp only [RV.ren]; exact .os _ _ (hH _ _ hp h1) (hρ _ _ hp h2) h.ren h1c
  | pt ob lo h1 h2 h h1c => intro hp; simp only [RV.dom] at hp; simp only [RV.ren]; exact .pt _ _ (hH _ _ hp h1) (hρ _ _ hp h2) h.ren h1c
  | fr hn _ ih =>
    intro hp; simp only [RV.dom] at hp; simp only [RV.ren]
    refine .fr (by simpa using hn) fun j a c ha hc => ?_
    obtain ⟨x, hx, rfl⟩ := renL_get ha
    exact ih j x c hx hc (domL_get hp hx)
  | bf hn _ ih =>
    intro hp; simp only [RV.dom] at hp; simp only [RV.ren]
    refine .bf (by simpa using hn) fun j a c ha hc => ?_
    obtain ⟨x, hx, rfl⟩ := renL_get ha
    exact ih j x c hx hc (domL_get hp hx)
  | tr hn _ ih =>
    intro hp; simp only [RV.dom] at hp; simp only [RV.ren]
    refine .tr (by simpa using hn) fun j a c ha hc => ?_
    obtain ⟨x, hx, rfl⟩ := renL_get ha
    exact ih j x c hx hc (domL_get hp hx)
  | gr hn h1 _ ih =>
    intro hp; simp only [RV.dom] at hp; simp only [RV.ren]
    refine .gr (by simpa using hn) h1 fun j a c ha hc => ?_
    obtain ⟨x, hx, rfl⟩ := renL_get ha
    exact ih j x c hx hc (domL_get hp hx)
  | any => intro _; simp only [RV.ren]; exact .any
  | cnd _ h' ih => intro hp; simp only [RV.dom] at hp; simp only [RV.ren]; exact .cnd (fun t => ih t hp) h'

theorem ObjR.ren {e e' : Env} {f : Nat → Nat} {p : Nat → Prop} {ob : AObj} {lo : Option Loc} (hb : ∀ l, lo = some l → e'.w.heap[l.blk]? = e.w.heap[l.blk]?) (hv : ∀ x c, VR e x c → RV.dom p x → VR e' (RV.ren f x) c)
    (h : ObjR e ob lo) (hd : ob.dom p) : ObjR e' (ob.ren f) lo := by
  cases ob with
  | none => trivial
  | var cs =>
    simp only [AObj.dom] at hd
    obtain ⟨l, rfl, h⟩ := h
    refine ⟨l, rfl, fun j x hx => ?_⟩
    obtain ⟨x', hx', rfl⟩ := renL_get hx
    obtain ⟨c, h1, h2, h3, h4⟩ := h j x' hx'
    exact ⟨c, by rw [cell_eq (hb l rfl)]; exact h1, by rw [frozen_eq (hb l rfl)]; exact h2, h3, hv _ _ h4 (domL_get hd hx')⟩
  | arr v sz rows =>
    simp only [AObj.dom] at hd
    obtain ⟨hs, h⟩ := h
    refine ⟨fun row hr => ?_, ?_⟩
    · obtain ⟨r0, hr0, rfl⟩ := List.mem_map.1 hr
      simpa using hs r0 hr0
    · cases lo with
      | none => simp only at h ⊢; subst h; rfl
      | some l =>
        obtain ⟨h1, h2, h3⟩ := h
        refine ⟨by simpa using h1, fun k hk => ?_, fun r row j x hr hx => ?_⟩
        · obtain ⟨c, h1, h2⟩ := h2 k hk
          exact ⟨c, by rw [cell_eq (hb l rfl)]; exact h1, by rw [barred_eq (hb l rfl)]; exact h2⟩
        · rw [List.getElem?_map, Option.map_eq_some_iff] at hr
          obtain ⟨r0, hr0, rfl⟩ := hr
          obtain ⟨x', hx', rfl⟩ := renL_get hx
          obtain ⟨c, h1, h2, h3⟩ := h3 r r0 j x' hr0 hx'
          exact ⟨c, by rw [cell_eq (hb l rfl)]; exact h1, h2, hv _ _ h3 (domL_get (hd r0 (List.mem_of_getElem? hr0)) hx')⟩

theorem Nxt.ren {f : Nat → Nat} {ob ob' : AObj} {lo lo' : Option Loc} (h : Nxt ob lo ob' lo') : Nxt ob lo (ob'.ren f) lo' := by
  cases ob' with
  | none => trivial
  | var cs => exact h
  | arr v sz rows =>
    obtain ⟨v0, sz0, rows0, rfl, h⟩ := h
    exact ⟨v0, sz0, rows0, rfl, by simpa using h⟩

/-- **TOLD UNDER OTHER NAMES, AND OF LESS.** -/
theorem view_ok {e0 e : Env} (g : Good e) (mv : Mv e0 e) (f : Nat → Nat) (p : Nat → Prop) (H' : List AObj) (ρ' : List (Option Loc)) (hl : ρ'.length = H'.length)
    (hH : ∀ o ob, p o → e.H[o]? = some ob → H'[f o]? = some (ob.ren f)) (hρ : ∀ o lo, p o → e.ρ[o]? = some lo → ρ'[f o]? = some lo)
    (hs : ∀ k ob lo, H'[k]? = some ob → ρ'[k]? = some lo → ∃ o ob0, p o ∧ f o = k ∧ e.H[o]? = some ob0 ∧ ob = ob0.ren f ∧ ob0.dom p ∧ e.ρ[o]? = some lo)
    (hid : ∀ o, o < e0.H.length → p o ∧ f o = o) : Good ⟨e.w, e.Im, ρ', H'⟩ ∧ Mv e0 ⟨e.w, e.Im, ρ', H'⟩ ∧ ∀ x c, VR e x c → RV.dom p x → VR ⟨e.w, e.Im, ρ', H'⟩ (RV.ren f x) c := by
  have hv : ∀ x c, VR e x c → RV.dom p x → VR ⟨e.w, e.Im, ρ', H'⟩ (RV.ren f x) c := fun x c h hp => VR.ren (e := e) (e' := ⟨e.w, e.Im, ρ', H'⟩) (fun _ h => h) (fun _ _ => rfl) hH hρ h hp
  have hs' : ∀ k lo, ρ'[k]? = some lo → ∃ o, f o = k ∧ e.ρ[o]? = some lo := fun k lo hk => by
    have hkl : k < H'.length := by rw [← hl]; exact (List.getElem?_eq_some_iff.1 hk).1
    obtain ⟨o, _, _, h1, _, _, _, h2⟩ := hs k _ lo (List.getElem?_eq_getElem hkl) hk
    exact ⟨o, h1, h2⟩
  refine ⟨⟨hl, ?_, ?_, ?_, g.imlt, ?_⟩, ?_, hv⟩
  · intro k k' l l' hk hk' hne
    obtain ⟨o, rfl, h1⟩ := hs' k _ hk
    obtain ⟨o', rfl, h2⟩ := hs' k' _ hk'
    exact g.inj o o' l l' h1 h2 (fun h => hne (by rw [h]))
  · intro k l hk
    obtain ⟨o, _, h1⟩ := hs' k _ hk
    exact g.dis o l h1
  · intro k l hk
    obtain ⟨o, _, h1⟩ := hs' k _ hk
    exact g.lt o l h1
  · intro k ob lo hk hk'
    obtain ⟨o, ob0, _, _, h1, rfl, hd, h2⟩ := hs k ob lo hk hk'
    exact ObjR.ren (e := e) (fun _ _ => rfl) hv (g.obj o ob0 lo h1 h2) hd
  · refine ⟨mv.os, mv.tape, mv.output, mv.size, mv.same, mv.im, mv.imw, mv.imn, ?_, ?_⟩
    · intro o ob lo h1 h2
      obtain ⟨ob', lo', h3, h4, h5⟩ := mv.nx o ob lo h1 h2
      obtain ⟨k1, k2⟩ := hid o (List.getElem?_eq_some_iff.1 h1).1
      have a1 := hH o ob' k1 h3
      have a2 := hρ o lo' k1 h4
      rw [k2] at a1 a2
      exact ⟨_, _, a1, a2, h5.ren⟩
    · rintro b ⟨k, l, hk, rfl⟩
      obtain ⟨o, _, h1⟩ := hs' k _ hk
      exact mv.ownn _ ⟨o, l, h1, rfl⟩

def lowH (n : Nat) (H : List AObj) : Prop := ∀ ob ∈ H, ob.dom (· < n)
@[simp] theorem lowH_nil (n : Nat) : lowH n [] := fun ob h => by simp at h
@[simp] theorem lowH_cons (n : Nat) (ob : AObj) (H : List AObj) : lowH n (ob :: H) ↔ ob.dom (· < n) ∧ lowH n H := by simp [lowH]
@[simp] theorem dom_none (p : Nat → Prop) : AObj.dom p .none ↔ True := by simp [AObj.dom]
@[simp] theorem dom_var (p : Nat → Prop) (cs : List RV) : AObj.dom p (.var cs) ↔ domL p cs := by simp [AObj.dom]
def rowsDom (p : Nat → Prop) (rows : List (List RV)) : Prop := ∀ row ∈ rows, domL p row
@[simp] theorem rowsDom_nil (p : Nat → Prop) : rowsDom p [] ↔ True := by simp [rowsDom]
@[simp] theorem rowsDom_cons (p : Nat → Prop) (r : List RV) (rs : List (List RV)) : rowsDom p (r :: rs) ↔ domL p r ∧ rowsDom p rs := by simp [rowsDom]
@[simp] theorem rowsDom_append (p : Nat → Prop) (rs ss : List (List RV)) : rowsDom p (rs ++ ss) ↔ rowsDom p rs ∧ rowsDom p ss := by
  simp only [rowsDom, List.mem_append]
  exact ⟨fun h => ⟨fun r hr => h r (.inl hr), fun r hr => h r (.inr hr)⟩, fun h r hr => hr.elim (h.1 r) (h.2 r)⟩
@[simp] theorem rowsDom_vrows (p : Nat → Prop) (l : List (List AV)) : rowsDom p (vrows l) ↔ True := by simp [rowsDom, rows_dom p l]; exact rows_dom p l
@[simp] theorem dom_arr (p : Nat → Prop) (v sz : Nat) (rows : List (List RV)) : AObj.dom p (.arr v sz rows) ↔ rowsDom p rows := by simp [AObj.dom, rowsDom]

/-- The objects from n on are let go. -/
theorem cut_ok {e0 e : Env} (g : Good e) (mv : Mv e0 e) {n : Nat} (hn : e0.H.length ≤ n) (hl : lowH n (e.H.take n)) :
    Good ⟨e.w, e.Im, e.ρ.take n, e.H.take n⟩ ∧ Mv e0 ⟨e.w, e.Im, e.ρ.take n, e.H.take n⟩ ∧ ∀ x c, VR e x c → RV.dom (· < n) x → VR ⟨e.w, e.Im, e.ρ.take n, e.H.take n⟩ x c := by
  have hd : ∀ o ob, o < n → e.H[o]? = some ob → ob.dom (· < n) := fun o ob ho h => hl ob (by
    have : (e.H.take n)[o]? = some ob := by rw [List.getElem?_take, if_pos ho]; exact h
    exact List.mem_of_getElem? this)
  have := view_ok g mv id (· < n) (e.H.take n) (e.ρ.take n) (by simp [g.len]) (fun o ob ho h => by
      rw [AObj.ren_id (f := id) (p := (· < n)) (fun _ _ => rfl) (hd o ob ho h)]
      simp only [id]
      rw [List.getElem?_take, if_pos ho]; exact h)
    (fun o lo ho h => by simp only [id]; rw [List.getElem?_take, if_pos ho]; exact h)
    (fun k ob lo h1 h2 => by
      rw [List.getElem?_take] at h1 h2
      split at h1
      · rename_i hk
        rw [if_pos hk] at h2
        exact ⟨k, ob, hk, rfl, h1, (AObj.ren_id (f := id) (p := (· < n)) (fun _ _ => rfl) (hd k ob hk h1)).symm, hd k ob hk h1, h2⟩
      · cases h1)
    (fun o ho => ⟨by omega, rfl⟩)
  refine ⟨this.1, this.2.1, fun x c hx hp => ?_⟩
  have h2 := this.2.2 x c hx hp
  rwa [ren_id (f := id) (p := (· < n)) (fun _ _ => rfl) hp] at h2

theorem CallS.cut {P : Program} {f : Nat} {args : List RV} {H : List AObj} {R : RV → List AObj → Prop} (n : Nat) (hn : H.length ≤ n) (h : CallS P f args H fun r H' => RV.dom (· < n) r ∧ lowH n (H'.take n) ∧ R r (H'.take n)) : CallS P f args H R := by
  intro e vs g hH hv hr
  refine (h e vs g hH hv hr).mono fun E w' ⟨c, e', r, h1, h2, g', mv, hvr, hd, hl, hR⟩ => ?_
  obtain ⟨k1, k2, k3⟩ := cut_ok g' mv (n := n) (by rw [hH]; exact hn) hl
  exact ⟨c, ⟨e'.w, e'.Im, e'.ρ.take n, e'.H.take n⟩, r, h1, h2, k1, k2, k3 r c hvr hd, hR⟩

theorem nodup_idx {S : List Nat} (nd : S.Nodup) {j o : Nat} (h : S[j]? = some o) : S.idxOf o = j := by
  obtain ⟨hj, rfl⟩ := List.getElem?_eq_some_iff.1 h
  exact List.Nodup.idxOf_getElem nd j hj

/-- Some objects are kept, in a new order. -/
theorem CallS.sel {P : Program} {f : Nat} {args : List RV} {H : List AObj} {R : RV → List AObj → Prop} (S : List Nat) (nd : S.Nodup) (hS : ∀ o, o < H.length → S[o]? = some o)
    (h : CallS P f args H fun r H' => RV.dom (· ∈ S) r ∧ (∀ o ∈ S, o < H'.length ∧ ((H'[o]?).getD .none).dom (· ∈ S)) ∧ R (RV.ren (S.idxOf ·) r) (S.map fun o => ((H'[o]?).getD .none).ren (S.idxOf ·))) : CallS P f args H R := by
  intro e vs g hH hv hr
  refine (h e vs g hH hv hr).mono fun E w' ⟨c, e', r, h1, h2, g', mv, hvr, hd, hl, hR⟩ => ?_
  have hSg : ∀ o, o ∈ S → S[S.idxOf o]? = some o := fun o ho => by
    rw [List.getElem?_eq_some_iff]
    exact ⟨List.idxOf_lt_length_iff.2 ho, List.getElem_idxOf _⟩
  have := view_ok g' mv (S.idxOf ·) (· ∈ S) (S.map fun o => ((e'.H[o]?).getD .none).ren (S.idxOf ·)) (S.map fun o => (e'.ρ[o]?).getD none) (by simp)
    (fun o ob ho hob => by rw [List.getElem?_map, hSg o ho]; simp [hob])
    (fun o lo ho hlo => by rw [List.getElem?_map, hSg o ho]; simp [hlo])
    (fun k ob lo k1 k2 => by
      rw [List.getElem?_map, Option.map_eq_some_iff] at k1 k2
      obtain ⟨o, ho, rfl⟩ := k1
      obtain ⟨o', ho', rfl⟩ := k2
      rw [ho] at ho'; cases ho'
      have hm := List.mem_of_getElem? ho
      obtain ⟨m1, m2⟩ := hl o hm
      have e1 := List.getElem?_eq_getElem m1
      have m1' : o < e'.ρ.length := by rw [g'.len]; exact m1
      have e2 := List.getElem?_eq_getElem m1'
      rw [e1] at m2
      exact ⟨o, e'.H[o], hm, nodup_idx nd ho, e1, by rw [e1]; rfl, m2, by rw [e2]; rfl⟩)
    (fun o ho => by
      have := hS o (by rw [← hH]; exact ho)
      exact ⟨List.mem_of_getElem? this, nodup_idx nd this⟩)
  exact ⟨c, ⟨e'.w, e'.Im, S.map fun o => (e'.ρ[o]?).getD none, S.map fun o => ((e'.H[o]?).getD .none).ren (S.idxOf ·)⟩, _, h1, h2, this.1, this.2.1, this.2.2 r c hvr hd, hR⟩

/-- An object's name at the caller's. -/
def upN (π : List Nat) (L j : Nat) : Nat := (π[j]?).getD (L + (j - π.length))
def putP : List AObj → List Nat → List AObj → List AObj
  | H, o :: π, ob :: K => putP (H.set o ob) π K
  | H, _, _ => H
/-- The caller's objects behind a call. -/
def putH (H : List AObj) (π : List Nat) (K : List AObj) : List AObj := putP H π (K.map fun ob => ob.ren (upN π H.length)) ++ (K.drop π.length).map fun ob => ob.ren (upN π H.length)

theorem putP_length : ∀ (π : List Nat) (H K : List AObj), (putP H π K).length = H.length
  | [], H, K => by simp [putP]
  | o :: π, H, [] => by simp [putP]
  | o :: π, H, ob :: K => by simp [putP, putP_length π]
theorem putP_out : ∀ (π : List Nat) (H K : List AObj) (o : Nat), o ∉ π → (putP H π K)[o]? = H[o]?
  | [], H, K, o, _ => by simp [putP]
  | o' :: π, H, [], o, _ => by simp [putP]
  | o' :: π, H, ob :: K, o, h => by
    simp only [List.mem_cons, not_or] at h
    rw [putP, putP_out π _ K o h.2, List.getElem?_set_ne (fun hc => h.1 hc.symm)]
theorem putP_in : ∀ (π : List Nat) (H K : List AObj) (j o : Nat) (ob : AObj), π.Nodup → π[j]? = some o → K[j]? = some ob → o < H.length → (putP H π K)[o]? = some ob
  | [], H, K, j, o, ob, _, h, _, _ => by simp at h
  | o' :: π, H, [], j, o, ob, _, _, h, _ => by simp at h
  | o' :: π, H, ob' :: K, j, o, ob, nd, h1, h2, h3 => by
    rw [List.nodup_cons] at nd
    rw [putP]
    cases j with
    | zero =>
      simp at h1 h2; subst h1; subst h2
      rw [putP_out π _ K _ nd.1]; simp [h3]
    | succ j => exact putP_in π _ K j o ob nd.2 (by simpa using h1) (by simpa using h2) (by simpa using h3)

/-- **A CONTRACT OVER FEW OBJECTS HOLDS AMONG MANY.** -/
theorem CallS.among {P : Program} {f : Nat} {args : List RV} {H0 : List AObj} {R : RV → List AObj → Prop} (h : CallS P f args H0 R) (π : List Nat) (nd : π.Nodup) {H : List AObj} (hl : H0.length = π.length)
    (hH : ∀ (j o : Nat) (ob : AObj), π[j]? = some o → H0[j]? = some ob → ob.dom (· < π.length) ∧ H[o]? = some (ob.ren (upN π H.length))) (ha : domL (· < π.length) args) :
    CallS P f (renL (upN π H.length) args) H fun r' H' => ∃ r K, R r K ∧ r' = RV.ren (upN π H.length) r ∧ H' = putH H π K := by
  intro e vs g hHe hn hv
  subst hHe
  have hup : ∀ j o, π[j]? = some o → upN π e.H.length j = o := fun j o hj => by simp [upN, hj]
  have hlow : ∀ j, j < π.length → ∃ o, π[j]? = some o ∧ upN π e.H.length j = o ∧ π.idxOf o = j := fun j hj => by
    have := List.getElem?_eq_getElem hj
    exact ⟨_, this, hup _ _ this, nodup_idx nd this⟩
  have hinv : ∀ j, j < π.length → π.idxOf (upN π e.H.length j) = j := fun j hj => by
    obtain ⟨o, _, h2, h3⟩ := hlow j hj
    rw [h2, h3]
  have hmem : ∀ j, j < π.length → upN π e.H.length j ∈ π := fun j hj => by
    obtain ⟨o, h1, h2, _⟩ := hlow j hj
    rw [h2]; exact List.mem_of_getElem? h1
  have hρ : ∀ j o, π[j]? = some o → o < e.H.length := fun j o hj => by
    have hj' : j < H0.length := by rw [hl]; exact (List.getElem?_eq_some_iff.1 hj).1
    exact (List.getElem?_eq_some_iff.1 (hH j o _ hj (List.getElem?_eq_getElem hj')).2).1
  -- the callee's view
  let ρ0 : List (Option Loc) := π.map fun o => (e.ρ[o]?).getD none
  have hρ0 : ∀ (j o : Nat), π[j]? = some o → ∀ lo, ρ0[j]? = some lo ↔ e.ρ[o]? = some lo := fun j o hj lo => by
    have ho := hρ j o hj
    rw [← g.len] at ho
    have e2 := List.getElem?_eq_getElem ho
    simp only [ρ0, List.getElem?_map, hj, Option.map_some, e2, Option.getD_some]
  have conv : ∀ x c, VR e (RV.ren (upN π e.H.length) x) c → RV.dom (· < π.length) x → VR ⟨e.w, e.Im, ρ0, H0⟩ x c := fun x c hx hd => by
    have := VR.ren (e := e) (e' := ⟨e.w, e.Im, ρ0, H0⟩) (f := (π.idxOf ·)) (p := (· ∈ π)) (fun _ h => h) (fun _ _ => rfl) (fun o ob ho hob => by
        obtain ⟨j, hj, rfl⟩ := List.getElem_of_mem ho
        have hj1 := List.getElem?_eq_getElem hj
        have hj' : j < H0.length := by rw [hl]; exact hj
        obtain ⟨k1, k2⟩ := hH j _ _ hj1 (List.getElem?_eq_getElem hj')
        rw [hob] at k2; cases k2
        show H0[List.idxOf π[j] π]? = _
        rw [nodup_idx nd hj1, AObj.ren_back (p := (· < π.length)) hinv k1]
        exact List.getElem?_eq_getElem hj') (fun o lo ho hlo => by
        obtain ⟨j, hj, rfl⟩ := List.getElem_of_mem ho
        have hj1 := List.getElem?_eq_getElem hj
        show ρ0[List.idxOf π[j] π]? = _
        rw [nodup_idx nd hj1]
        exact (hρ0 j _ hj1 lo).2 hlo) hx (dom_ren (p := (· < π.length)) hmem hd)
    rwa [ren_back (p := (· < π.length)) hinv hd] at this
  have g0 : Good ⟨e.w, e.Im, ρ0, H0⟩ := by
    have back : ∀ k lo, ρ0[k]? = some lo → ∃ o, π[k]? = some o ∧ e.ρ[o]? = some lo := fun k lo hk => by
      have hkl : k < π.length := by have := (List.getElem?_eq_some_iff.1 hk).1; simpa [ρ0] using this
      have h1 := List.getElem?_eq_getElem hkl
      exact ⟨_, h1, (hρ0 k _ h1 lo).1 hk⟩
    refine ⟨by simp [ρ0, hl], ?_, ?_, ?_, g.imlt, ?_⟩
    · intro k k' l l' hk hk' hne
      obtain ⟨o, h1, h2⟩ := back k _ hk
      obtain ⟨o', h3, h4⟩ := back k' _ hk'
      refine g.inj o o' l l' h2 h4 (fun hc => hne ?_)
      subst hc
      rw [← nodup_idx nd h1, nodup_idx nd h3]
    · intro k l hk
      obtain ⟨o, _, h2⟩ := back k _ hk
      exact g.dis o l h2
    · intro k l hk
      obtain ⟨o, _, h2⟩ := back k _ hk
      exact g.lt o l h2
    · intro k ob lo hk hk'
      obtain ⟨o, h1, h2⟩ := back k _ hk'
      obtain ⟨d1, d2⟩ := hH k o ob h1 hk
      have := ObjR.ren (e := e) (e' := ⟨e.w, e.Im, ρ0, H0⟩) (f := (π.idxOf ·)) (p := (· ∈ π)) (fun _ _ => rfl) (fun x c hx hd => ?_) (g.obj o _ lo d2 h2) (AObj.dom_ren (p := (· < π.length)) hmem d1)
      · rwa [AObj.ren_back (p := (· < π.length)) hinv d1] at this
      · refine VR.ren (e := e) (e' := ⟨e.w, e.Im, ρ0, H0⟩) (fun _ h => h) (fun _ _ => rfl) (fun o ob ho hob => ?_) (fun o lo ho hlo => ?_) hx hd
        · obtain ⟨j, hj, rfl⟩ := List.getElem_of_mem ho
          have hj1 := List.getElem?_eq_getElem hj
          have hj' : j < H0.length := by rw [hl]; exact hj
          obtain ⟨k1, k2⟩ := hH j _ _ hj1 (List.getElem?_eq_getElem hj')
          rw [hob] at k2; cases k2
          show H0[List.idxOf π[j] π]? = _
          rw [nodup_idx nd hj1, AObj.ren_back (p := (· < π.length)) hinv k1]
          exact List.getElem?_eq_getElem hj'
        · obtain ⟨j, hj, rfl⟩ := List.getElem_of_mem ho
          have hj1 := List.getElem?_eq_getElem hj
          show ρ0[List.idxOf π[j] π]? = _
          rw [nodup_idx nd hj1]
          exact (hρ0 j _ hj1 lo).2 hlo
  have hva : ∀ (j : Nat) x y, args[j]? = some x → vs[j]? = some y → VR ⟨e.w, e.Im, ρ0, H0⟩ x y := fun j x y hx hy =>
    conv x y (hv j _ y (by rw [renL_map, List.getElem?_map, hx]; rfl) hy) (domL_get ha hx)
  refine (h ⟨e.w, e.Im, ρ0, H0⟩ vs g0 rfl (by simpa using hn) hva).mono ?_
  rintro E w' ⟨c, e', r, hE, rfl, g', mv, hr, hR⟩
  -- back at the caller's
  have hm : π.length ≤ e'.H.length := by
    apply Nat.le_of_not_lt
    intro hc
    have hj : e'.H.length < H0.length := by omega
    have hj2 : e'.H.length < ρ0.length := by simp [ρ0]; omega
    obtain ⟨ob', _, h1, _⟩ := mv.nx e'.H.length _ _ (List.getElem?_eq_getElem hj) (List.getElem?_eq_getElem hj2)
    have := (List.getElem?_eq_some_iff.1 h1).1; omega
  let up := upN π e.H.length
  have hup2 : ∀ j, π.length ≤ j → up j = e.H.length + (j - π.length) := fun j hj => by simp [up, upN, List.getElem?_eq_none hj]
  let ρ' : List (Option Loc) := (List.range e.ρ.length).map (fun o => if o ∈ π then (e'.ρ[π.idxOf o]?).getD none else (e.ρ[o]?).getD none) ++ e'.ρ.drop π.length
  let H' := putH e.H π e'.H
  have hHlen : H'.length = e.H.length + (e'.H.length - π.length) := by simp [H', putH, putP_length]
  have hρlen : ρ'.length = H'.length := by rw [hHlen]; simp [ρ', g.len, g'.len]
  -- what stands where
  have outH : ∀ o ob, o ∉ π → e.H[o]? = some ob → H'[o]? = some ob := fun o ob ho hob => by
    have hlt := (List.getElem?_eq_some_iff.1 hob).1
    simp only [H', putH]
    rw [List.getElem?_append_left (by rw [putP_length]; exact hlt), putP_out _ _ _ _ ho]; exact hob
  have outρ : ∀ o lo, o ∉ π → e.ρ[o]? = some lo → ρ'[o]? = some lo := fun o lo ho hlo => by
    have hlt := (List.getElem?_eq_some_iff.1 hlo).1
    simp only [ρ']
    rw [List.getElem?_append_left (by simpa using hlt)]
    simp [hlt, ho]
    exact (List.getElem?_eq_some_iff.1 hlo).2
  have inH : ∀ j ob, e'.H[j]? = some ob → H'[up j]? = some (ob.ren up) := fun j ob hob => by
    by_cases hj : j < π.length
    · obtain ⟨o, h1, h2, _⟩ := hlow j hj
      have ho := hρ j o h1
      simp only [H', putH, up]
      rw [h2, List.getElem?_append_left (by rw [putP_length]; exact ho)]
      exact putP_in π _ _ j o _ nd h1 (by rw [List.getElem?_map, hob]; rfl) ho
    · rw [hup2 j (by omega)]
      simp only [H', putH]
      rw [List.getElem?_append_right (by rw [putP_length]; omega), putP_length, List.getElem?_map, List.getElem?_drop, show e.H.length + (j - π.length) - e.H.length = j - π.length by omega, show π.length + (j - π.length) = j by omega, hob]
      rfl
  have inρ : ∀ j lo, e'.ρ[j]? = some lo → ρ'[up j]? = some lo := fun j lo hlo => by
    by_cases hj : j < π.length
    · obtain ⟨o, h1, h2, h3⟩ := hlow j hj
      have ho := hρ j o h1
      rw [← g.len] at ho
      simp only [ρ', up]
      rw [h2, List.getElem?_append_left (by simpa using ho)]
      simp [ho, List.mem_of_getElem? h1, h3, hlo]
    · rw [hup2 j (by omega)]
      simp only [ρ']
      rw [List.getElem?_append_right (by simp [g.len]), List.getElem?_drop]
      simp only [List.length_map, List.length_range, g.len]
      rw [show e.H.length + (j - π.length) - e.H.length = j - π.length by omega, show π.length + (j - π.length) = j by omega]
      exact hlo
  have cases' : ∀ k ob lo, H'[k]? = some ob → ρ'[k]? = some lo → (k ∉ π ∧ e.H[k]? = some ob ∧ e.ρ[k]? = some lo) ∨ (∃ j ob0, up j = k ∧ e'.H[j]? = some ob0 ∧ ob = ob0.ren up ∧ e'.ρ[j]? = some lo) := fun k ob lo hk hk' => by
    have hkl : k < H'.length := (List.getElem?_eq_some_iff.1 hk).1
    have fromj : ∀ j, j < e'.H.length → up j = k → (∃ j ob0, up j = k ∧ e'.H[j]? = some ob0 ∧ ob = ob0.ren up ∧ e'.ρ[j]? = some lo) := fun j hj hjk => by
      have a1 := List.getElem?_eq_getElem hj
      have hj2 : j < e'.ρ.length := by rw [g'.len]; exact hj
      have a2 := List.getElem?_eq_getElem hj2
      have b1 := inH j _ a1
      have b2 := inρ j _ a2
      rw [hjk, hk] at b1
      rw [hjk, hk'] at b2
      cases b1; cases b2
      exact ⟨j, _, hjk, a1, rfl, a2⟩
    by_cases hlt : k < e.H.length
    · by_cases hmem : k ∈ π
      · obtain ⟨j, hj, rfl⟩ := List.getElem_of_mem hmem
        exact .inr (fromj j (by omega) (hup j _ (List.getElem?_eq_getElem hj)))
      · have a1 := List.getElem?_eq_getElem hlt
        have hlt2 : k < e.ρ.length := by rw [g.len]; exact hlt
        have a2 := List.getElem?_eq_getElem hlt2
        have b1 := outH k _ hmem a1
        have b2 := outρ k _ hmem a2
        rw [hk] at b1; rw [hk'] at b2
        cases b1; cases b2
        exact .inl ⟨hmem, a1, a2⟩
    · refine .inr (fromj (π.length + (k - e.H.length)) (by omega) ?_)
      rw [hup2 _ (by omega)]; omega
  have own0 : ∀ b, Env.own ⟨e.w, e.Im, ρ0, H0⟩ b → e.own b := fun b ⟨j, l, hj, hb⟩ => by
    have hjl : j < π.length := by have := (List.getElem?_eq_some_iff.1 hj).1; simpa [ρ0] using this
    have h1 := List.getElem?_eq_getElem hjl
    exact ⟨_, l, (hρ0 j _ h1 _).1 hj, hb⟩
  have notown : ∀ o l, o ∉ π → e.ρ[o]? = some (some l) → ¬ Env.own ⟨e.w, e.Im, ρ0, H0⟩ l.blk := fun o l ho hol ⟨j, l', hj, hb⟩ => by
    have hjl : j < π.length := by have := (List.getElem?_eq_some_iff.1 hj).1; simpa [ρ0] using this
    have h1 := List.getElem?_eq_getElem hjl
    exact g.inj _ _ _ _ ((hρ0 j _ h1 _).1 hj) hol (fun hc => ho (hc ▸ List.getElem_mem hjl)) hb
  have mv' : Mv e ⟨e'.w, e'.Im, ρ', H'⟩ := by
    refine ⟨mv.os, mv.tape, mv.output, mv.size, fun b hb ho => mv.same b hb (fun hc => ho (own0 b hc)), mv.im, mv.imw, fun b hb => ?_, ?_, ?_⟩
    · rcases mv.imn b hb with h1 | h1 | h1
      · exact .inl h1
      · exact .inr (.inl (own0 b h1))
      · exact .inr (.inr h1)
    · intro o ob lo h1 h2
      by_cases ho : o ∈ π
      · obtain ⟨j, hj, rfl⟩ := List.getElem_of_mem ho
        have hj1 := List.getElem?_eq_getElem hj
        have hj' : j < H0.length := by rw [hl]; exact hj
        obtain ⟨_, k2⟩ := hH j _ _ hj1 (List.getElem?_eq_getElem hj')
        obtain ⟨ob', lo', a1, a2, a3⟩ := mv.nx j _ _ (List.getElem?_eq_getElem hj') ((hρ0 j _ hj1 _).2 h2)
        have b1 := inH j _ a1
        have b2 := inρ j _ a2
        have hu : up j = π[j] := hup j _ hj1
        rw [hu] at b1 b2
        rw [h1] at k2; cases k2
        refine ⟨_, _, b1, b2, ?_⟩
        have a4 := a3.ren (f := up)
        generalize H0[j] = x at a4
        cases ob' with
        | none => trivial
        | var cs => obtain ⟨q1, cs', rfl⟩ := a4; exact ⟨q1, _, rfl⟩
        | arr v sz rows =>
          obtain ⟨v0, sz0, rows0, rfl, q⟩ := a4
          exact ⟨v0, sz0, rows0.map (renL (upN π e.H.length)), rfl, by simpa using q⟩
      · exact ⟨ob, lo, outH o ob ho h1, outρ o lo ho h2, .refl _ _⟩
    · rintro b ⟨k, l, hk, rfl⟩
      have hkl : k < H'.length := by rw [← hρlen]; exact (List.getElem?_eq_some_iff.1 hk).1
      rcases cases' k _ _ (List.getElem?_eq_getElem hkl) hk with ⟨_, _, h2⟩ | ⟨j, _, _, _, _, h2⟩
      · exact .inl ⟨k, l, h2, rfl⟩
      · rcases mv.ownn l.blk ⟨j, l, h2, rfl⟩ with h3 | h3
        · exact .inl (own0 _ h3)
        · exact .inr h3
  have conv' : ∀ x c, VR e' x c → VR ⟨e'.w, e'.Im, ρ', H'⟩ (RV.ren up x) c := fun x c hx =>
    VR.ren (e := e') (e' := ⟨e'.w, e'.Im, ρ', H'⟩) (p := fun _ => True) (fun _ h => h) (fun _ _ => rfl) (fun o ob _ h => inH o ob h) (fun o lo _ h => inρ o lo h) hx (by
      have : ∀ x : RV, RV.dom (fun _ => True) x := by
        intro x
        exact (RV.rec (motive_1 := fun x => RV.dom (fun _ => True) x) (motive_2 := fun l => domL (fun _ => True) l) (by intros; simp [RV.dom]) (by intros; simp [RV.dom]) (by intros; simp [RV.dom]) (by intros; simp_all [RV.dom]) (by intros; simp_all [RV.dom]) (by intros; simp_all [RV.dom]) (by intros; simp_all [RV.dom]) (by simp [RV.dom]) (by intros; simp_all [RV.dom]) (by simp [domL]) (by intros; simp_all [domL]) x)
      exact this x)
  have disj : ∀ o l, o ∉ π → e.ρ[o]? = some (some l) → e'.w.heap[l.blk]? = e.w.heap[l.blk]? := fun o l ho hol => mv.same _ (g.lt o l hol) (notown o l ho hol)
  have g2 : Good ⟨e'.w, e'.Im, ρ', H'⟩ := by
    have hk : ∀ k l, ρ'[k]? = some (some l) → (k ∉ π ∧ e.ρ[k]? = some (some l)) ∨ (∃ j, up j = k ∧ e'.ρ[j]? = some (some l)) := fun k l hk => by
      have hkl : k < H'.length := by rw [← hρlen]; exact (List.getElem?_eq_some_iff.1 hk).1
      rcases cases' k _ _ (List.getElem?_eq_getElem hkl) hk with ⟨h1, _, h2⟩ | ⟨j, _, h1, _, _, h2⟩
      · exact .inl ⟨h1, h2⟩
      · exact .inr ⟨j, h1, h2⟩
    have apart : ∀ (o : Nat) (l : Loc) (j : Nat) (l' : Loc), o ∉ π → e.ρ[o]? = some (some l) → e'.ρ[j]? = some (some l') → l.blk ≠ l'.blk := fun o l j l' ho hol hj hc => by
      rcases mv.ownn l'.blk ⟨j, l', hj, rfl⟩ with h1 | h1
      · exact notown o l ho hol (hc ▸ h1)
      · have h2 := g.lt o l hol
        have h3 : e.w.heap.size ≤ l'.blk := h1
        omega
    refine ⟨hρlen, ?_, ?_, ?_, g'.imlt, ?_⟩
    · intro k k' l l' h1 h2 hne
      rcases hk k l h1 with ⟨a1, a2⟩ | ⟨j, a1, a2⟩ <;> rcases hk k' l' h2 with ⟨b1, b2⟩ | ⟨j', b1, b2⟩
      · exact g.inj k k' l l' a2 b2 hne
      · exact apart k l j' l' a1 a2 b2
      · exact fun hc => apart k' l' j l b1 b2 a2 hc.symm
      · exact g'.inj j j' l l' a2 b2 (fun hc => hne (by rw [← a1, ← b1, hc]))
    · intro k l h1 hi
      rcases hk k l h1 with ⟨a1, a2⟩ | ⟨j, a1, a2⟩
      · rcases mv.imn _ hi with h3 | h3 | h3
        · exact g.dis k l a2 h3
        · exact notown k l a1 a2 h3
        · have h4 := g.lt k l a2
          have h5 : e.w.heap.size ≤ l.blk := h3
          omega
      · exact g'.dis j l a2 hi
    · intro k l h1
      rcases hk k l h1 with ⟨a1, a2⟩ | ⟨j, a1, a2⟩
      · exact Nat.lt_of_lt_of_le (g.lt k l a2) mv.size
      · exact g'.lt j l a2
    · intro k ob lo h1 h2
      rcases cases' k ob lo h1 h2 with ⟨a1, a2, a3⟩ | ⟨j, ob0, a1, a2, rfl, a3⟩
      · exact (g.obj k ob lo a2 a3).keep (fun l hl => disj k l a1 (by rw [a3, hl])) mv'
      · exact ObjR.ren (e := e') (e' := ⟨e'.w, e'.Im, ρ', H'⟩) (p := fun _ => True) (fun _ _ => rfl) (fun x c hx _ => conv' x c hx) (g'.obj j ob0 lo a2 a3) (by
          have hd : ∀ x : RV, RV.dom (fun _ => True) x := by
            intro x
            exact (RV.rec (motive_1 := fun x => RV.dom (fun _ => True) x) (motive_2 := fun l => domL (fun _ => True) l) (by intros; simp [RV.dom]) (by intros; simp [RV.dom]) (by intros; simp [RV.dom]) (by intros; simp_all [RV.dom]) (by intros; simp_all [RV.dom]) (by intros; simp_all [RV.dom]) (by intros; simp_all [RV.dom]) (by simp [RV.dom]) (by intros; simp_all [RV.dom]) (by simp [domL]) (by intros; simp_all [domL]) x)
          cases ob0 with
          | none => trivial
          | var cs => simp [domL_mem, hd]
          | arr v sz rows => simp [rowsDom, domL_mem, hd])
  exact ⟨c, ⟨e'.w, e'.Im, ρ', H'⟩, _, hE, rfl, g2, mv', conv' r c hr, r, e'.H, hR, rfl, rfl⟩
end Go.Av
