/- Names of objects changed about: what is told of memory may be told under other names, and of less. No condition. -/
import Derived.Test.YtgipkikbefnokaaDoorXAv5
set_option linter.constructorNameAsVariable false
namespace Go.Av
open Go Go.RowKit
set_option linter.unusedSimpArgs false
set_option linter.unusedVariables false

mutual
def RV.ren (f : Nat → Nat) : RV → RV
  | .v x => .v x
  | .os o v => .os (f o) v
  | .sub o v l n => .sub (f o) v l n
  | .pt o v r off => .pt (f o) v r off
  | .fr g cs => .fr g (renL f cs)
  | .bf g cs => .bf g (renL f cs)
  | .tr cs => .tr (renL f cs)
  | .gr cs => .gr (renL f cs)
  | .any => .any
  | .bo => .bo
  | .cnd c x => .cnd c (RV.ren f x)
  | .yl _ _ => .any
def renL (f : Nat → Nat) : List RV → List RV
  | [] => []
  | x :: xs => RV.ren f x :: renL f xs
end
mutual
def RV.dom (p : Nat → Prop) : RV → Prop
  | .v _ => True
  | .os o _ => p o
  | .sub o _ _ _ => p o
  | .pt o _ _ _ => p o
  | .fr _ cs => domL p cs
  | .bf _ cs => domL p cs
  | .tr cs => domL p cs
  | .gr cs => domL p cs
  | .any => True
  | .bo => True
  | .cnd _ x => RV.dom p x
  | .yl _ _ => False
def domL (p : Nat → Prop) : List RV → Prop
  | [] => True
  | x :: xs => RV.dom p x ∧ domL p xs
end

theorem renL_map (f : Nat → Nat) : ∀ (l : List RV), renL f l = l.map (RV.ren f)
  | [] => by simp [renL]
  | x :: l => by simp [renL, renL_map f l]
theorem domL_mem {p : Nat → Prop} : ∀ {l : List RV}, domL p l ↔ ∀ x ∈ l, RV.dom p x
  | [] => by simp [domL]
  | x :: l => by simp [domL, domL_mem (l := l)]
theorem domL_get {p : Nat → Prop} {l : List RV} (h : domL p l) {j : Nat} {x : RV} (hx : l[j]? = some x) : RV.dom p x := domL_mem.1 h x (List.mem_of_getElem? hx)
theorem renL_get {f : Nat → Nat} {l : List RV} {j : Nat} {y : RV} (h : (renL f l)[j]? = some y) : ∃ x, l[j]? = some x ∧ y = RV.ren f x := by
  rw [renL_map, List.getElem?_map, Option.map_eq_some_iff] at h
  obtain ⟨x, hx, rfl⟩ := h
  exact ⟨x, hx, rfl⟩
@[simp] theorem renL_length (f : Nat → Nat) (l : List RV) : (renL f l).length = l.length := by rw [renL_map]; simp

def AObj.ren (f : Nat → Nat) : AObj → AObj
  | .none => .none
  | .var cs => .var (renL f cs)
  | .arr v sz rows => .arr v sz (rows.map (renL f))
  | .xo k cs => .xo k (renL f cs)
  | .buf e v l => .buf e v l
def AObj.dom (p : Nat → Prop) : AObj → Prop
  | .none => True
  | .var cs => domL p cs
  | .arr _ _ rows => ∀ row ∈ rows, domL p row
  | .xo _ cs => domL p cs
  | .buf _ _ _ => True

@[simp] theorem ren_none (f : Nat → Nat) : AObj.ren f .none = .none := rfl
@[simp] theorem ren_var (f : Nat → Nat) (cs : List RV) : AObj.ren f (.var cs) = .var (renL f cs) := rfl
@[simp] theorem ren_buf (f : Nat → Nat) (e : TypeId) (v : Nat) (l : List UInt8) : AObj.ren f (.buf e v l) = .buf e v l := rfl
@[simp] theorem ren_xo (f : Nat → Nat) (k : XK) (cs : List RV) : AObj.ren f (.xo k cs) = .xo k (renL f cs) := rfl
@[simp] theorem ren_arr (f : Nat → Nat) (v sz : Nat) (rows : List (List RV)) : AObj.ren f (.arr v sz rows) = .arr v sz (rows.map (renL f)) := rfl
mutual
theorem ren_back {f g : Nat → Nat} {p : Nat → Prop} (hg : ∀ o, p o → f (g o) = o) : ∀ {x : RV}, RV.dom p x → RV.ren f (RV.ren g x) = x
  | .v _, _ => by simp [RV.ren]
  | .os _ _, h => by simp only [RV.dom] at h; simp [RV.ren, hg _ h]
  | .sub _ _ _ _, h => by simp only [RV.dom] at h; simp [RV.ren, hg _ h]
  | .pt _ _ _ _, h => by simp only [RV.dom] at h; simp [RV.ren, hg _ h]
  | .fr _ _, h => by simp only [RV.dom] at h; simp [RV.ren, renL_back hg h]
  | .bf _ _, h => by simp only [RV.dom] at h; simp [RV.ren, renL_back hg h]
  | .tr _, h => by simp only [RV.dom] at h; simp [RV.ren, renL_back hg h]
  | .gr _, h => by simp only [RV.dom] at h; simp [RV.ren, renL_back hg h]
  | .any, _ => by simp [RV.ren]
  | .bo, _ => by simp [RV.ren]
  | .cnd _ _, h => by simp only [RV.dom] at h; simp [RV.ren, ren_back hg h]
  | .yl _ _, h => by simp only [RV.dom] at h
theorem renL_back {f g : Nat → Nat} {p : Nat → Prop} (hg : ∀ o, p o → f (g o) = o) : ∀ {l : List RV}, domL p l → renL f (renL g l) = l
  | [], _ => by simp [renL]
  | _ :: _, h => by simp only [domL] at h; simp [renL, ren_back hg h.1, renL_back hg h.2]
end
mutual
theorem dom_ren {g : Nat → Nat} {p q : Nat → Prop} (hg : ∀ o, p o → q (g o)) : ∀ {x : RV}, RV.dom p x → RV.dom q (RV.ren g x)
  | .v _, _ => by simp [RV.ren, RV.dom]
  | .os _ _, h => by simp only [RV.dom] at h; simp [RV.ren, RV.dom, hg _ h]
  | .sub _ _ _ _, h => by simp only [RV.dom] at h; simp [RV.ren, RV.dom, hg _ h]
  | .pt _ _ _ _, h => by simp only [RV.dom] at h; simp [RV.ren, RV.dom, hg _ h]
  | .fr _ _, h => by simp only [RV.dom] at h; simp [RV.ren, RV.dom, domL_ren hg h]
  | .bf _ _, h => by simp only [RV.dom] at h; simp [RV.ren, RV.dom, domL_ren hg h]
  | .tr _, h => by simp only [RV.dom] at h; simp [RV.ren, RV.dom, domL_ren hg h]
  | .gr _, h => by simp only [RV.dom] at h; simp [RV.ren, RV.dom, domL_ren hg h]
  | .any, _ => by simp [RV.ren, RV.dom]
  | .bo, _ => by simp [RV.ren, RV.dom]
  | .cnd _ _, h => by simp only [RV.dom] at h; simp [RV.ren, RV.dom, dom_ren hg h]
  | .yl _ _, h => by simp only [RV.dom] at h
theorem domL_ren {g : Nat → Nat} {p q : Nat → Prop} (hg : ∀ o, p o → q (g o)) : ∀ {l : List RV}, domL p l → domL q (renL g l)
  | [], _ => by simp [renL, domL]
  | _ :: _, h => by simp only [domL] at h; simp [renL, domL, dom_ren hg h.1, domL_ren hg h.2]
end
mutual
theorem ren_id {f : Nat → Nat} {p : Nat → Prop} (hf : ∀ o, p o → f o = o) : ∀ {x : RV}, RV.dom p x → RV.ren f x = x
  | .v _, _ => by simp [RV.ren]
  | .os _ _, h => by simp only [RV.dom] at h; simp [RV.ren, hf _ h]
  | .sub _ _ _ _, h => by simp only [RV.dom] at h; simp [RV.ren, hf _ h]
  | .pt _ _ _ _, h => by simp only [RV.dom] at h; simp [RV.ren, hf _ h]
  | .fr _ _, h => by simp only [RV.dom] at h; simp [RV.ren, renL_id hf h]
  | .bf _ _, h => by simp only [RV.dom] at h; simp [RV.ren, renL_id hf h]
  | .tr _, h => by simp only [RV.dom] at h; simp [RV.ren, renL_id hf h]
  | .gr _, h => by simp only [RV.dom] at h; simp [RV.ren, renL_id hf h]
  | .any, _ => by simp [RV.ren]
  | .bo, _ => by simp [RV.ren]
  | .cnd _ _, h => by simp only [RV.dom] at h; simp [RV.ren, ren_id hf h]
  | .yl _ _, h => by simp only [RV.dom] at h
theorem renL_id {f : Nat → Nat} {p : Nat → Prop} (hf : ∀ o, p o → f o = o) : ∀ {l : List RV}, domL p l → renL f l = l
  | [], _ => by simp [renL]
  | _ :: _, h => by simp only [domL] at h; simp [renL, ren_id hf h.1, renL_id hf h.2]
end
theorem AObj.ren_back {f g : Nat → Nat} {p : Nat → Prop} (hg : ∀ o, p o → f (g o) = o) {ob : AObj} (h : ob.dom p) : (ob.ren g).ren f = ob := by
  cases ob with
  | none => rfl
  | var cs => simp only [AObj.dom] at h; simp [AObj.ren, renL_back hg h]
  | xo k cs => simp only [AObj.dom] at h; simp [AObj.ren, renL_back hg h]
  | buf t v l => rfl
  | arr v sz rows =>
    simp only [AObj.dom] at h
    simp only [AObj.ren, List.map_map]
    congr 1
    rw [List.map_congr_left (g := id) (fun row hr => by simp [renL_back hg (h row hr)]), List.map_id]
theorem AObj.ren_id {f : Nat → Nat} {p : Nat → Prop} (hf : ∀ o, p o → f o = o) {ob : AObj} (h : ob.dom p) : ob.ren f = ob := by
  cases ob with
  | none => rfl
  | var cs => simp only [AObj.dom] at h; simp [AObj.ren, renL_id hf h]
  | xo k cs => simp only [AObj.dom] at h; simp [AObj.ren, renL_id hf h]
  | buf t v l => rfl
  | arr v sz rows =>
    simp only [AObj.dom] at h
    simp only [AObj.ren]
    congr 1
    rw [List.map_congr_left (g := id) (fun row hr => by simp [renL_id hf (h row hr)]), List.map_id]
theorem AObj.dom_ren {g : Nat → Nat} {p q : Nat → Prop} (hg : ∀ o, p o → q (g o)) {ob : AObj} (h : ob.dom p) : (ob.ren g).dom q := by
  cases ob with
  | none => trivial
  | var cs => simp only [AObj.dom] at h; simp [AObj.ren, AObj.dom, domL_ren hg h]
  | xo k cs => simp only [AObj.dom] at h; simp [AObj.ren, AObj.dom, domL_ren hg h]
  | buf t v l => trivial
  | arr v sz rows =>
    simp only [AObj.dom] at h
    simp only [AObj.ren, AObj.dom, List.mem_map]
    rintro _ ⟨row, hr, rfl⟩
    exact domL_ren hg (h row hr)

theorem osOK.ren {f : Nat → Nat} {ob : AObj} {lo : Option Loc} {v : Nat} {c : Value} (h : osOK ob lo v c) : osOK (ob.ren f) lo v c := by
  cases ob with
  | none => trivial
  | var cs => exact h.elim
  | xo k cs => exact h.elim
  | buf t v l => exact h
  | arr v' sz rows => simpa [AObj.ren, osOK] using h
theorem subOK.ren {f : Nat → Nat} {ob : AObj} {lc : Option Loc} {v lo n : Nat} {c : Value} (h : subOK ob lc v lo n c) : subOK (ob.ren f) lc v lo n c := by
  cases ob with
  | none => trivial
  | var cs => exact h.elim
  | xo k cs => exact h.elim
  | buf t v l => exact h.elim
  | arr v' sz rows => simpa [AObj.ren, subOK] using h
theorem ptOK.ren {f : Nat → Nat} {ob : AObj} {lo : Option Loc} {v r off : Nat} {c : Value} (h : ptOK ob lo v r off c) : ptOK (ob.ren f) lo v r off c := by
  cases ob with
  | none => trivial
  | var cs => exact h
  | xo k cs => exact h
  | buf t v l => exact h
  | arr v' sz rows => simpa [AObj.ren, ptOK] using h

theorem VR.ren {e e' : Env} {f : Nat → Nat} {p : Nat → Prop} (hi : ∀ b, e.Im b → e'.Im b) (hw : ∀ b, e.Im b → e'.w.heap[b]? = e.w.heap[b]?)
    (hH : ∀ o ob, p o → e.H[o]? = some ob → e'.H[f o]? = some (ob.ren f)) (hρ : ∀ o lo, p o → e.ρ[o]? = some lo → e'.ρ[f o]? = some lo) {x : RV} {c : Value} (h : VR e x c) : RV.dom p x → VR e' (RV.ren f x) c := by
  induction h with
  | v h => intro _; simp only [RV.ren]; exact .v (h.mono hi hw)
  | os ob lo h1 h2 h h1c => intro hp; simp only [RV.dom] at hp; simp only [RV.ren]; exact .os _ _ (hH _ _ hp h1) (hρ _ _ hp h2) h.ren h1c
  | sub ob lo h1 h2 h h1c => intro hp; simp only [RV.dom] at hp; simp only [RV.ren]; exact .sub _ _ (hH _ _ hp h1) (hρ _ _ hp h2) h.ren h1c
  | pt ob lo h1 h2 h h1c => intro hp; simp only [RV.dom] at hp; simp only [RV.ren]; exact .pt _ _ (hH _ _ hp h1) (hρ _ _ hp h2) h.ren h1c
  | fr hn _ ih =>
    intro hp; simp only [RV.dom] at hp; simp only [RV.ren]
    refine .fr (by simpa using hn) fun j a c ha hc => ?_
    obtain ⟨x, hx, rfl⟩ := renL_get ha
    exact ih j x c hx hc (domL_get hp hx)
  | bf hn _ ih =>
    intro hp; simp only [RV.dom] at hp; simp only [RV.ren]
    refine .bf (by simpa using hn) fun j a c ha hc => ?_
    obtain ⟨x, hx, rfl⟩ := renL_get ha
    exact ih j x c hx hc (domL_get hp hx)
  | tr hn _ ih =>
    intro hp; simp only [RV.dom] at hp; simp only [RV.ren]
    refine .tr (by simpa using hn) fun j a c ha hc => ?_
    obtain ⟨x, hx, rfl⟩ := renL_get ha
    exact ih j x c hx hc (domL_get hp hx)
  | gr hn h1 _ ih =>
    intro hp; simp only [RV.dom] at hp; simp only [RV.ren]
    refine .gr (by simpa using hn) h1 fun j a c ha hc => ?_
    obtain ⟨x, hx, rfl⟩ := renL_get ha
    exact ih j x c hx hc (domL_get hp hx)
  | any => intro _; simp only [RV.ren]; exact .any
  | bo => intro _; simp only [RV.ren]; exact .bo
  | cnd _ h' ih => intro hp; simp only [RV.dom] at hp; simp only [RV.ren]; exact .cnd (fun t => ih t hp) h'
  | yl _ => intro hp; simp only [RV.dom] at hp

theorem ObjR.ren {e e' : Env} {f : Nat → Nat} {p : Nat → Prop} {ob : AObj} {lo : Option Loc} (hb : ∀ l, lo = some l → e'.w.heap[l.blk]? = e.w.heap[l.blk]?) (hv : ∀ x c, VR e x c → RV.dom p x → VR e' (RV.ren f x) c)
    (h : ObjR e ob lo) (hd : ob.dom p) : ObjR e' (ob.ren f) lo := by
  cases ob with
  | none => trivial
  | var cs =>
    simp only [AObj.dom] at hd
    obtain ⟨l, rfl, h⟩ := h
    refine ⟨l, rfl, fun j x hx => ?_⟩
    obtain ⟨x', hx', rfl⟩ := renL_get hx
    obtain ⟨c, h1, h2, h3, h4⟩ := h j x' hx'
    exact ⟨c, by rw [cell_eq (hb l rfl)]; exact h1, by rw [frozen_eq (hb l rfl)]; exact h2, h3, hv _ _ h4 (domL_get hd hx')⟩
  | xo k cs =>
    simp only [AObj.dom] at hd
    obtain ⟨l, vs, ob, rfl, h1, h2, h3, h4⟩ := h
    refine ⟨l, vs, ob, rfl, by simpa using h1, h2, by rw [hb l rfl]; exact h3, fun j x c hx hc => ?_⟩
    obtain ⟨x', hx', rfl⟩ := renL_get hx
    exact hv _ _ (h4 j x' c hx' hc) (domL_get hd hx')
  | buf t v l =>
    cases lo with
    | none => exact h
    | some q =>
      obtain ⟨h0, cur, h1, h2⟩ := h
      exact ⟨h0, cur, by rw [hb q rfl]; exact h1, h2⟩
  | arr v sz rows =>
    simp only [AObj.dom] at hd
    obtain ⟨hs, h⟩ := h
    refine ⟨fun row hr => ?_, ?_⟩
    · obtain ⟨r0, hr0, rfl⟩ := List.mem_map.1 hr
      simpa using hs r0 hr0
    · cases lo with
      | none => simp only at h ⊢; subst h; rfl
      | some l =>
        obtain ⟨h1, h2, h3⟩ := h
        refine ⟨by simpa using h1, fun k hk => ?_, fun r row j x hr hx => ?_⟩
        · obtain ⟨c, h1, h2⟩ := h2 k hk
          exact ⟨c, by rw [cell_eq (hb l rfl)]; exact h1, by rw [barred_eq (hb l rfl)]; exact h2⟩
        · rw [List.getElem?_map, Option.map_eq_some_iff] at hr
          obtain ⟨r0, hr0, rfl⟩ := hr
          obtain ⟨x', hx', rfl⟩ := renL_get hx
          obtain ⟨c, h1, h2, h3⟩ := h3 r r0 j x' hr0 hx'
          exact ⟨c, by rw [cell_eq (hb l rfl)]; exact h1, h2, hv _ _ h3 (domL_get (hd r0 (List.mem_of_getElem? hr0)) hx')⟩

theorem VR.renA {e e' : Env} {f : Nat → Nat} (hi : ∀ b, e.Im b → e'.Im b) (hw : ∀ b, e.Im b → e'.w.heap[b]? = e.w.heap[b]?)
    (hH : ∀ o ob, e.H[o]? = some ob → e'.H[f o]? = some (ob.ren f)) (hρ : ∀ o lo, e.ρ[o]? = some lo → e'.ρ[f o]? = some lo) {x : RV} {c : Value} (h : VR e x c) : VR e' (RV.ren f x) c := by
  induction h with
  | v h => simp only [RV.ren]; exact .v (h.mono hi hw)
  | os ob lo h1 h2 h h1c => simp only [RV.ren]; exact .os _ _ (hH _ _ h1) (hρ _ _ h2) h.ren h1c
  | sub ob lo h1 h2 h h1c => simp only [RV.ren]; exact .sub _ _ (hH _ _ h1) (hρ _ _ h2) h.ren h1c
  | pt ob lo h1 h2 h h1c => simp only [RV.ren]; exact .pt _ _ (hH _ _ h1) (hρ _ _ h2) h.ren h1c
  | fr hn _ ih =>
    simp only [RV.ren]
    refine .fr (by simpa using hn) fun j a c ha hc => ?_
    obtain ⟨x, hx, rfl⟩ := renL_get ha
    exact ih j x c hx hc
  | bf hn _ ih =>
    simp only [RV.ren]
    refine .bf (by simpa using hn) fun j a c ha hc => ?_
    obtain ⟨x, hx, rfl⟩ := renL_get ha
    exact ih j x c hx hc
  | tr hn _ ih =>
    simp only [RV.ren]
    refine .tr (by simpa using hn) fun j a c ha hc => ?_
    obtain ⟨x, hx, rfl⟩ := renL_get ha
    exact ih j x c hx hc
  | gr hn h1 _ ih =>
    simp only [RV.ren]
    refine .gr (by simpa using hn) h1 fun j a c ha hc => ?_
    obtain ⟨x, hx, rfl⟩ := renL_get ha
    exact ih j x c hx hc
  | any => simp only [RV.ren]; exact .any
  | bo => simp only [RV.ren]; exact .bo
  | cnd _ h' ih => simp only [RV.ren]; exact .cnd (fun t => ih t) h'
  | yl _ => simp only [RV.ren]; exact .any

theorem ObjR.renA {e e' : Env} {f : Nat → Nat} {ob : AObj} {lo : Option Loc} (hb : ∀ l, lo = some l → e'.w.heap[l.blk]? = e.w.heap[l.blk]?) (hv : ∀ x c, VR e x c → VR e' (RV.ren f x) c)
    (h : ObjR e ob lo) : ObjR e' (ob.ren f) lo := by
  cases ob with
  | none => trivial
  | var cs =>
    obtain ⟨l, rfl, h⟩ := h
    refine ⟨l, rfl, fun j x hx => ?_⟩
    obtain ⟨x', hx', rfl⟩ := renL_get hx
    obtain ⟨c, h1, h2, h3, h4⟩ := h j x' hx'
    exact ⟨c, by rw [cell_eq (hb l rfl)]; exact h1, by rw [frozen_eq (hb l rfl)]; exact h2, h3, hv _ _ h4⟩
  | xo k cs =>
    obtain ⟨l, vs, ob, rfl, h1, h2, h3, h4⟩ := h
    refine ⟨l, vs, ob, rfl, by simpa using h1, h2, by rw [hb l rfl]; exact h3, fun j x c hx hc => ?_⟩
    obtain ⟨x', hx', rfl⟩ := renL_get hx
    exact hv _ _ (h4 j x' c hx' hc)
  | buf t v l =>
    cases lo with
    | none => exact h
    | some q =>
      obtain ⟨h0, cur, h1, h2⟩ := h
      exact ⟨h0, cur, by rw [hb q rfl]; exact h1, h2⟩
  | arr v sz rows =>
    obtain ⟨hs, h⟩ := h
    refine ⟨fun row hr => ?_, ?_⟩
    · obtain ⟨r0, hr0, rfl⟩ := List.mem_map.1 hr
      simpa using hs r0 hr0
    · cases lo with
      | none => simp only at h ⊢; subst h; rfl
      | some l =>
        obtain ⟨h1, h2, h3⟩ := h
        refine ⟨by simpa using h1, fun k hk => ?_, fun r row j x hr hx => ?_⟩
        · obtain ⟨c, h1, h2⟩ := h2 k hk
          exact ⟨c, by rw [cell_eq (hb l rfl)]; exact h1, by rw [barred_eq (hb l rfl)]; exact h2⟩
        · rw [List.getElem?_map, Option.map_eq_some_iff] at hr
          obtain ⟨r0, hr0, rfl⟩ := hr
          obtain ⟨x', hx', rfl⟩ := renL_get hx
          obtain ⟨c, h1, h2, h3⟩ := h3 r r0 j x' hr0 hx'
          exact ⟨c, by rw [cell_eq (hb l rfl)]; exact h1, h2, hv _ _ h3⟩

theorem Nxt.ren {f : Nat → Nat} {ob ob' : AObj} {lo lo' : Option Loc} (h : Nxt ob lo ob' lo') : Nxt ob lo (ob'.ren f) lo' := by
  cases ob' with
  | none => trivial
  | var cs => exact h
  | xo k cs => exact h
  | buf t v l => exact h
  | arr v sz rows =>
    obtain ⟨v0, sz0, rows0, rfl, h⟩ := h
    exact ⟨v0, sz0, rows0, rfl, by simpa using h⟩

theorem view_ok {e0 e : Env} (g : Good e) (mv : Mv e0 e) (f : Nat → Nat) (p : Nat → Prop) (H' : List AObj) (ρ' : List (Option Loc)) (hl : ρ'.length = H'.length)
    (hH : ∀ o ob, p o → e.H[o]? = some ob → H'[f o]? = some (ob.ren f)) (hρ : ∀ o lo, p o → e.ρ[o]? = some lo → ρ'[f o]? = some lo)
    (hs : ∀ k ob lo, H'[k]? = some ob → ρ'[k]? = some lo → ∃ o ob0, p o ∧ f o = k ∧ e.H[o]? = some ob0 ∧ ob = ob0.ren f ∧ ob0.dom p ∧ e.ρ[o]? = some lo)
    (hid : ∀ o, o < e0.H.length → p o ∧ f o = o) : Good ⟨e.w, e.Im, ρ', H'⟩ ∧ Mv e0 ⟨e.w, e.Im, ρ', H'⟩ ∧ ∀ x c, VR e x c → RV.dom p x → VR ⟨e.w, e.Im, ρ', H'⟩ (RV.ren f x) c := by
  have hv : ∀ x c, VR e x c → RV.dom p x → VR ⟨e.w, e.Im, ρ', H'⟩ (RV.ren f x) c := fun x c h hp => VR.ren (e := e) (e' := ⟨e.w, e.Im, ρ', H'⟩) (fun _ h => h) (fun _ _ => rfl) hH hρ h hp
  have hs' : ∀ k lo, ρ'[k]? = some lo → ∃ o, f o = k ∧ e.ρ[o]? = some lo := fun k lo hk => by
    have hkl : k < H'.length := by rw [← hl]; exact (List.getElem?_eq_some_iff.1 hk).1
    obtain ⟨o, _, _, h1, _, _, _, h2⟩ := hs k _ lo (List.getElem?_eq_getElem hkl) hk
    exact ⟨o, h1, h2⟩
  refine ⟨⟨hl, ?_, ?_, ?_, g.imlt, ?_⟩, ?_, hv⟩
  · intro k k' l l' hk hk' hne
    obtain ⟨o, rfl, h1⟩ := hs' k _ hk
    obtain ⟨o', rfl, h2⟩ := hs' k' _ hk'
    exact g.inj o o' l l' h1 h2 (fun h => hne (by rw [h]))
  · intro k l hk
    obtain ⟨o, _, h1⟩ := hs' k _ hk
    exact g.dis o l h1
  · intro k l hk
    obtain ⟨o, _, h1⟩ := hs' k _ hk
    exact g.lt o l h1
  · intro k ob lo hk hk'
    obtain ⟨o, ob0, _, _, h1, rfl, hd, h2⟩ := hs k ob lo hk hk'
    exact ObjR.ren (e := e) (fun _ _ => rfl) hv (g.obj o ob0 lo h1 h2) hd
  · refine ⟨mv.os, mv.tape, mv.output, mv.size, mv.same, mv.im, mv.imw, mv.imn, ?_, ?_⟩
    · intro o ob lo h1 h2
      obtain ⟨ob', lo', h3, h4, h5⟩ := mv.nx o ob lo h1 h2
      obtain ⟨k1, k2⟩ := hid o (List.getElem?_eq_some_iff.1 h1).1
      have a1 := hH o ob' k1 h3
      have a2 := hρ o lo' k1 h4
      rw [k2] at a1 a2
      exact ⟨_, _, a1, a2, h5.ren⟩
    · rintro b ⟨k, l, hk, rfl⟩
      obtain ⟨o, _, h1⟩ := hs' k _ hk
      exact mv.ownn _ ⟨o, l, h1, rfl⟩

def lowH (n : Nat) (H : List AObj) : Prop := ∀ ob ∈ H, ob.dom (· < n)
@[simp] theorem lowH_nil (n : Nat) : lowH n [] := fun ob h => by simp at h
@[simp] theorem lowH_cons (n : Nat) (ob : AObj) (H : List AObj) : lowH n (ob :: H) ↔ ob.dom (· < n) ∧ lowH n H := by simp [lowH]
def frLow (n : Nat) (fr : List (Nat × RV)) : Prop := ∀ p ∈ fr, RV.dom (· < n) p.2
@[simp] theorem frLow_nil (n : Nat) : frLow n [] := fun p h => by simp at h
@[simp] theorem frLow_cons (n : Nat) (p : Nat × RV) (fr : List (Nat × RV)) : frLow n (p :: fr) ↔ RV.dom (· < n) p.2 ∧ frLow n fr := by simp [frLow]
end Go.Av
