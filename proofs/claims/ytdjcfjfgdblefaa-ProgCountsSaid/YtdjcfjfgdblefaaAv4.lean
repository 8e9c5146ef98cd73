/- Objects of one's own: made, written, handed on. No condition. -/
import Derived.Test.YtdjcfjfgdblefaaAv3z
import Derived.Laws.World
set_option linter.constructorNameAsVariable false
namespace Go.Av
open Go Go.RowKit
set_option linter.unusedSimpArgs false
set_option linter.unusedVariables false

theorem frozen_eq {w w' : World} {b : Nat} (h : w'.heap[b]? = w.heap[b]?) (o : Nat) : w'.frozen? ⟨b, o, none⟩ = w.frozen? ⟨b, o, none⟩ := by
  simp only [World.frozen?, h]

/-- An object lies as it lay where its block does, and what it holds reads as it did. -/
theorem ObjR.keep {e e' : Env} {ob : AObj} {lo : Option Loc} (h : ObjR e ob lo) (hb : ∀ l, lo = some l → e'.w.heap[l.blk]? = e.w.heap[l.blk]?) (mv : Mv e e') : ObjR e' ob lo := by
  cases ob with
  | none => trivial
  | var cs =>
    obtain ⟨l, rfl, h⟩ := h
    refine ⟨l, rfl, fun j x hx => ?_⟩
    obtain ⟨c, h1, h2, h3, h4⟩ := h j x hx
    exact ⟨c, by rw [cell_eq (hb l rfl)]; exact h1, by rw [frozen_eq (hb l rfl)]; exact h2, h3, mv.vr h4⟩
  | arr v sz rows =>
    obtain ⟨hs, h⟩ := h
    refine ⟨hs, ?_⟩
    cases lo with
    | none => exact h
    | some l =>
      obtain ⟨h1, h2, h3⟩ := h
      refine ⟨h1, fun k hk => ?_, fun r row j x hr hx => ?_⟩
      · obtain ⟨c, h1, h2⟩ := h2 k hk
        exact ⟨c, by rw [cell_eq (hb l rfl)]; exact h1, by rw [frozen_eq (hb l rfl)]; exact h2⟩
      · obtain ⟨c, h1, h2, h3⟩ := h3 r row j x hr hx
        exact ⟨c, by rw [cell_eq (hb l rfl)]; exact h1, h2, mv.vr h3⟩

theorem get_append {α : Type} {l : List α} {x y : α} {o : Nat} (h : (l ++ [x])[o]? = some y) : l[o]? = some y ∨ (o = l.length ∧ y = x) := by
  rcases Nat.lt_trichotomy o l.length with hlt | rfl | hgt
  · rw [List.getElem?_append_left hlt] at h; exact .inl h
  · simp at h; exact .inr ⟨rfl, h.symm⟩
  · rw [List.getElem?_eq_none (by simp; omega)] at h; cases h

theorem nx_append (H : List AObj) (ρ : List (Option Loc)) (ob : AObj) (lo : Option Loc) : Nx H ρ (H ++ [ob]) (ρ ++ [lo]) := fun o x y h1 h2 =>
  ⟨x, y, by rw [List.getElem?_append_left (List.getElem?_eq_some_iff.1 h1).1]; exact h1, by rw [List.getElem?_append_left (List.getElem?_eq_some_iff.1 h2).1]; exact h2, .refl _ _⟩

/-- **A NEW OBJECT**, at the heap's end. -/
theorem push_ok {e : Env} (g : Good e) (w' : World) (ob : AObj) (lo : Option Loc)
    (h1 : w'.os = e.w.os) (h2 : w'.tape = e.w.tape) (h3 : w'.output = e.w.output) (h4 : e.w.heap.size ≤ w'.heap.size) (h5 : ∀ b, b < e.w.heap.size → w'.heap[b]? = e.w.heap[b]?)
    (h6 : ∀ l, lo = some l → e.w.heap.size ≤ l.blk ∧ l.blk < w'.heap.size)
    (h7 : ∀ e' : Env, e'.w = w' → Mv e e' → ObjR e' ob lo) :
    Good ⟨w', e.Im, e.ρ ++ [lo], e.H ++ [ob]⟩ ∧ Mv e ⟨w', e.Im, e.ρ ++ [lo], e.H ++ [ob]⟩ := by
  have mv : Mv e ⟨w', e.Im, e.ρ ++ [lo], e.H ++ [ob]⟩ := by
    refine ⟨h1, h2, h3, h4, fun b hb _ => h5 b hb, fun _ h => h, fun b hb => h5 b (g.imlt b hb), fun b h => .inl h, nx_append _ _ _ _, fun b h => ?_⟩
    obtain ⟨o, l, ho, rfl⟩ := h
    rcases get_append ho with ho | ⟨_, hl⟩
    · exact .inl ⟨o, l, ho, rfl⟩
    · exact .inr (h6 l hl.symm).1
  refine ⟨⟨by simp [g.len], ?_, ?_, ?_, ?_, ?_⟩, mv⟩
  · intro o o' l l' ho ho' hne
    rcases get_append ho with ho | ⟨rfl, hl⟩ <;> rcases get_append ho' with ho' | ⟨rfl, hl'⟩
    · exact g.inj o o' l l' ho ho' hne
    · have := g.lt o l ho; have := (h6 l' hl'.symm).1; omega
    · have := g.lt o' l' ho'; have := (h6 l hl.symm).1; omega
    · exact absurd rfl hne
  · intro o l ho
    rcases get_append ho with ho | ⟨rfl, hl⟩
    · exact g.dis o l ho
    · intro hi; have := g.imlt _ hi; have := (h6 l hl.symm).1; omega
  · intro o l ho
    rcases get_append ho with ho | ⟨rfl, hl⟩
    · exact Nat.lt_of_lt_of_le (g.lt o l ho) h4
    · exact (h6 l hl.symm).2
  · intro b hb; exact Nat.lt_of_lt_of_le (g.imlt b hb) h4
  · intro o x y hx hy
    rcases get_append hx with hx1 | ⟨h8, rfl⟩
    · rcases get_append hy with hy1 | ⟨h9, rfl⟩
      · exact (g.obj o x y hx1 hy1).keep (fun l hl => h5 _ (g.lt o l (by rw [hy1, hl]))) mv
      · have := (List.getElem?_eq_some_iff.1 hx1).1; have := g.len; omega
    · rcases get_append hy with hy1 | ⟨_, rfl⟩
      · have := (List.getElem?_eq_some_iff.1 hy1).1; have := g.len; omega
      · exact h7 _ rfl mv

theorem alloc_same {w : World} {o : Obj} {b : Nat} (h : b < w.heap.size) : (w.alloc o).heap[b]? = w.heap[b]? := Below.heap_alloc w o b h

theorem alloc_cell (w : World) (vs : Array Value) (ty : TypeId) (j : Nat) : (w.alloc (.cells vs ty)).cell? ⟨w.heap.size, j, none⟩ = vs[j]? := by simp
theorem alloc_frozen (w : World) (vs : Array Value) (ty : TypeId) (j : Nat) : (w.alloc (.cells vs ty)).frozen? ⟨w.heap.size, j, none⟩ = false := by simp

/-- A new variable. -/
theorem new_var {e : Env} (g : Good e) (ty : TypeId) (vs : Array Value) (cs : List RV) (hn : vs.size = cs.length) (h1 : ∀ (j : Nat) c, vs[j]? = some c → c.oneCell' = true) (h : ∀ (j : Nat) x y, cs[j]? = some x → vs[j]? = some y → VR e x y) :
    ∃ e' : Env, e'.w = e.w.alloc (.cells vs ty) ∧ e'.H = e.H ++ [.var cs] ∧ Good e' ∧ Mv e e' ∧ VR e' (.pt e.H.length 0 0 0) (.pointer (some ⟨e.w.heap.size, 0, none⟩)) := by
  have hp := push_ok g (e.w.alloc (.cells vs ty)) (.var cs) (some ⟨e.w.heap.size, 0, vs.size⟩) rfl rfl rfl (by simp) (fun b hb => alloc_same hb) (fun l hl => by cases hl; simp) (fun e' he mv => by
    refine ⟨_, rfl, fun j x hx => ?_⟩
    have hj : j < cs.length := (List.getElem?_eq_some_iff.1 hx).1
    obtain ⟨y, hy⟩ := array_get hn hj
    refine ⟨y, ?_, ?_, h1 j y hy, mv.vr (h j x y hx hy)⟩
    · rw [he, Nat.zero_add, alloc_cell, hy]
    · rw [he, Nat.zero_add, alloc_frozen])
  refine ⟨_, rfl, rfl, hp.1, hp.2, ?_⟩
  refine .pt (.var cs) (some ⟨e.w.heap.size, 0, vs.size⟩) (by simp) (by simp [← g.len]) ⟨rfl, _, rfl, rfl⟩ rfl

theorem set_get {α : Type} {l : List α} {i j : Nat} {x y : α} (h : (l.set i x)[j]? = some y) : (i = j ∧ y = x) ∨ (i ≠ j ∧ l[j]? = some y) := by
  rw [List.getElem?_set] at h
  split at h
  · rename_i hij
    split at h
    · exact .inl ⟨hij, by cases h; rfl⟩
    · cases h
  · rename_i hij; exact .inr ⟨hij, h⟩

/-- **AN OBJECT IS WRITTEN WHERE IT LIES.** -/
theorem write_ok {e : Env} (g : Good e) (w' : World) {o : Nat} {ob ob' : AObj} {l : Loc} (ho : e.H[o]? = some ob) (hl : e.ρ[o]? = some (some l))
    (h1 : w'.os = e.w.os) (h2 : w'.tape = e.w.tape) (h3 : w'.output = e.w.output) (h4 : w'.heap.size = e.w.heap.size) (h5 : ∀ b, b ≠ l.blk → w'.heap[b]? = e.w.heap[b]?)
    (hn : Nxt ob (some l) ob' (some l)) (h7 : ∀ e' : Env, e'.w = w' → Mv e e' → ObjR e' ob' (some l)) :
    Good ⟨w', e.Im, e.ρ, e.H.set o ob'⟩ ∧ Mv e ⟨w', e.Im, e.ρ, e.H.set o ob'⟩ := by
  have hlt : o < e.H.length := (List.getElem?_eq_some_iff.1 ho).1
  have mv : Mv e ⟨w', e.Im, e.ρ, e.H.set o ob'⟩ := by
    refine ⟨h1, h2, h3, by simp [h4], fun b _ hb => h5 b (fun hc => hb ⟨o, l, hl, hc.symm⟩), fun _ h => h, fun b hb => h5 b (fun hc => g.dis o l hl (hc ▸ hb)), fun b h => .inl h, ?_, fun b h => .inl h⟩
    intro k x y hx hy
    by_cases hk : o = k
    · subst hk
      rw [ho] at hx; cases hx
      rw [hl] at hy; cases hy
      exact ⟨ob', _, by simp [hlt], hl, hn⟩
    · exact ⟨x, y, by simp [List.getElem?_set, hk, hx], hy, .refl _ _⟩
  refine ⟨⟨by simp [g.len], g.inj, g.dis, fun o l ho => by simpa [h4] using g.lt o l ho, fun b hb => by simpa [h4] using g.imlt b hb, ?_⟩, mv⟩
  intro k x y hx hy
  rcases set_get hx with ⟨rfl, rfl⟩ | ⟨hk, hx⟩
  · have : some y = some (some l) := by rw [← hl, ← hy]
    cases this
    exact h7 _ rfl mv
  · refine (g.obj k x y hx hy).keep (fun l' hl' => h5 _ ?_) mv
    subst hl'
    exact g.inj k o l' l hy hl (fun hc => hk hc.symm)

theorem setCell_heap (w : World) (a : Addr) (v : Value) (b : Nat) (h : b ≠ a.block) : (w.setCell a v).heap[b]? = w.heap[b]? := Below.heap_setCell w a v b h

/-- What a store does to the cells of its block. -/
theorem setCell_cell {w : World} {b i : Nat} {u v : Value} (h : w.cell? ⟨b, i, none⟩ = some u) (j : Nat) :
    (w.setCell ⟨b, i, none⟩ v).cell? ⟨b, j, none⟩ = if i = j then some v else w.cell? ⟨b, j, none⟩ := by
  by_cases hij : i = j
  · subst hij; rw [if_pos rfl]; exact World.cell?_setCell_same w _ v h
  · rw [if_neg hij]; exact World.cell?_setCell_other w _ _ v (by simp [hij])

/-- One cell of a variable. -/
theorem set_var {e : Env} (g : Good e) {o j : Nat} {cs : List RV} {l : Loc} {x : RV} {c : Value} (ho : e.H[o]? = some (.var cs)) (hl : e.ρ[o]? = some (some l)) (hj : j < cs.length) (hx : VR e x c) (hc : c.oneCell' = true) :
    ∃ e' : Env, e'.w = e.w.setCell ⟨l.blk, l.off + j, none⟩ c ∧ e'.H = e.H.set o (.var (cs.set j x)) ∧ e'.ρ = e.ρ ∧ Good e' ∧ Mv e e' := by
  obtain ⟨l', hl', hcell⟩ := g.obj o _ _ ho hl
  cases hl'
  obtain ⟨u, hu, hfu, _, _⟩ := hcell j _ (list_get hj .any)
  have hp := write_ok g (e.w.setCell ⟨l.blk, l.off + j, none⟩ c) (ob' := .var (cs.set j x)) ho hl rfl rfl rfl (by simp) (fun b hb => setCell_heap _ _ _ _ hb) ⟨rfl, cs, rfl⟩ (fun e' he mv => by
    refine ⟨l, rfl, fun k y hy => ?_⟩
    rw [he, setCell_cell hu, World.frozen?_setCell]
    rcases set_get hy with ⟨rfl, rfl⟩ | ⟨hk, hy⟩
    · exact ⟨c, by simp, hfu, hc, mv.vr hx⟩
    · obtain ⟨d, h1, h2, h3, h4⟩ := hcell k y hy
      exact ⟨d, by rw [if_neg (by omega)]; exact h1, h2, h3, mv.vr h4⟩)
  exact ⟨⟨_, _, _, _⟩, rfl, rfl, rfl, hp.1, hp.2⟩

/-- One cell of an array's row. -/
theorem set_arr {e : Env} (g : Good e) {o r j v sz : Nat} {rows : List (List RV)} {l : Loc} {x : RV} {c : Value} (ho : e.H[o]? = some (.arr v sz rows)) (hl : e.ρ[o]? = some (some l)) (hr : r < rows.length) (hj : j < (rows.getD r []).length)
    (hx : VR e x c) (hc : c.oneCell' = true) :
    ∃ e' : Env, e'.w = e.w.setCell ⟨l.blk, l.off + r * sz + j, none⟩ c ∧ e'.H = e.H.set o (.arr v sz (rows.set r ((rows.getD r []).set j x))) ∧ e'.ρ = e.ρ ∧ Good e' ∧ Mv e e' := by
  obtain ⟨hs, hcap, hroom, hcell⟩ := g.obj o _ _ ho hl
  have hrow := list_get hr []
  obtain ⟨u, hu, _, _⟩ := hcell r _ j _ hrow (list_get hj .any)
  have hsz : (rows.getD r []).length = sz := hs _ (List.mem_of_getElem? hrow)
  have hp := write_ok g (e.w.setCell ⟨l.blk, l.off + r * sz + j, none⟩ c) (ob' := .arr v sz (rows.set r ((rows.getD r []).set j x))) ho hl rfl rfl rfl (by simp) (fun b hb => setCell_heap _ _ _ _ hb)
    ⟨v, sz, rows, rfl, .inr ⟨rfl, rfl, by simp, rfl⟩⟩ (fun e' he mv => by
    refine ⟨fun row hm => ?_, by simpa using hcap, fun k hk => ?_, fun r' row k y hr' hy => ?_⟩
    · rcases List.mem_or_eq_of_mem_set hm with hm | rfl
      · exact hs row hm
      · simpa using hsz
    · obtain ⟨d, h1, h2⟩ := hroom k hk
      rw [he, setCell_cell hu, World.frozen?_setCell]
      by_cases hkk : l.off + r * sz + j = l.off + k
      · exact ⟨c, by rw [if_pos hkk], h2⟩
      · exact ⟨d, by rw [if_neg hkk]; exact h1, h2⟩
    · have hx' := mv.vr hx
      rw [he, setCell_cell hu]
      have hlen : ∀ (r' : Nat) row, (rows.set r ((rows.getD r []).set j x))[r']? = some row → row.length = sz := fun r' row hm => by
        rcases set_get hm with ⟨_, rfl⟩ | ⟨_, hm⟩
        · simpa using hsz
        · exact hs _ (List.mem_of_getElem? hm)
      have hkl : k < sz := by rw [← hlen r' row hr']; exact (List.getElem?_eq_some_iff.1 hy).1
      rcases set_get hr' with ⟨rfl, rfl⟩ | ⟨hrr, hr'⟩
      · rcases set_get hy with ⟨rfl, rfl⟩ | ⟨hk, hy⟩
        · exact ⟨c, by simp, hc, hx'⟩
        · obtain ⟨d, h1, h2, h3⟩ := hcell r _ k y hrow hy
          have h3' := mv.vr h3
          exact ⟨d, by rw [if_neg (by omega)]; exact h1, h2, h3'⟩
      · obtain ⟨d, h1, h2, h3⟩ := hcell r' row k y hr' hy
        have h3' := mv.vr h3
        refine ⟨d, ?_, h2, h3'⟩
        rw [if_neg, h1]
        intro hc
        have h1 : r * sz + j = r' * sz + k := by omega
        have hj' : j < sz := by rw [← hsz]; exact hj
        rcases Nat.lt_or_gt_of_ne hrr with hlt | hgt
        · have : (r + 1) * sz ≤ r' * sz := Nat.mul_le_mul_right _ hlt
          rw [Nat.add_mul] at this; omega
        · have : (r' + 1) * sz ≤ r * sz := Nat.mul_le_mul_right _ hgt
          rw [Nat.add_mul] at this; omega)
  exact ⟨⟨_, _, _, _⟩, rfl, rfl, rfl, hp.1, hp.2⟩

end Go.Av
