/- Objects of one's own: made, written, handed on. No condition. -/
import Derived.Test.YtgipkikbefnokaaDoorXAv3z
import Derived.Laws.World
import Derived.Laws.AppendOwn
import Derived.Laws.IdiomCopy
import Derived.Laws.MakeOwn
import Derived.Test.YtgipkikbefnokaaDoorXAv3b
import Derived.Test.YtgipkikbefnokaaDoorXAvEq
import Derived.Laws.IdiomRangeMap
set_option linter.constructorNameAsVariable false
namespace Go.Av
open Go Go.RowKit
set_option linter.unusedSimpArgs false
set_option linter.unusedVariables false

theorem frozen_eq {w w' : World} {b : Nat} (h : w'.heap[b]? = w.heap[b]?) (o : Nat) : w'.frozen? ⟨b, o, none⟩ = w.frozen? ⟨b, o, none⟩ := by
  simp only [World.frozen?, h]

theorem barred_eq {w w' : World} {b : Nat} (h : w'.heap[b]? = w.heap[b]?) (o : Nat) : barred w' ⟨b, o, none⟩ = barred w ⟨b, o, none⟩ := by
  simp only [barred, World.frozen?, h]
theorem barred_set (w : World) (a b : Addr) (v : Value) : barred (w.setCell b v) a = barred w a := by
  simp only [barred, World.frozen?_setCell]
  congr 1
  unfold World.setCell
  simp only [Array.getElem?_modify]
  by_cases h : b.block = a.block
  · rw [if_pos h]
    cases w.heap[a.block]? with
    | none => rfl
    | some x => cases x <;> rfl
  · rw [if_neg h]

theorem ObjR.keepV {e e' : Env} {ob : AObj} {lo : Option Loc} (h : ObjR e ob lo) (hb : ∀ l, lo = some l → e'.w.heap[l.blk]? = e.w.heap[l.blk]?) (hv : ∀ {x : RV} {c : Value}, VR e x c → VR e' x c) : ObjR e' ob lo := by
  cases ob with
  | none => trivial
  | var cs =>
    obtain ⟨l, rfl, h⟩ := h
    refine ⟨l, rfl, fun j x hx => ?_⟩
    obtain ⟨c, h1, h2, h3, h4⟩ := h j x hx
    exact ⟨c, by rw [cell_eq (hb l rfl)]; exact h1, by rw [frozen_eq (hb l rfl)]; exact h2, h3, hv h4⟩
  | xo k cs =>
    obtain ⟨l, vs, ob, rfl, h1, h2, h3, h4⟩ := h
    exact ⟨l, vs, ob, rfl, h1, h2, by rw [hb l rfl]; exact h3, fun j x c hx hc => hv (h4 j x c hx hc)⟩
  | buf t v l =>
    cases lo with
    | none => exact h
    | some q =>
      obtain ⟨h0, cur, h1, h2⟩ := h
      exact ⟨h0, cur, by rw [hb q rfl]; exact h1, h2⟩
  | arr v sz rows =>
    obtain ⟨hs, h⟩ := h
    refine ⟨hs, ?_⟩
    cases lo with
    | none => exact h
    | some l =>
      obtain ⟨h1, h2, h3⟩ := h
      refine ⟨h1, fun k hk => ?_, fun r row j x hr hx => ?_⟩
      · obtain ⟨c, h1, h2⟩ := h2 k hk
        exact ⟨c, by rw [cell_eq (hb l rfl)]; exact h1, by rw [barred_eq (hb l rfl)]; exact h2⟩
      · obtain ⟨c, h1, h2, h3⟩ := h3 r row j x hr hx
        exact ⟨c, by rw [cell_eq (hb l rfl)]; exact h1, h2, hv h3⟩
theorem ObjR.keep {e e' : Env} {ob : AObj} {lo : Option Loc} (h : ObjR e ob lo) (hb : ∀ l, lo = some l → e'.w.heap[l.blk]? = e.w.heap[l.blk]?) (mv : Mv e e') : ObjR e' ob lo := h.keepV hb mv.vr

theorem get_append {α : Type} {l : List α} {x y : α} {o : Nat} (h : (l ++ [x])[o]? = some y) : l[o]? = some y ∨ (o = l.length ∧ y = x) := by
  rcases Nat.lt_trichotomy o l.length with hlt | rfl | hgt
  · rw [List.getElem?_append_left hlt] at h; exact .inl h
  · simp at h; exact .inr ⟨rfl, h.symm⟩
  · rw [List.getElem?_eq_none (by simp; omega)] at h; cases h

theorem nx_append (H : List AObj) (ρ : List (Option Loc)) (ob : AObj) (lo : Option Loc) : Nx H ρ (H ++ [ob]) (ρ ++ [lo]) := fun o x y h1 h2 =>
  ⟨x, y, by rw [List.getElem?_append_left (List.getElem?_eq_some_iff.1 h1).1]; exact h1, by rw [List.getElem?_append_left (List.getElem?_eq_some_iff.1 h2).1]; exact h2, .refl _ _⟩

theorem push_ok {e : Env} (g : Good e) (w' : World) (ob : AObj) (lo : Option Loc)
    (h1 : w'.os = e.w.os) (h2 : w'.tape = e.w.tape) (h3 : OutW e.w w') (h4 : e.w.heap.size ≤ w'.heap.size) (h5 : ∀ b, b < e.w.heap.size → w'.heap[b]? = e.w.heap[b]?)
    (h6 : ∀ l, lo = some l → e.w.heap.size ≤ l.blk ∧ l.blk < w'.heap.size)
    (h7 : ∀ e' : Env, e'.w = w' → Mv e e' → ObjR e' ob lo) :
    Good ⟨w', e.Im, e.ρ ++ [lo], e.H ++ [ob]⟩ ∧ Mv e ⟨w', e.Im, e.ρ ++ [lo], e.H ++ [ob]⟩ := by
  have mv : Mv e ⟨w', e.Im, e.ρ ++ [lo], e.H ++ [ob]⟩ := by
    refine ⟨h1, h2, h3, h4, fun b hb _ => h5 b hb, fun _ h => h, fun b hb => h5 b (g.imlt b hb), fun b h => .inl h, nx_append _ _ _ _, fun b h => ?_⟩
    obtain ⟨o, l, ho, rfl⟩ := h
    rcases get_append ho with ho | ⟨_, hl⟩
    · exact .inl ⟨o, l, ho, rfl⟩
    · exact .inr (h6 l hl.symm).1
  refine ⟨⟨by simp [g.len], ?_, ?_, ?_, ?_, ?_⟩, mv⟩
  · intro o o' l l' ho ho' hne
    rcases get_append ho with ho | ⟨rfl, hl⟩ <;> rcases get_append ho' with ho' | ⟨rfl, hl'⟩
    · exact g.inj o o' l l' ho ho' hne
    · have := g.lt o l ho; have := (h6 l' hl'.symm).1; omega
    · have := g.lt o' l' ho'; have := (h6 l hl.symm).1; omega
    · exact absurd rfl hne
  · intro o l ho
    rcases get_append ho with ho | ⟨rfl, hl⟩
    · exact g.dis o l ho
    · intro hi; have := g.imlt _ hi; have := (h6 l hl.symm).1; omega
  · intro o l ho
    rcases get_append ho with ho | ⟨rfl, hl⟩
    · exact Nat.lt_of_lt_of_le (g.lt o l ho) h4
    · exact (h6 l hl.symm).2
  · intro b hb; exact Nat.lt_of_lt_of_le (g.imlt b hb) h4
  · intro o x y hx hy
    rcases get_append hx with hx1 | ⟨h8, rfl⟩
    · rcases get_append hy with hy1 | ⟨h9, rfl⟩
      · exact (g.obj o x y hx1 hy1).keep (fun l hl => h5 _ (g.lt o l (by rw [hy1, hl]))) mv
      · have := (List.getElem?_eq_some_iff.1 hx1).1; have := g.len; omega
    · rcases get_append hy with hy1 | ⟨_, rfl⟩
      · have := (List.getElem?_eq_some_iff.1 hy1).1; have := g.len; omega
      · exact h7 _ rfl mv

theorem alloc_same {w : World} {o : Obj} {b : Nat} (h : b < w.heap.size) : (w.alloc o).heap[b]? = w.heap[b]? := Below.heap_alloc w o b h

theorem alloc_cell (w : World) (vs : Array Value) (ty : TypeId) (j : Nat) : (w.alloc (.cells vs ty)).cell? ⟨w.heap.size, j, none⟩ = vs[j]? := by simp
theorem alloc_barred (w : World) (vs : Array Value) (ty : TypeId) (j : Nat) : barred (w.alloc (.cells vs ty)) ⟨w.heap.size, j, none⟩ = false := by
  have h : (w.alloc (.cells vs ty)).heap[w.heap.size]? = some (.cells vs ty) := by
    show (w.heap.push (.cells vs ty))[w.heap.size]? = _
    simp
  simp only [barred, World.frozen?, h]
  simp
theorem alloc_frozen (w : World) (vs : Array Value) (ty : TypeId) (j : Nat) : (w.alloc (.cells vs ty)).frozen? ⟨w.heap.size, j, none⟩ = false := by simp

theorem new_var {e : Env} (g : Good e) (ty : TypeId) (vs : Array Value) (cs : List RV) (hn : vs.size = cs.length) (h1 : ∀ (j : Nat) c, vs[j]? = some c → c.oneCell' = true) (h : ∀ (j : Nat) x y, cs[j]? = some x → vs[j]? = some y → VR e x y) :
    ∃ e' : Env, e'.w = e.w.alloc (.cells vs ty) ∧ e'.H = e.H ++ [.var cs] ∧ Good e' ∧ Mv e e' ∧ VR e' (.pt e.H.length 0 0 0) (.pointer (some ⟨e.w.heap.size, 0, none⟩)) := by
  have hp := push_ok g (e.w.alloc (.cells vs ty)) (.var cs) (some ⟨e.w.heap.size, vs.size⟩) rfl rfl ⟨rfl, Nat.le_refl _⟩ (by simp) (fun b hb => alloc_same hb) (fun l hl => by cases hl; simp) (fun e' he mv => by
    refine ⟨_, rfl, fun j x hx => ?_⟩
    have hj : j < cs.length := (List.getElem?_eq_some_iff.1 hx).1
    obtain ⟨y, hy⟩ := array_get hn hj
    refine ⟨y, ?_, ?_, h1 j y hy, mv.vr (h j x y hx hy)⟩
    · rw [he]; simp only [Loc.off, Nat.zero_add]; rw [alloc_cell, hy]
    · rw [he]; simp only [Loc.off, Nat.zero_add]; rw [alloc_frozen])
  refine ⟨_, rfl, rfl, hp.1, hp.2, ?_⟩
  refine .pt (.var cs) (some ⟨e.w.heap.size, vs.size⟩) (by simp) (by simp [← g.len]) ⟨rfl, _, rfl, rfl⟩ rfl

theorem set_get {α : Type} {l : List α} {i j : Nat} {x y : α} (h : (l.set i x)[j]? = some y) : (i = j ∧ y = x) ∨ (i ≠ j ∧ l[j]? = some y) := by
  rw [List.getElem?_set] at h
  split at h
  · rename_i hij
    split at h
    · exact .inl ⟨hij, by cases h; rfl⟩
    · cases h
  · rename_i hij; exact .inr ⟨hij, h⟩

theorem write_ok {e : Env} (g : Good e) (w' : World) {o : Nat} {ob ob' : AObj} {l : Loc} (ho : e.H[o]? = some ob) (hl : e.ρ[o]? = some (some l))
    (h1 : w'.os = e.w.os) (h2 : w'.tape = e.w.tape) (h3 : OutW e.w w') (h4 : w'.heap.size = e.w.heap.size) (h5 : ∀ b, b ≠ l.blk → w'.heap[b]? = e.w.heap[b]?)
    (hn : Nxt ob (some l) ob' (some l)) (h7 : ∀ e' : Env, e'.w = w' → Mv e e' → ObjR e' ob' (some l)) :
    Good ⟨w', e.Im, e.ρ, e.H.set o ob'⟩ ∧ Mv e ⟨w', e.Im, e.ρ, e.H.set o ob'⟩ := by
  have hlt : o < e.H.length := (List.getElem?_eq_some_iff.1 ho).1
  have mv : Mv e ⟨w', e.Im, e.ρ, e.H.set o ob'⟩ := by
    refine ⟨h1, h2, h3, by simp [h4], fun b _ hb => h5 b (fun hc => hb ⟨o, l, hl, hc.symm⟩), fun _ h => h, fun b hb => h5 b (fun hc => g.dis o l hl (hc ▸ hb)), fun b h => .inl h, ?_, fun b h => .inl h⟩
    intro k x y hx hy
    by_cases hk : o = k
    · subst hk
      rw [ho] at hx; cases hx
      rw [hl] at hy; cases hy
      exact ⟨ob', _, by simp [hlt], hl, hn⟩
    · exact ⟨x, y, by simp [List.getElem?_set, hk, hx], hy, .refl _ _⟩
  refine ⟨⟨by simp [g.len], g.inj, g.dis, fun o l ho => by simpa [h4] using g.lt o l ho, fun b hb => by simpa [h4] using g.imlt b hb, ?_⟩, mv⟩
  intro k x y hx hy
  rcases set_get hx with ⟨rfl, rfl⟩ | ⟨hk, hx⟩
  · have : some y = some (some l) := by rw [← hl, ← hy]
    cases this
    exact h7 _ rfl mv
  · refine (g.obj k x y hx hy).keep (fun l' hl' => h5 _ ?_) mv
    subst hl'
    exact g.inj k o l' l hy hl (fun hc => hk hc.symm)

theorem setCell_heap (w : World) (a : Addr) (v : Value) (b : Nat) (h : b ≠ a.block) : (w.setCell a v).heap[b]? = w.heap[b]? := Below.heap_setCell w a v b h

theorem setCell_cell {w : World} {b i : Nat} {u v : Value} (h : w.cell? ⟨b, i, none⟩ = some u) (j : Nat) :
    (w.setCell ⟨b, i, none⟩ v).cell? ⟨b, j, none⟩ = if i = j then some v else w.cell? ⟨b, j, none⟩ := by
  by_cases hij : i = j
  · subst hij; rw [if_pos rfl]; exact World.cell?_setCell_same w _ v h
  · rw [if_neg hij]; exact World.cell?_setCell_other w _ _ v (by simp [hij])

theorem set_var {e : Env} (g : Good e) {o j : Nat} {cs : List RV} {l : Loc} {x : RV} {c : Value} (ho : e.H[o]? = some (.var cs)) (hl : e.ρ[o]? = some (some l)) (hj : j < cs.length) (hx : VR e x c) (hc : c.oneCell' = true) :
    ∃ e' : Env, e'.w = e.w.setCell ⟨l.blk, l.off + j, none⟩ c ∧ e'.H = e.H.set o (.var (cs.set j x)) ∧ e'.ρ = e.ρ ∧ Good e' ∧ Mv e e' := by
  obtain ⟨l', hl', hcell⟩ := g.obj o _ _ ho hl
  cases hl'
  obtain ⟨u, hu, hfu, _, _⟩ := hcell j _ (list_get hj .any)
  have hp := write_ok g (e.w.setCell ⟨l.blk, l.off + j, none⟩ c) (ob' := .var (cs.set j x)) ho hl rfl rfl ⟨rfl, Nat.le_refl _⟩ (by simp) (fun b hb => setCell_heap _ _ _ _ hb) ⟨rfl, cs, rfl⟩ (fun e' he mv => by
    refine ⟨l, rfl, fun k y hy => ?_⟩
    rw [he, setCell_cell hu, World.frozen?_setCell]
    rcases set_get hy with ⟨rfl, rfl⟩ | ⟨hk, hy⟩
    · exact ⟨c, by simp, hfu, hc, mv.vr hx⟩
    · obtain ⟨d, h1, h2, h3, h4⟩ := hcell k y hy
      exact ⟨d, by rw [if_neg (by omega)]; exact h1, h2, h3, mv.vr h4⟩)
  exact ⟨⟨_, _, _, _⟩, rfl, rfl, rfl, hp.1, hp.2⟩

theorem set_arr {e : Env} (g : Good e) {o r j v sz : Nat} {rows : List (List RV)} {l : Loc} {x : RV} {c : Value} (ho : e.H[o]? = some (.arr v sz rows)) (hl : e.ρ[o]? = some (some l)) (hr : r < rows.length) (hj : j < (rows.getD r []).length)
    (hx : VR e x c) (hc : c.oneCell' = true) :
    ∃ e' : Env, e'.w = e.w.setCell ⟨l.blk, l.off + r * sz + j, none⟩ c ∧ e'.H = e.H.set o (.arr v sz (rows.set r ((rows.getD r []).set j x))) ∧ e'.ρ = e.ρ ∧ Good e' ∧ Mv e e' := by
  obtain ⟨hs, hcap, hroom, hcell⟩ := g.obj o _ _ ho hl
  have hrow := list_get hr []
  obtain ⟨u, hu, _, _⟩ := hcell r _ j _ hrow (list_get hj .any)
  have hsz : (rows.getD r []).length = sz := hs _ (List.mem_of_getElem? hrow)
  have hp := write_ok g (e.w.setCell ⟨l.blk, l.off + r * sz + j, none⟩ c) (ob' := .arr v sz (rows.set r ((rows.getD r []).set j x))) ho hl rfl rfl ⟨rfl, Nat.le_refl _⟩ (by simp) (fun b hb => setCell_heap _ _ _ _ hb)
    ⟨v, sz, rows, rfl, .inr ⟨rfl, rfl, by simp, rfl⟩⟩ (fun e' he mv => by
    refine ⟨fun row hm => ?_, by simpa using hcap, fun k hk => ?_, fun r' row k y hr' hy => ?_⟩
    · rcases List.mem_or_eq_of_mem_set hm with hm | rfl
      · exact hs row hm
      · simpa using hsz
    · obtain ⟨d, h1, h2⟩ := hroom k hk
      rw [he, setCell_cell hu, barred_set]
      by_cases hkk : l.off + r * sz + j = l.off + k
      · exact ⟨c, by rw [if_pos hkk], h2⟩
      · exact ⟨d, by rw [if_neg hkk]; exact h1, h2⟩
    · have hx' := mv.vr hx
      rw [he, setCell_cell hu]
      have hlen : ∀ (r' : Nat) row, (rows.set r ((rows.getD r []).set j x))[r']? = some row → row.length = sz := fun r' row hm => by
        rcases set_get hm with ⟨_, rfl⟩ | ⟨_, hm⟩
        · simpa using hsz
        · exact hs _ (List.mem_of_getElem? hm)
      have hkl : k < sz := by rw [← hlen r' row hr']; exact (List.getElem?_eq_some_iff.1 hy).1
      rcases set_get hr' with ⟨rfl, rfl⟩ | ⟨hrr, hr'⟩
      · rcases set_get hy with ⟨rfl, rfl⟩ | ⟨hk, hy⟩
        · exact ⟨c, by simp, hc, hx'⟩
        · obtain ⟨d, h1, h2, h3⟩ := hcell r _ k y hrow hy
          have h3' := mv.vr h3
          exact ⟨d, by rw [if_neg (by omega)]; exact h1, h2, h3'⟩
      · obtain ⟨d, h1, h2, h3⟩ := hcell r' row k y hr' hy
        have h3' := mv.vr h3
        refine ⟨d, ?_, h2, h3'⟩
        rw [if_neg, h1]
        intro hc
        have h1 : r * sz + j = r' * sz + k := by omega
        have hj' : j < sz := by rw [← hsz]; exact hj
        rcases Nat.lt_or_gt_of_ne hrr with hlt | hgt
        · have : (r + 1) * sz ≤ r' * sz := Nat.mul_le_mul_right _ hlt
          rw [Nat.add_mul] at this; omega
        · have : (r' + 1) * sz ≤ r * sz := Nat.mul_le_mul_right _ hgt
          rw [Nat.add_mul] at this; omega)
  exact ⟨⟨_, _, _, _⟩, rfl, rfl, rfl, hp.1, hp.2⟩

end Go.Av
/- New arrays, and arrays that grow: the memory's part. No condition. -/
set_option linter.constructorNameAsVariable false
namespace Go.Av
open Go Go.RowKit
set_option linter.unusedSimpArgs false
set_option linter.unusedVariables false

theorem upd_ok {e : Env} (g : Good e) (w' : World) {o : Nat} {ob ob' : AObj} {lo : Option Loc} {l' : Loc} (ho : e.H[o]? = some ob) (hl : e.ρ[o]? = some lo)
    (h1 : w'.os = e.w.os) (h2 : w'.tape = e.w.tape) (h3 : OutW e.w w') (h4 : e.w.heap.size ≤ w'.heap.size) (h5 : ∀ b, b < e.w.heap.size → (∀ l, lo = some l → b ≠ l.blk) → w'.heap[b]? = e.w.heap[b]?)
    (h6 : (∃ l, lo = some l ∧ l.blk = l'.blk) ∨ e.w.heap.size ≤ l'.blk) (h6' : l'.blk < w'.heap.size)
    (hn : Nxt ob lo ob' (some l')) (h7 : ∀ e' : Env, e'.w = w' → Mv e e' → ObjR e' ob' (some l')) :
    Good ⟨w', e.Im, e.ρ.set o (some l'), e.H.set o ob'⟩ ∧ Mv e ⟨w', e.Im, e.ρ.set o (some l'), e.H.set o ob'⟩ := by
  have hlt : o < e.H.length := (List.getElem?_eq_some_iff.1 ho).1
  have hltr : o < e.ρ.length := (List.getElem?_eq_some_iff.1 hl).1
  have mv : Mv e ⟨w', e.Im, e.ρ.set o (some l'), e.H.set o ob'⟩ := by
    refine ⟨h1, h2, h3, h4, fun b hb hb' => h5 b hb (fun l hc hd => hb' ⟨o, l, by rw [hl, hc], hd.symm⟩), fun _ h => h, fun b hb => h5 b (g.imlt b hb) (fun l hc hd => g.dis o l (by rw [hl, hc]) (hd ▸ hb)), fun b h => .inl h, ?_, ?_⟩
    · intro k x y hx hy
      by_cases hk : o = k
      · subst hk
        rw [ho] at hx; cases hx
        rw [hl] at hy; cases hy
        exact ⟨ob', some l', by simp [hlt], by simp [hltr], hn⟩
      · exact ⟨x, y, by simp [List.getElem?_set, hk, hx], by simp [List.getElem?_set, hk, hy], .refl _ _⟩
    · rintro b ⟨k, l, hk, rfl⟩
      have hk : (e.ρ.set o (some l'))[k]? = some (some l) := hk
      rcases set_get hk with ⟨rfl, hk1⟩ | ⟨hne, hk1⟩
      · cases hk1
        rcases h6 with ⟨l, hlo, h6⟩ | h6
        · exact .inl ⟨o, l, by rw [hl, hlo], h6⟩
        · exact .inr h6
      · exact .inl ⟨k, l, hk1, rfl⟩
  refine ⟨⟨by simp [g.len], ?_, ?_, ?_, fun b hb => Nat.lt_of_lt_of_le (g.imlt b hb) h4, ?_⟩, mv⟩
  · intro k k' l1 l2 hk hk' hne
    rcases set_get hk with ⟨rfl, hk1⟩ | ⟨hk0, hk1⟩ <;> rcases set_get hk' with ⟨rfl, hk2⟩ | ⟨hk0', hk2⟩
    · exact absurd rfl hne
    · cases hk1
      rcases h6 with ⟨l, hlo, h6⟩ | h6
      · rw [← h6]; exact g.inj o k' l l2 (by rw [hl, hlo]) hk2 hne
      · have := g.lt k' l2 hk2; omega
    · cases hk2
      rcases h6 with ⟨l, hlo, h6⟩ | h6
      · rw [← h6]; exact g.inj k o l1 l hk1 (by rw [hl, hlo]) hne
      · have := g.lt k l1 hk1; omega
    · exact g.inj k k' l1 l2 hk1 hk2 hne
  · intro k l hk
    rcases set_get hk with ⟨rfl, hk1⟩ | ⟨hk0, hk1⟩
    · cases hk1
      rcases h6 with ⟨l, hlo, h6⟩ | h6
      · rw [← h6]; exact g.dis o l (by rw [hl, hlo])
      · intro hi; have := g.imlt _ hi; omega
    · exact g.dis k l hk1
  · intro k l hk
    rcases set_get hk with ⟨rfl, hk1⟩ | ⟨hk0, hk1⟩
    · cases hk1; exact h6'
    · exact Nat.lt_of_lt_of_le (g.lt k l hk1) h4
  · intro k x y hx hy
    rcases set_get hx with ⟨rfl, rfl⟩ | ⟨hk, hx⟩
    · have : some y = some (some l') := by rw [← hy]; simp [hltr]
      cases this
      exact h7 _ rfl mv
    · rcases set_get hy with ⟨hk', _⟩ | ⟨_, hy⟩
      · exact absurd hk' hk
      · refine (g.obj k x y hx hy).keep (fun l hl1 => ?_) mv
        subst hl1
        refine h5 _ (g.lt k l hy) (fun l2 hl2 => ?_)
        exact g.inj k o l l2 hy (by rw [hl, hl2]) (fun hc => hk hc.symm)

def RowsAt (e : Env) (sz : Nat) (rows : List (List RV)) (vs : Array Value) : Prop :=
  ∀ (r : Nat) row (j : Nat) x, rows[r]? = some row → row[j]? = some x → ∃ c, vs[r * sz + j]? = some c ∧ c.oneCell' = true ∧ VR e x c

theorem RowsAt.mv {e e' : Env} {sz : Nat} {rows : List (List RV)} {vs : Array Value} (h : RowsAt e sz rows vs) (mv : Mv e e') : RowsAt e' sz rows vs := fun r row j x hr hx => by
  obtain ⟨c, h1, h2, h3⟩ := h r row j x hr hx
  exact ⟨c, h1, h2, mv.vr h3⟩

theorem objR_alloc {e e' : Env} {w0 : World} {vs : Array Value} {ty : TypeId} {sz cap ver : Nat} {rows : List (List RV)} (he : e'.w = w0.alloc (.cells vs ty)) (hb : w0.heap.size = e.w.heap.size) (hs : ∀ row ∈ rows, row.length = sz) (hsz : vs.size = cap * sz) (hcap : rows.length ≤ cap) (h : RowsAt e' sz rows vs) :
    ObjR e' (.arr ver sz rows) (some ⟨e.w.heap.size, cap⟩) := by
  refine ⟨hs, hcap, fun k hk => ?_, fun r row j x hr hx => ?_⟩
  · obtain ⟨c, hc⟩ := array_get hsz hk
    rw [he, ← hb]; simp only [Loc.off, Nat.zero_add]; rw [alloc_cell, alloc_barred]
    exact ⟨c, hc, rfl⟩
  · obtain ⟨c, h1, h2, h3⟩ := h r row j x hr hx
    refine ⟨c, ?_, h2, h3⟩
    rw [he, ← hb]; simp only [Loc.off, Nat.zero_add]; rw [alloc_cell, h1]

theorem new_arr {e : Env} (g : Good e) (w0 : World) (hw0 : w0.os = e.w.os ∧ w0.tape = e.w.tape ∧ OutW e.w w0 ∧ w0.heap = e.w.heap) (ty : TypeId) (vs : Array Value) (sz cap : Nat) (rows : List (List RV)) (hs : ∀ row ∈ rows, row.length = sz) (hsz : vs.size = cap * sz) (hcap : rows.length ≤ cap) (h : RowsAt e sz rows vs) :
    ∃ e' : Env, e'.w = w0.alloc (.cells vs ty) ∧ e'.H = e.H ++ [.arr 0 sz rows] ∧ Good e' ∧ Mv e e' ∧ VR e' (.os e.H.length 0) (.slice (some ⟨e.w.heap.size, 0, none⟩) rows.length cap) := by
  obtain ⟨e1, e2, e3, e4⟩ := hw0
  have hp := push_ok g (w0.alloc (.cells vs ty)) (.arr 0 sz rows) (some ⟨e.w.heap.size, cap⟩) e1 e2 e3 (by simp [e4]) (fun b hb => by rw [alloc_same (by rw [e4]; exact hb), e4]) (fun l hl => by cases hl; simp [e4])
    (fun e' he mv => objR_alloc he (by rw [e4]) hs hsz hcap (h.mv mv))
  refine ⟨_, rfl, rfl, hp.1, hp.2, ?_⟩
  exact .os (.arr 0 sz rows) (some ⟨e.w.heap.size, cap⟩) (by simp) (by simp [← g.len]) ⟨Nat.le_refl _, fun _ => rfl⟩ rfl

theorem new_plain {e : Env} (g : Good e) (w0 : World) (hw0 : w0.os = e.w.os ∧ w0.tape = e.w.tape ∧ OutW e.w w0 ∧ w0.heap = e.w.heap) (ty : TypeId) (vs : Array Value) (sz cap : Nat) (rows : List (List AV)) (hs : ∀ row ∈ rows, row.length = sz) (hsz : vs.size = cap * sz) (hcap : rows.length ≤ cap) (h : RowsAt e sz (rows.map fun row => row.map .v) vs) :
    ∃ e' : Env, e'.w = w0.alloc (.cells vs ty) ∧ e'.H = e.H ∧ Good e' ∧ Mv e e' ∧ VI e'.w e'.Im (.sl sz rows) (.slice (some ⟨e.w.heap.size, 0, none⟩) rows.length cap) := by
  obtain ⟨e1, e2, e3, e4⟩ := hw0
  have sm : ∀ b, b < e.w.heap.size → (w0.alloc (.cells vs ty)).heap[b]? = e.w.heap[b]? := fun b hb => by rw [alloc_same (by rw [e4]; exact hb), e4]
  have hsz' : (w0.alloc (.cells vs ty)).heap.size = e.w.heap.size + 1 := by simp [e4]
  have mv : Mv e ⟨w0.alloc (.cells vs ty), fun b => e.Im b ∨ b = e.w.heap.size, e.ρ, e.H⟩ := ⟨e1, e2, e3, by simp [e4], fun b hb _ => sm b hb, fun _ h => .inl h, fun b hb => sm b (g.imlt b hb), fun b h => h.elim .inl (fun h => .inr (.inr (by omega))), .refl _ _, fun _ h => .inl h⟩
  refine ⟨⟨w0.alloc (.cells vs ty), fun b => e.Im b ∨ b = e.w.heap.size, e.ρ, e.H⟩, rfl, rfl, ⟨g.len, g.inj, ?_, ?_, ?_, ?_⟩, mv, ?_⟩
  · rintro o l ho (h1 | h1)
    · exact g.dis o l ho h1
    · have := g.lt o l ho; omega
  · intro o l ho
    have := g.lt o l ho
    show l.blk < (w0.alloc (.cells vs ty)).heap.size
    omega
  · rintro b (h1 | rfl)
    · have := g.imlt b h1
      show b < (w0.alloc (.cells vs ty)).heap.size
      omega
    · show _ < (w0.alloc (.cells vs ty)).heap.size
      omega
  · intro o ob lo h1 h2
    exact (g.obj o ob lo h1 h2).keep (fun l hl => sm _ (g.lt o l (by rw [h2, hl]))) mv
  · have hgr : ∀ (r : Nat) row (j : Nat) x, rows[r]? = some row → row[j]? = some x → ∃ c, vs[r * sz + j]? = some c ∧ c.oneCell' = true ∧ VI e.w e.Im x c := fun r row j x hr hx => by
      obtain ⟨c, h1, h2, h3⟩ := h r (row.map .v) j (.v x) (by rw [List.getElem?_map, hr]; rfl) (by rw [List.getElem?_map, hx]; rfl)
      cases h3 with | v h3 => exact ⟨c, h1, h2, h3⟩
    have hc : ∀ (r : Nat) row (j : Nat) x, rows[r]? = some row → row[j]? = some x → (w0.alloc (.cells vs ty)).cell? ⟨e.w.heap.size, 0 + r * sz + j, none⟩ = some (vs.getD (r * sz + j) undef) ∧ (vs.getD (r * sz + j) undef).oneCell' = true ∧ VI e.w e.Im x (vs.getD (r * sz + j) undef) := fun r row j x hr hx => by
      obtain ⟨c, h1, h2, h3⟩ := hgr r row j x hr hx
      have : vs.getD (r * sz + j) undef = c := by rw [Array.getD_eq_getD_getElem?, h1]; rfl
      rw [this]
      refine ⟨?_, h2, h3⟩
      rw [← e4]; simp only [Loc.off, Nat.zero_add]; rw [alloc_cell, h1]
    exact .sl sz rows e.w.heap.size 0 cap (fun r j => vs.getD (r * sz + j) undef) (.inr rfl) hs hcap (fun r row j x hr hx => ⟨(hc r row j x hr hx).1, (hc r row j x hr hx).2.1⟩) (fun r row j x hr hx => mv.vi (hc r row j x hr hx).2.2)

theorem move_arr {e : Env} (g : Good e) (w0 : World) (hw0 : w0.os = e.w.os ∧ w0.tape = e.w.tape ∧ OutW e.w w0 ∧ w0.heap = e.w.heap) {o v z : Nat} {rows0 : List (List RV)} {lo : Option Loc} (ho : e.H[o]? = some (.arr v z rows0)) (hl : e.ρ[o]? = some lo)
    (ty : TypeId) (vs : Array Value) (sz cap : Nat) (rows : List (List RV)) (hs : ∀ row ∈ rows, row.length = sz) (hsz : vs.size = cap * sz) (hcap : rows.length ≤ cap) (h : RowsAt e sz rows vs) :
    ∃ e' : Env, e'.w = w0.alloc (.cells vs ty) ∧ e'.H = e.H.set o (.arr (v + 1) sz rows) ∧ Good e' ∧ Mv e e' ∧ VR e' (.os o (v + 1)) (.slice (some ⟨e.w.heap.size, 0, none⟩) rows.length cap) := by
  obtain ⟨e1, e2, e3, e4⟩ := hw0
  have hp := upd_ok g (w0.alloc (.cells vs ty)) (ob' := .arr (v + 1) sz rows) (l' := ⟨e.w.heap.size, cap⟩) ho hl e1 e2 e3 (by simp [e4]) (fun b hb _ => by rw [alloc_same (by rw [e4]; exact hb), e4]) (.inr (Nat.le_refl _)) (by simp [e4]) ⟨v, z, rows0, rfl, .inl (Nat.lt_succ_self v)⟩
    (fun e' he mv => objR_alloc he (by rw [e4]) hs hsz hcap (h.mv mv))
  refine ⟨_, rfl, rfl, hp.1, hp.2, ?_⟩
  have hlt : o < e.H.length := (List.getElem?_eq_some_iff.1 ho).1
  have hltr : o < e.ρ.length := (List.getElem?_eq_some_iff.1 hl).1
  exact .os (.arr (v + 1) sz rows) (some ⟨e.w.heap.size, cap⟩) (by simp [hlt]) (by simp [hltr]) ⟨Nat.le_refl _, fun _ => rfl⟩ rfl

theorem setCells_heap (b : Nat) : ∀ (vs : List Value) (o : Nat) (w : World) (k : Nat), k ≠ b → (w.setCells b o vs).heap[k]? = w.heap[k]?
  | [], _, _, _, _ => rfl
  | v :: vs, o, w, k, h => by
    rw [World.setCells, setCells_heap b vs (o + 1) _ k h]
    exact setCell_heap _ _ _ _ h

theorem setCells_size (b : Nat) : ∀ (vs : List Value) (o : Nat) (w : World), (w.setCells b o vs).heap.size = w.heap.size ∧ (w.setCells b o vs).os = w.os ∧ (w.setCells b o vs).tape = w.tape ∧ OutW w (w.setCells b o vs)
  | [], _, _ => ⟨rfl, rfl, rfl, rfl, Nat.le_refl _⟩
  | v :: vs, o, w => by
    rw [World.setCells]
    obtain ⟨h1, h2, h3, h4⟩ := setCells_size b vs (o + 1) (w.setCell ⟨b, o, none⟩ v)
    exact ⟨by rw [h1]; simp, h2, h3, h4⟩

theorem setCells_barred (b : Nat) : ∀ (vs : List Value) (o : Nat) (w : World) (a : Addr), barred (w.setCells b o vs) a = barred w a
  | [], o, w, a => rfl
  | v :: vs, o, w, a => by rw [World.setCells, setCells_barred b vs (o + 1) _ a, barred_set]
theorem setCells_frozen (b : Nat) : ∀ (vs : List Value) (o : Nat) (w : World) (a : Addr), (w.setCells b o vs).frozen? a = w.frozen? a
  | [], _, _, _ => rfl
  | v :: vs, o, w, a => by rw [World.setCells, setCells_frozen b vs (o + 1) _ a, World.frozen?_setCell]

theorem setCells_cell (b : Nat) (vs : List Value) (o : Nat) (w : World) (hc : ∀ j, j < vs.length → ∃ u, w.cell? ⟨b, o + j, none⟩ = some u) (k : Nat) :
    (w.setCells b o vs).cell? ⟨b, k, none⟩ = if o ≤ k ∧ k < o + vs.length then vs[k - o]? else w.cell? ⟨b, k, none⟩ := by
  by_cases h : o ≤ k ∧ k < o + vs.length
  · rw [if_pos h]
    have := World.cell?_setCells_in b vs o w (fun i hi => by rw [Option.isSome_iff_exists]; exact hc i hi) (k - o) (by omega)
    rw [show o + (k - o) = k by omega] at this
    rw [this, List.getElem?_eq_getElem (by omega)]
  · rw [if_neg h]
    exact World.cell?_setCells_out b vs o w ⟨b, k, none⟩ (fun _ _ => by simp only; omega)
end Go.Av
/- 'append', 'make' and literals of slices: what the program does to memory. No condition. -/
set_option linter.constructorNameAsVariable false
namespace Go.Av
open Go Go.RowKit
set_option linter.unusedSimpArgs false
set_option linter.unusedVariables false

def rowsX (H : List AObj) (sz : Nat) (x : RV) : Option (Prop × List (List RV)) :=
  match x with
  | .v .nil => some (True, [])
  | .v (.sl z rows) => some (z = sz, vrows rows)
  | .v (.s l) => some (sz = 1, l.map fun b => [.v (.i .u8 b.toNat)])
  | .os o ver =>
    match H[o]? with
    | some (.arr v z rows) => some (ver = v ∧ z = sz, rows)
    | _ => none
  | .sub o ver lo n =>
    match H[o]? with
    | some (.arr v z rows) => some (ver = v ∧ z = sz, (rows.drop lo).take n)
    | _ => none
  | _ => none

theorem someQ {α β : Type} {a a' : α} {b b' : β} (h : some (a, b) = some (a', b')) : a = a' ∧ b = b' := by cases h; exact ⟨rfl, rfl⟩

theorem cell_heap {w w' : World} (h : w'.heap = w.heap) (a : Addr) : w'.cell? a = w.cell? a := by simp only [World.cell?, h]

theorem loadCells_all {P : Program} {w : World} {b o n : Nat} (F : Nat → Value) (h : ∀ k, k < n → w.cell? ⟨b, o + k, none⟩ = some (F k)) {w' : World} (hw : w'.heap = w.heap) :
    (loadCells ⟨b, o, none⟩ n).run P w' = .ok ((List.range n).map F).toArray w' :=
  loadCells_f F (fun k hk => by rw [cell_heap hw]; exact h k hk)

theorem idx_row {sz k : Nat} (h : 0 < sz) : k = k / sz * sz + k % sz := by rw [Nat.mul_comm]; exact (Nat.div_add_mod k sz).symm

theorem flatR_ok {P : Program} {e : Env} {b off sz : Nat} {rows : List (List RV)} (h0 : 0 < sz) (hs : ∀ row ∈ rows, row.length = sz)
    (hc : ∀ (r : Nat) row (j : Nat) x, rows[r]? = some row → row[j]? = some x → ∃ c, e.w.cell? ⟨b, off + r * sz + j, none⟩ = some c ∧ c.oneCell' = true ∧ VR e x c) :
    ∃ news : List Value, news.length = rows.length * sz ∧ (∀ w' : World, w'.heap = e.w.heap → (loadCells ⟨b, off, none⟩ (rows.length * sz)).run P w' = .ok news.toArray w') ∧ RowsAt e sz rows news.toArray ∧ ∀ u ∈ news, u.oneCell' = true := by
  have hF : ∀ k, k < rows.length * sz → ∃ c x, e.w.cell? ⟨b, off + k, none⟩ = some c ∧ c.oneCell' = true := fun k hk => by
    have hr : k / sz < rows.length := by rw [Nat.div_lt_iff_lt_mul h0]; exact hk
    have hrow := list_get hr []
    have hl := hs _ (List.mem_of_getElem? hrow)
    have hj : k % sz < (rows.getD (k / sz) []).length := by rw [hl]; exact Nat.mod_lt _ h0
    obtain ⟨c, h1, h2, h3⟩ := hc _ _ _ _ hrow (list_get hj .any)
    refine ⟨c, RV.any, ?_, h2⟩
    have := idx_row (k := k) h0
    rw [this, ← Nat.add_assoc]; exact h1
  refine ⟨(List.range (rows.length * sz)).map fun k => (e.w.cell? ⟨b, off + k, none⟩).getD undef, by simp, fun w' hw => ?_, ?_, ?_⟩
  · refine loadCells_all _ (fun k hk => ?_) hw
    obtain ⟨c, _, h1, _⟩ := hF k hk
    rw [h1]; rfl
  · intro r row j x hr hx
    obtain ⟨c, h1, h2, h3⟩ := hc r row j x hr hx
    refine ⟨c, ?_, h2, h3⟩
    have hrl := (List.getElem?_eq_some_iff.1 hr).1
    have hjl : j < sz := by rw [← hs row (List.mem_of_getElem? hr)]; exact (List.getElem?_eq_some_iff.1 hx).1
    have hlt : r * sz + j < rows.length * sz := by
      have : (r + 1) * sz ≤ rows.length * sz := Nat.mul_le_mul_right _ hrl
      rw [Nat.add_mul] at this; omega
    simp only [List.getElem?_toArray, List.getElem?_map, List.getElem?_range hlt, Option.map_some]
    rw [← Nat.add_assoc, h1]; rfl
  · intro u hu
    obtain ⟨k, hk, rfl⟩ := List.mem_map.1 hu
    obtain ⟨c, _, h1, h2⟩ := hF k (List.mem_range.1 hk)
    rw [h1]; exact h2

theorem src_ok {P : Program} {e : Env} (g : Good e) {sz : Nat} (h0 : 0 < sz) {x : RV} {c : Value} {C : Prop} {rows : List (List RV)} (h : rowsX e.H sz x = some (C, rows)) (hC : C) (hx : VR e x c) :
    (∀ row ∈ rows, row.length = sz) ∧ (∀ w' : World, (Builtin.lenOf c).run P w' = .ok rows.length w') ∧ ∃ news : List Value, news.length = rows.length * sz ∧ (∀ w' : World, w'.heap = e.w.heap → (Builtin.firstCells sz rows.length c).run P w' = .ok news.toArray w') ∧ RowsAt e sz rows news.toArray ∧ ∀ u ∈ news, u.oneCell' = true := by
  have hnil : ∀ (a : Option Addr) (k : Nat), (∀ row ∈ ([] : List (List RV)), row.length = sz) ∧ (∀ w' : World, (Builtin.lenOf (.slice a 0 k)).run P w' = .ok ([] : List (List RV)).length w') ∧ ∃ news : List Value, news.length = ([] : List (List RV)).length * sz ∧ (∀ w' : World, w'.heap = e.w.heap → (Builtin.firstCells sz ([] : List (List RV)).length (.slice a 0 k)).run P w' = .ok news.toArray w') ∧ RowsAt e sz [] news.toArray ∧ ∀ u ∈ news, u.oneCell' = true := by
    intro a k
    refine ⟨by simp, fun w' => by simp [Builtin.lenOf], [], by simp, fun w' _ => ?_, fun r row j x hr => by simp at hr, by simp⟩
    cases a with
    | none => simp [Builtin.firstCells]
    | some a => simp [Builtin.firstCells, loadCells, loadCellsFrom]
  unfold rowsX at h
  split at h
  · obtain ⟨rfl, rfl⟩ := someQ h
    cases vr_v hx
    exact hnil _ _
  · rename_i z rws
    obtain ⟨rfl, rfl⟩ := someQ h
    subst hC
    cases vr_v hx with
    | sl _ _ b off cap f hb hsz hcap hc hh =>
      have hs : ∀ row ∈ vrows rws, row.length = z := fun row hm => by
        obtain ⟨r, hr, rfl⟩ := List.mem_map.1 hm
        simpa using hsz r hr
      obtain ⟨news, h1, h2, h3, h4⟩ := flatR_ok (P := P) (e := e) (b := b) (off := off) h0 hs (fun r row j x hr hx => by
        rw [vrows, List.getElem?_map, Option.map_eq_some_iff] at hr
        obtain ⟨row', hr, rfl⟩ := hr
        rw [List.getElem?_map, Option.map_eq_some_iff] at hx
        obtain ⟨x', hx, rfl⟩ := hx
        exact ⟨_, (hc r row' j x' hr hx).1, (hc r row' j x' hr hx).2, .v (hh r row' j x' hr hx)⟩)
      refine ⟨hs, fun w' => by simp [Builtin.lenOf, vrows], news, h1, fun w' hw => ?_, h3, h4⟩
      simp only [Builtin.firstCells]
      exact h2 w' hw
    | sle => exact hnil _ _
  · rename_i l
    obtain ⟨rfl, rfl⟩ := someQ h
    subst hC
    cases vr_v hx with
    | s y =>
      refine ⟨by simp, fun w' => by simp only [Builtin.lenOf, List.length_map, Array.length_toList]; rfl, y.data.toList.map fun b => Value.int .u8 b.toNat, by simp, fun w' hw => ?_, ?_, ?_⟩
      · simp only [Builtin.firstCells, Sem.run_pure]
        have : y.extract 0 (y.data.toList.map fun b => [RV.v (AV.i IntKind.u8 (b.toNat : Int))]).length = y := by
          rw [List.length_map]
          exact ByteArray.extract_zero_size (b := y)
        rw [this]
        congr 1
        apply Array.ext'
        simp
      · intro r row j x hr hx
        rw [List.getElem?_map, Option.map_eq_some_iff] at hr
        obtain ⟨b, hb, rfl⟩ := hr
        cases j with
        | zero =>
          simp at hx; subst hx
          exact ⟨.int .u8 b.toNat, by simp only [Nat.mul_one, Nat.add_zero, List.getElem?_toArray, List.getElem?_map, hb, Option.map_some], rfl, .v (.i _ _)⟩
        | succ j => simp at hx
      · intro u hu
        obtain ⟨b, _, rfl⟩ := List.mem_map.1 hu
        rfl
  · rename_i o ver
    split at h
    · rename_i v z rws ho
      obtain ⟨rfl, rfl⟩ := someQ h
      obtain ⟨rfl, rfl⟩ := hC
      obtain ⟨lo, hlo, hv⟩ := hx.slice g ho
      obtain ⟨hsz, hobj⟩ := g.obj _ _ _ ho hlo
      cases lo with
      | none =>
        obtain ⟨h0', a', rfl⟩ := hv
        obtain rfl : rws = [] := List.eq_nil_of_length_eq_zero h0'
        exact hnil _ _
      | some l =>
        obtain rfl := hv
        obtain ⟨_, _, hcell⟩ := hobj
        obtain ⟨news, h1, h2, h3, h4⟩ := flatR_ok (P := P) (e := e) (b := l.blk) (off := l.off) h0 hsz hcell
        refine ⟨hsz, fun w' => by simp [Builtin.lenOf], news, h1, fun w' hw => ?_, h3, h4⟩
        simp only [Builtin.firstCells]
        exact h2 w' hw
    · cases h
  · rename_i o ver lo' n
    split at h
    · rename_i v z rws ho
      obtain ⟨rfl, rfl⟩ := someQ h
      obtain ⟨rfl, rfl⟩ := hC
      obtain ⟨lo, hlo, hle, hv⟩ := hx.subv g ho
      obtain ⟨hsz, hobj⟩ := g.obj _ _ _ ho hlo
      have hlen : ((rws.drop lo').take n).length = n := by simp; omega
      cases lo with
      | none =>
        obtain ⟨h0', a', rfl⟩ := hv
        subst h0'
        rw [List.take_zero]
        exact hnil _ _
      | some l =>
        obtain ⟨_, _, hcell⟩ := hobj
        obtain ⟨v1, v2, v3⟩ := hv
        by_cases hn : n = 0
        · subst hn
          obtain ⟨a, cap, rfl⟩ := v3
          rw [List.take_zero]
          exact hnil _ _
        · obtain ⟨cap, hcap, rfl⟩ := v2 (by omega)
          obtain ⟨news, h1, h2, h3, h4⟩ := flatR_ok (P := P) (e := e) (b := l.blk) (off := l.off + lo' * z) (rows := (rws.drop lo').take n) h0 (fun row hr => hsz row (List.mem_of_mem_drop (List.mem_of_mem_take hr))) (fun r row j x hr hx => by
            rw [List.getElem?_take] at hr
            split at hr
            · rw [List.getElem?_drop] at hr
              have := hcell _ _ _ _ hr hx
              rwa [show l.off + (lo' + r) * z + j = l.off + lo' * z + r * z + j by rw [Nat.add_mul]; omega] at this
            · cases hr)
          refine ⟨fun row hr => hsz row (List.mem_of_mem_drop (List.mem_of_mem_take hr)), fun w' => by rw [hlen]; simp [Builtin.lenOf], news, h1, fun w' hw => ?_, h3, h4⟩
          simp only [Builtin.firstCells]
          exact h2 w' hw
    · cases h
  · cases h

theorem run_app_grow {P : Program} {w : World} {t u ty el : TypeId} {i : TypeInfo} {z : Value} (ht : P.underlying t = some (.slice el)) (hu : (∃ el', P.underlying u = some (.slice el')) ∨ P.underlying u = some .string) (hi : P.info? el = some i) (hz : i.zero = some z)
    {base : Option Addr} {len cap n : Nat} {c : Value} {olds news : List Value} (hlen : ∀ w', (Builtin.lenOf c).run P w' = .ok n w') (hnew : ∀ w' : World, w'.heap = w.heap → (Builtin.firstCells i.size n c).run P w' = .ok news.toArray w')
    (hold : ∀ w' : World, w'.heap = w.heap → (Builtin.firstCells i.size len (.slice base len cap)).run P w' = .ok olds.toArray w') (hg : cap < len + n) (h63 : ((len + n : Nat) : Int) ≤ 9223372036854775807) (hfit : Builtin.nextslicecap (len + n) cap * i.bytes ≤ 281474976710656) :
    (Builtin.append_ #[t, u] ty #[.slice base len cap, c]).run P w = .ok (.slice (some ⟨w.heap.size, 0, none⟩) (len + n) (grownCap w (len + n) cap el))
      (w.drew.alloc (.cells (olds.toArray ++ news.toArray ++ Builtin.zeroCells z.cells (grownCap w (len + n) cap el - (len + n))) el)) := by
  have hn : ¬ (len + n ≤ cap) := by omega
  have h63' : ¬ (9223372036854775807 < ((len : Int) + (n : Int))) := by omega
  have h48' : ¬ (281474976710656 < Builtin.nextslicecap (len + n) cap * i.bytes) := by omega
  have e1 := hnew w.drew rfl
  have e2 := hold w.drew rfl
  rcases hu with ⟨el', hu⟩ | hu
  · simp [Builtin.append_, run_underlying ht, run_underlying hu, sizeOf, typeInfo, zeroValue, hi, hz, hlen, hn, h63', h48', Question.forced, e1, e2, newRow, grownCap]
    congr 2
    apply Array.ext'
    simp [List.append_assoc]
  · simp [Builtin.append_, run_underlying ht, run_underlying hu, sizeOf, typeInfo, zeroValue, hi, hz, hlen, hn, h63', h48', Question.forced, e1, e2, newRow, grownCap]
    congr 2
    apply Array.ext'
    simp [List.append_assoc]

theorem run_app_room {P : Program} {w : World} {t u ty el : TypeId} {i : TypeInfo} (ht : P.underlying t = some (.slice el)) (hu : (∃ el', P.underlying u = some (.slice el')) ∨ P.underlying u = some .string) (hi : P.info? el = some i)
    {b o len cap n : Nat} {c : Value} {news : List Value} (hlen : ∀ w', (Builtin.lenOf c).run P w' = .ok n w') (hnew : ∀ w' : World, w'.heap = w.heap → (Builtin.firstCells i.size n c).run P w' = .ok news.toArray w')
    (hroom : len + n ≤ cap) (hc : ∀ j, j < news.length → (w.cell? ⟨b, o + len * i.size + j, none⟩).isSome = true) (hf : ∀ j, j < news.length → w.frozen? ⟨b, o + len * i.size + j, none⟩ = false) (h1 : ∀ v ∈ news, v.oneCell' = true) :
    (Builtin.append_ #[t, u] ty #[.slice (some ⟨b, o, none⟩) len cap, c]).run P w = .ok (.slice (some ⟨b, o, none⟩) (len + n) cap) (w.setCells b (o + len * i.size) news) := by
  have e1 := hnew w rfl
  have hst := run_storeCells_cells (P := P) b (o + len * i.size) news 0 w (by simpa using hc) (by simpa using hf) h1
  simp only [Nat.add_zero] at hst
  rcases hu with ⟨el', hu⟩ | hu
  · simp [Builtin.append_, run_underlying ht, run_underlying hu, sizeOf, typeInfo, hi, hlen, hroom, e1, Addr.add_lit, hst]
  · simp [Builtin.append_, run_underlying ht, run_underlying hu, sizeOf, typeInfo, hi, hlen, hroom, e1, Addr.add_lit, hst]

theorem run_app_none {P : Program} {w : World} {t u ty el : TypeId} {i : TypeInfo} (ht : P.underlying t = some (.slice el)) (hu : (∃ el', P.underlying u = some (.slice el')) ∨ P.underlying u = some .string) (hi : P.info? el = some i)
    {a : Option Addr} {len cap : Nat} {c : Value} (hlen : ∀ w', (Builtin.lenOf c).run P w' = .ok 0 w') (hnew : ∀ w' : World, w'.heap = w.heap → (Builtin.firstCells i.size 0 c).run P w' = .ok #[] w') (hcap : len ≤ cap) :
    (Builtin.append_ #[t, u] ty #[.slice a len cap, c]).run P w = .ok (.slice a len cap) w := by
  have e1 := hnew w rfl
  rcases hu with ⟨el', hu⟩ | hu <;> cases a <;> simp [Builtin.append_, run_underlying ht, run_underlying hu, sizeOf, typeInfo, hi, hlen, e1, storeCells, hcap]
end Go.Av
/- Memory of one's own that nobody writes any more: it reads as a plain value. No condition. -/
set_option linter.constructorNameAsVariable false
namespace Go.Av
open Go Go.RowKit
set_option linter.unusedSimpArgs false
set_option linter.unusedVariables false

theorem plainr_ok : ∀ {r : List RV} {l : List AV}, plainr r = some l → r = l.map .v
  | [], l, h => by simp [plainr] at h; subst h; rfl
  | x :: r, l, h => by
    cases x <;> simp [plainr] at h
    obtain ⟨l', h1, rfl⟩ := h
    rw [plainr_ok h1]; rfl
theorem rows_plain : ∀ {rs : List (List RV)} {l : List (List AV)}, plainR rs = some l → rs = l.map fun row => row.map .v
  | [], l, h => by simp [plainR] at h; subst h; rfl
  | r :: rs, l, h => by
    simp only [plainR, Option.bind_eq_some_iff, Option.map_eq_some_iff] at h
    obtain ⟨x, hx, l', hl, rfl⟩ := h
    rw [rows_plain hl, plainr_ok hx]
    rfl
theorem plainr_map (l : List AV) : plainr (l.map .v) = some l := by
  induction l with
  | nil => rfl
  | cons x l ih => simp [plainr, ih]
theorem plainR_app (l : List (List AV)) (rs : List (List RV)) : plainR (vrows l ++ rs) = (plainR rs).map fun m => l ++ m := by
  induction l with
  | nil => simp [vrows]
  | cons x l ih =>
    show plainR (x.map .v :: (vrows l ++ rs)) = _
    rw [plainR, plainr_map, ih]
    cases plainR rs <;> simp
theorem plainR_vrows (l : List (List AV)) : plainR (vrows l) = some l := by
  have := plainR_app l []
  simpa [plainR] using this

theorem freeze_one {e : Env} (g : Good e) {o ver sz : Nat} {rows : List (List AV)} {c : Value} (ho : e.H[o]? = some (.arr ver sz (rows.map fun row => row.map .v))) (hv : VR e (.os o ver) c) :
    ∃ e' : Env, e'.w = e.w ∧ e'.H = e.H.set o .none ∧ Good e' ∧ Mv e e' ∧ VI e'.w e'.Im (.sl sz rows) c := by
  obtain ⟨lo, hlo, hav⟩ := hv.slice g ho
  obtain ⟨hsz, hobj⟩ := g.obj _ _ _ ho hlo
  have hlt : o < e.H.length := (List.getElem?_eq_some_iff.1 ho).1
  have hltr : o < e.ρ.length := (List.getElem?_eq_some_iff.1 hlo).1
  have nx : Nx e.H e.ρ (e.H.set o .none) (e.ρ.set o none) := fun k x y hx hy => by
    by_cases hk : o = k
    · subst hk; exact ⟨.none, none, by simp [hlt], by simp [hltr], trivial⟩
    · exact ⟨x, y, by simp [List.getElem?_set, hk, hx], by simp [List.getElem?_set, hk, hy], .refl _ _⟩
  have mv : Mv e ⟨e.w, fun b => e.Im b ∨ ∃ l, lo = some l ∧ l.blk = b, e.ρ.set o none, e.H.set o .none⟩ := by
    refine ⟨rfl, rfl, ⟨rfl, Nat.le_refl _⟩, Nat.le_refl _, fun _ _ _ => rfl, fun _ h => .inl h, fun _ _ => rfl, ?_, nx, ?_⟩
    · rintro b (h | ⟨l, hl, rfl⟩)
      · exact .inl h
      · exact .inr (.inl ⟨o, l, by rw [hlo, hl], rfl⟩)
    · rintro b ⟨k, l, hk, rfl⟩
      have hk : (e.ρ.set o none)[k]? = some (some l) := hk
      rcases set_get hk with ⟨_, h⟩ | ⟨_, h⟩
      · cases h
      · exact .inl ⟨k, l, h, rfl⟩
  have old : ∀ (k : Nat) l, (e.ρ.set o none)[k]? = some (some l) → o ≠ k ∧ e.ρ[k]? = some (some l) := fun k l hk => by
    rcases set_get hk with ⟨_, h⟩ | ⟨h1, h⟩
    · cases h
    · exact ⟨h1, h⟩
  have g' : Good ⟨e.w, fun b => e.Im b ∨ ∃ l, lo = some l ∧ l.blk = b, e.ρ.set o none, e.H.set o .none⟩ := by
    refine ⟨by simp [g.len], fun k k' l l' hk hk' => g.inj k k' l l' (old k l hk).2 (old k' l' hk').2, ?_, fun k l hk => g.lt k l (old k l hk).2, ?_, ?_⟩
    · intro k l hk hi
      obtain ⟨h1, h2⟩ := old k l hk
      rcases hi with hi | ⟨l', hl', he⟩
      · exact g.dis k l h2 hi
      · exact g.inj o k l' l (by rw [hlo, hl']) h2 h1 he
    · rintro b (hi | ⟨l', hl', rfl⟩)
      · exact g.imlt b hi
      · exact g.lt o l' (by rw [hlo, hl'])
    · intro k x y hx hy
      rcases set_get hx with ⟨rfl, rfl⟩ | ⟨hk, hx⟩
      · exact trivial
      · rcases set_get hy with ⟨hk', _⟩ | ⟨_, hy⟩
        · exact absurd hk' hk
        · exact (g.obj k x y hx hy).keep (fun l hl => rfl) mv
  refine ⟨⟨e.w, fun b => e.Im b ∨ ∃ l, lo = some l ∧ l.blk = b, e.ρ.set o none, e.H.set o .none⟩, rfl, rfl, g', mv, ?_⟩
  cases lo with
  | none =>
    obtain ⟨h0, a, rfl⟩ := hav
    have : rows = [] := by simpa using h0
    subst this
    exact .sle _ _ _
  | some l =>
    have hav : c = .slice (some ⟨l.blk, l.off, none⟩) (rows.map fun row => row.map RV.v).length l.cap := hav
    obtain ⟨hcap, _, hcell⟩ := hobj
    have hgr : ∀ (r : Nat) row (j : Nat) x, rows[r]? = some row → row[j]? = some x → (rows.map fun row => row.map RV.v)[r]? = some (row.map .v) ∧ (row.map RV.v)[j]? = some (.v x) := fun r row j x hr hx => ⟨by rw [List.getElem?_map, hr]; rfl, by rw [List.getElem?_map, hx]; rfl⟩
    have hf : ∀ (r : Nat) row (j : Nat) x, rows[r]? = some row → row[j]? = some x → e.w.cell? ⟨l.blk, l.off + r * sz + j, none⟩ = some ((e.w.cell? ⟨l.blk, l.off + r * sz + j, none⟩).getD undef) ∧ ((e.w.cell? ⟨l.blk, l.off + r * sz + j, none⟩).getD undef).oneCell' = true ∧ VI e.w e.Im x ((e.w.cell? ⟨l.blk, l.off + r * sz + j, none⟩).getD undef) := fun r row j x hr hx => by
      obtain ⟨h1, h2⟩ := hgr r row j x hr hx
      obtain ⟨d, d1, d2, d3⟩ := hcell r _ j _ h1 h2
      rw [d1]
      cases d3 with | v d3 => exact ⟨rfl, d2, d3⟩
    rw [hav, List.length_map]
    refine .sl sz rows l.blk l.off l.cap (fun r j => (e.w.cell? ⟨l.blk, l.off + r * sz + j, none⟩).getD undef) (.inr ⟨l, rfl, rfl⟩) (fun row hm => ?_) (by simpa using hcap) (fun r row j x hr hx => ⟨(hf r row j x hr hx).1, (hf r row j x hr hx).2.1⟩) (fun r row j x hr hx => ((hf r row j x hr hx).2.2).mono (fun _ h => .inl h) (fun _ _ => rfl))
    have := hsz (row.map .v) (List.mem_map.2 ⟨row, hm, rfl⟩)
    simpa using this

theorem freeze_var {e : Env} (g : Good e) {o ver r off : Nat} {cs : List AV} {c : Value} (ho : e.H[o]? = some (.var (cs.map .v))) (hv : VR e (.pt o ver r off) c) (h0 : off = 0) :
    ∃ e' : Env, e'.w = e.w ∧ e'.H = e.H.set o .none ∧ Good e' ∧ Mv e e' ∧ ∃ b, c = .pointer (some ⟨b, 0, none⟩) ∧ VI e'.w e'.Im (.sl 1 (cs.map fun x => [x])) (.slice (some ⟨b, 0, none⟩) cs.length cs.length) := by
  subst h0
  obtain ⟨p1, _⟩ := hv.ptr g
  obtain ⟨_, l, hlo, hc⟩ := p1 _ ho
  obtain ⟨l', hl', hcell⟩ := g.obj _ _ _ ho hlo
  cases hl'
  have hlt : o < e.H.length := (List.getElem?_eq_some_iff.1 ho).1
  have hltr : o < e.ρ.length := (List.getElem?_eq_some_iff.1 hlo).1
  have nx : Nx e.H e.ρ (e.H.set o .none) (e.ρ.set o none) := fun k x y hx hy => by
    by_cases hk : o = k
    · subst hk; exact ⟨.none, none, by simp [hlt], by simp [hltr], trivial⟩
    · exact ⟨x, y, by simp [List.getElem?_set, hk, hx], by simp [List.getElem?_set, hk, hy], .refl _ _⟩
  have mv : Mv e ⟨e.w, fun b => e.Im b ∨ l.blk = b, e.ρ.set o none, e.H.set o .none⟩ := by
    refine ⟨rfl, rfl, ⟨rfl, Nat.le_refl _⟩, Nat.le_refl _, fun _ _ _ => rfl, fun _ h => .inl h, fun _ _ => rfl, ?_, nx, ?_⟩
    · rintro b (h | rfl)
      · exact .inl h
      · exact .inr (.inl ⟨o, l, hlo, rfl⟩)
    · rintro b ⟨k, l, hk, rfl⟩
      have hk : (e.ρ.set o none)[k]? = some (some l) := hk
      rcases set_get hk with ⟨_, h⟩ | ⟨_, h⟩
      · cases h
      · exact .inl ⟨k, l, h, rfl⟩
  have old : ∀ (k : Nat) l, (e.ρ.set o none)[k]? = some (some l) → o ≠ k ∧ e.ρ[k]? = some (some l) := fun k l hk => by
    rcases set_get hk with ⟨_, h⟩ | ⟨h1, h⟩
    · cases h
    · exact ⟨h1, h⟩
  have g' : Good ⟨e.w, fun b => e.Im b ∨ l.blk = b, e.ρ.set o none, e.H.set o .none⟩ := by
    refine ⟨by simp [g.len], fun k k' l l' hk hk' => g.inj k k' l l' (old k l hk).2 (old k' l' hk').2, ?_, fun k l hk => g.lt k l (old k l hk).2, ?_, ?_⟩
    · intro k l2 hk hi
      obtain ⟨h1, h2⟩ := old k l2 hk
      rcases hi with hi | he
      · exact g.dis k l2 h2 hi
      · exact g.inj o k l l2 hlo h2 h1 he
    · rintro b (hi | rfl)
      · exact g.imlt b hi
      · exact g.lt o l hlo
    · intro k x y hx hy
      rcases set_get hx with ⟨rfl, rfl⟩ | ⟨hk, hx⟩
      · exact trivial
      · rcases set_get hy with ⟨hk', _⟩ | ⟨_, hy⟩
        · exact absurd hk' hk
        · exact (g.obj k x y hx hy).keep (fun l hl => rfl) mv
  refine ⟨⟨e.w, fun b => e.Im b ∨ l.blk = b, e.ρ.set o none, e.H.set o .none⟩, rfl, rfl, g', mv, l.blk, by simpa [Loc.off] using hc, ?_⟩
  have hf : ∀ (r : Nat) row (j : Nat) x, (cs.map fun x => [x])[r]? = some row → row[j]? = some x → e.w.cell? ⟨l.blk, 0 + r * 1 + j, none⟩ = some ((e.w.cell? ⟨l.blk, 0 + r * 1 + j, none⟩).getD undef) ∧ ((e.w.cell? ⟨l.blk, 0 + r * 1 + j, none⟩).getD undef).oneCell' = true ∧ VI e.w e.Im x ((e.w.cell? ⟨l.blk, 0 + r * 1 + j, none⟩).getD undef) := fun r row j x hr hx => by
    rw [List.getElem?_map, Option.map_eq_some_iff] at hr
    obtain ⟨y, hy, rfl⟩ := hr
    cases j with
    | succ j => simp at hx
    | zero =>
      simp at hx; subst hx
      obtain ⟨d, d1, _, d2, d3⟩ := hcell r (.v y) (by rw [List.getElem?_map, hy]; rfl)
      have e1 : l.off + r = 0 + r * 1 + 0 := by simp [Loc.off]
      rw [e1] at d1
      rw [d1]
      cases d3 with | v d3 => exact ⟨rfl, d2, d3⟩
  have := VI.sl (w := e.w) (Im := fun b => e.Im b ∨ l.blk = b) 1 (cs.map fun x => [x]) l.blk 0 cs.length (fun r j => (e.w.cell? ⟨l.blk, 0 + r * 1 + j, none⟩).getD undef) (.inr rfl) (fun row hm => by
    obtain ⟨x, _, rfl⟩ := List.mem_map.1 hm; rfl) (by simp) (fun r row j x hr hx => ⟨(hf r row j x hr hx).1, (hf r row j x hr hx).2.1⟩) (fun r row j x hr hx => ((hf r row j x hr hx).2.2).mono (fun _ h => .inl h) (fun _ _ => rfl))
  simpa using this

theorem retell {e : Env} (g : Good e) {o : Nat} {cs cs' : List RV} {l : Loc} (ho : e.H[o]? = some (.var cs)) (hl : e.ρ[o]? = some (some l)) (h : ∀ (j : Nat) x', cs'[j]? = some x' → cs[j]? = some x' ∨ (j < cs.length ∧ ∀ c, e.w.cell? ⟨l.blk, l.off + j, none⟩ = some c → VR e x' c)) :
    Good ⟨e.w, e.Im, e.ρ, e.H.set o (.var cs')⟩ ∧ Mv e ⟨e.w, e.Im, e.ρ, e.H.set o (.var cs')⟩ := by
  refine write_ok g e.w ho hl rfl rfl ⟨rfl, Nat.le_refl _⟩ rfl (fun _ _ => rfl) ⟨rfl, cs, rfl⟩ (fun e' he mv => ?_)
  obtain ⟨l', hl', hcell⟩ := g.obj o _ _ ho hl
  cases hl'
  refine ⟨l, rfl, fun j x' hx' => ?_⟩
  rw [he]
  rcases h j x' hx' with hx | ⟨hj, hx⟩
  · obtain ⟨c, h1, h2, h3, h4⟩ := hcell j x' hx
    exact ⟨c, h1, h2, h3, mv.vr h4⟩
  · obtain ⟨c, h1, h2, h3, h4⟩ := hcell j _ (list_get hj .any)
    exact ⟨c, h1, h2, h3, mv.vr (hx c h1)⟩

inductive Frz (H : List AObj) : RV → AV → Prop
  | v (x : AV) : Frz H (.v x) x
  | nil (sz : Nat) : Frz H (.v .nil) (.sl sz [])
  | os {o ver sz : Nat} {rows : List (List RV)} {rows' : List (List AV)} (h : H[o]? = some (.arr ver sz rows)) (hl : rows'.length = rows.length)
      (hr : ∀ (r : Nat) row row', rows[r]? = some row → rows'[r]? = some row' → row'.length = row.length) (hx : ∀ (r : Nat) row row' (j : Nat) x x', rows[r]? = some row → rows'[r]? = some row' → row[j]? = some x → row'[j]? = some x' → Frz H x x') : Frz H (.os o ver) (.sl sz rows')
  | pt {o r off : Nat} {cs : List RV} {cs' : List AV} (h : H[o]? = some (.var cs)) (hl : cs'.length = cs.length) (hx : ∀ (j : Nat) x x', cs[j]? = some x → cs'[j]? = some x' → Frz H x x') : Frz H (.pt o 0 r off) (.pim (cs'.drop off))
  | tr {cs : List RV} {cs' : List AV} (hl : cs'.length = cs.length) (hx : ∀ (j : Nat) x x', cs[j]? = some x → cs'[j]? = some x' → Frz H x x') : Frz H (.tr cs) (.tup cs')
  | gr {cs : List RV} {cs' : List AV} (hl : cs'.length = cs.length) (hx : ∀ (j : Nat) x x', cs[j]? = some x → cs'[j]? = some x' → Frz H x x') : Frz H (.gr cs) (.g cs')
  | g {cs cs' : List AV} (hl : cs'.length = cs.length) (hx : ∀ (j : Nat) x x', cs[j]? = some x → cs'[j]? = some x' → Frz H (.v x) x') : Frz H (.v (.g cs)) (.g cs')
  | fr {f : Nat} {cs : List RV} {cs' : List AV} (hl : cs'.length = cs.length) (hx : ∀ (j : Nat) x x', cs[j]? = some x → cs'[j]? = some x' → Frz H x x') : Frz H (.fr f cs) (.fn f cs')

theorem Frz.plain {H : List AObj} {o ver sz : Nat} {rows : List (List AV)} (h : H[o]? = some (.arr ver sz (rows.map fun row => row.map .v))) : Frz H (.os o ver) (.sl sz rows) := by
  refine .os h (by simp) (fun r row row' hr hr' => ?_) (fun r row row' j x x' hr hr' hx hx' => ?_)
  · rw [List.getElem?_map, hr'] at hr
    cases hr; simp
  · rw [List.getElem?_map, hr'] at hr
    cases hr
    rw [List.getElem?_map, hx'] at hx
    cases hx
    exact .v _

theorem Frz.list {H : List AObj} : ∀ {cs : List RV} {cs' : List AV}, (cs'.length = cs.length) → (∀ (j : Nat) x x', cs[j]? = some x → cs'[j]? = some x' → Frz H x x') → ∀ (j : Nat) x x', cs[j]? = some x → cs'[j]? = some x' → Frz H x x' := fun _ h => h

theorem freeze_ptr {e : Env} (g : Good e) {o ver r off : Nat} {cs : List AV} {c : Value} (ho : e.H[o]? = some (.var (cs.map .v))) (hv : VR e (.pt o ver r off) c) (h0 : off = 0) (hne : cs ≠ []) :
    ∃ e' : Env, e'.w = e.w ∧ e'.H = e.H.set o .none ∧ Good e' ∧ Mv e e' ∧ VI e'.w e'.Im (.pim cs) c := by
  obtain ⟨e', h1, h2, h3, h4, b, rfl, h5⟩ := freeze_var g ho hv h0
  refine ⟨e', h1, h2, h3, h4, ?_⟩
  have hrow : ∀ (j : Nat) x, cs[j]? = some x → (cs.map fun x => [x])[j]? = some [x] := fun j x hx => by rw [List.getElem?_map, hx]; rfl
  generalize hrows : (cs.map fun x => [x]) = rows at h5
  generalize hn : cs.length = n at h5
  cases h5 with
  | sl _ _ _ _ _ f hb hsz hcap hc hh =>
    refine .pim cs b 0 (fun j => f j 0) hb (fun j x hx => ?_) (fun j x hx => ?_)
    · have := hc j [x] 0 x (by rw [← hrows]; exact hrow j x hx) rfl
      simpa using this
    · exact hh j [x] 0 x (by rw [← hrows]; exact hrow j x hx) rfl
  | sle _ _ _ => exact absurd hrows (by simpa using hne)

theorem cut_arr {e : Env} (g : Good e) {o v sz n : Nat} {rows : List (List RV)} {c : Value} (ho : e.H[o]? = some (.arr v sz rows)) (hv : VR e (.sub o v 0 n) c) (h0 : 0 < n) :
    ∃ e' : Env, e'.w = e.w ∧ e'.H = e.H.set o (.arr (v + 1) sz (rows.take n)) ∧ Good e' ∧ Mv e e' ∧ VR e' (.os o (v + 1)) c := by
  have h1c : c.oneCell' = true := by cases hv; assumption
  obtain ⟨lc, hl, hle, hs⟩ := hv.subv g ho
  cases lc with
  | none => obtain ⟨h, _⟩ := hs; omega
  | some l =>
    obtain ⟨v1, _, _⟩ := hs
    have hw := write_ok g e.w (ob' := .arr (v + 1) sz (rows.take n)) ho hl rfl rfl ⟨rfl, Nat.le_refl _⟩ rfl (fun _ _ => rfl) ⟨v, sz, rows, rfl, .inl (Nat.lt_succ_self _)⟩ (fun e' he mv => by
      obtain ⟨hs', hcap, hroom, hcell⟩ := g.obj o _ _ ho hl
      refine ⟨fun row hr => hs' row (List.mem_of_mem_take hr), by simp; omega, fun k hk => by rw [he]; exact hroom k hk, fun r row j x hr hx => ?_⟩
      rw [List.getElem?_take] at hr
      split at hr
      · obtain ⟨c, k1, k2, k3⟩ := hcell r row j x hr hx
        exact ⟨c, by rw [he]; exact k1, k2, mv.vr k3⟩
      · cases hr)
    have hlt : o < e.H.length := (List.getElem?_eq_some_iff.1 ho).1
    refine ⟨⟨e.w, e.Im, e.ρ, e.H.set o (.arr (v + 1) sz (rows.take n))⟩, rfl, rfl, hw.1, hw.2, .os (.arr (v + 1) sz (rows.take n)) (some l) (by simp [hlt]) hl ⟨Nat.le_refl _, fun _ => ?_⟩ h1c⟩
    have := v1 rfl
    simp only [ArrV, Loc.off] at this ⊢
    rw [this, List.length_take, Nat.min_eq_left (by omega)]
theorem freeze_sub {e : Env} (g : Good e) {o ver sz lo n : Nat} {rows : List (List AV)} {c : Value} (ho : e.H[o]? = some (.arr ver sz (rows.map fun row => row.map .v))) (hv : VR e (.sub o ver lo n) c) :
    ∃ e' : Env, e'.w = e.w ∧ e'.H = e.H.set o .none ∧ Good e' ∧ Mv e e' ∧ VI e'.w e'.Im (.sl sz ((rows.drop lo).take n)) c := by
  obtain ⟨lc, hl, hle, hs⟩ := hv.subv g ho
  cases lc with
  | none =>
    obtain ⟨rfl, p, rfl⟩ := hs
    obtain ⟨e', h1, h2, h3, h4, _⟩ := freeze_one g (ver := ver) ho (c := .slice p 0 0) (.os _ _ ho hl ⟨Nat.le_refl _, fun _ => ⟨by
      obtain ⟨_, h⟩ := g.obj o _ _ ho hl
      rw [h]; rfl, p, rfl⟩⟩ rfl)
    exact ⟨e', h1, h2, h3, h4, by rw [List.take_zero]; exact .sle _ _ _⟩
  | some l =>
    obtain ⟨_, v2, p, cap, rfl⟩ := hs
    obtain ⟨e', h1, h2, h3, h4, h5⟩ := freeze_one g (ver := ver) ho (c := .slice (some ⟨l.blk, l.off, none⟩) rows.length l.cap) (.os _ _ ho hl ⟨Nat.le_refl _, fun _ => by simp [ArrV]⟩ rfl)
    refine ⟨e', h1, h2, h3, h4, ?_⟩
    by_cases hn : n = 0
    · subst hn; rw [List.take_zero]; exact .sle _ _ _
    · obtain ⟨cap', hcap, h6⟩ := v2 (by omega)
      cases h6
      have hlen : ((rows.drop lo).take n).length = n := by simp at hle ⊢; omega
      generalize hR : rows.length = L at h5
      cases h5 with
      | sl _ _ b off cap2 f hb hsz hcp hc hh =>
        have : VI e'.w e'.Im (.sl sz ((rows.drop lo).take n)) (.slice (some ⟨l.blk, l.off + lo * sz, none⟩) ((rows.drop lo).take n).length cap) := by
          refine .sl sz _ l.blk (l.off + lo * sz) cap (fun r j => f (lo + r) j) hb (fun row hr => hsz row (List.mem_of_mem_drop (List.mem_of_mem_take hr))) (by rw [hlen]; exact hcap) (fun r row j x hr hx => ?_) (fun r row j x hr hx => ?_)
          · rw [List.getElem?_take] at hr
            split at hr
            · rw [List.getElem?_drop] at hr
              have := hc _ _ _ _ hr hx
              rwa [show l.off + (lo + r) * sz + j = l.off + lo * sz + r * sz + j by rw [Nat.add_mul]; omega] at this
            · cases hr
          · rw [List.getElem?_take] at hr
            split at hr
            · rw [List.getElem?_drop] at hr
              exact hh _ _ _ _ hr hx
            · cases hr
        rwa [hlen] at this
      | sle _ _ _ =>
        simp at hle; omega

theorem frz_ok {e : Env} (g : Good e) {x : RV} {a : AV} (h : Frz e.H x a) : ∀ {c : Value}, VR e x c → VI e.w (fun b => e.Im b ∨ e.own b) a c := by
  induction h with
  | v x => intro c hv; cases hv with | v hv => exact hv.mono (fun _ h => .inl h) (fun _ _ => rfl)
  | nil sz => intro c hv; cases hv with | v hv => cases hv; exact .sle _ _ _
  | @os o ver sz rows rows' h hl hr hx ih =>
    intro c hv
    obtain ⟨lo, hlo, hav⟩ := hv.slice g h
    obtain ⟨hsz, hobj⟩ := g.obj _ _ _ h hlo
    cases lo with
    | none =>
      obtain ⟨h0, a, rfl⟩ := hav
      have : rows' = [] := List.eq_nil_of_length_eq_zero (by omega)
      subst this
      exact .sle _ _ _
    | some l =>
      have hav : c = .slice (some ⟨l.blk, l.off, none⟩) rows.length l.cap := hav
      obtain ⟨hcap, _, hcell⟩ := hobj
      have hgr : ∀ (r : Nat) row' (j : Nat) x', rows'[r]? = some row' → row'[j]? = some x' → ∃ row x, rows[r]? = some row ∧ row[j]? = some x := fun r row' j x' hr' hx' => by
        have h1 := (List.getElem?_eq_some_iff.1 hr').1
        have e1 := list_get (l := rows) (j := r) (by omega) []
        have h2 := (List.getElem?_eq_some_iff.1 hx').1
        have h3 := hr r _ row' e1 hr'
        exact ⟨_, _, e1, list_get (l := rows.getD r []) (j := j) (by omega) .any⟩
      have hf : ∀ (r : Nat) row' (j : Nat) x', rows'[r]? = some row' → row'[j]? = some x' → e.w.cell? ⟨l.blk, l.off + r * sz + j, none⟩ = some ((e.w.cell? ⟨l.blk, l.off + r * sz + j, none⟩).getD undef) ∧ ((e.w.cell? ⟨l.blk, l.off + r * sz + j, none⟩).getD undef).oneCell' = true ∧ VI e.w (fun b => e.Im b ∨ e.own b) x' ((e.w.cell? ⟨l.blk, l.off + r * sz + j, none⟩).getD undef) := fun r row' j x' hr' hx' => by
        obtain ⟨row, x, e1, e2⟩ := hgr r row' j x' hr' hx'
        obtain ⟨d, d1, d2, d3⟩ := hcell r _ j _ e1 e2
        rw [d1]
        exact ⟨rfl, d2, ih r row row' j x x' e1 hr' e2 hx' d3⟩
      rw [hav, ← hl]
      refine .sl sz rows' l.blk l.off l.cap (fun r j => (e.w.cell? ⟨l.blk, l.off + r * sz + j, none⟩).getD undef) (.inr ⟨o, l, hlo, rfl⟩) (fun row' hm => ?_) (by omega) (fun r row j x hr hx => ⟨(hf r row j x hr hx).1, (hf r row j x hr hx).2.1⟩) (fun r row j x hr hx => (hf r row j x hr hx).2.2)
      obtain ⟨r, hr'⟩ := List.getElem?_of_mem hm
      have h1 := (List.getElem?_eq_some_iff.1 hr').1
      have e1 := list_get (l := rows) (j := r) (by omega) []
      rw [hr r _ row' e1 hr', hsz _ (List.mem_of_getElem? e1)]
  | @pt o r off cs cs' h hl hx ih =>
    intro c hv
    obtain ⟨p1, _⟩ := hv.ptr g
    obtain ⟨_, l, hlo, rfl⟩ := p1 _ h
    obtain ⟨l', hl', hcell⟩ := g.obj _ _ _ h hlo
    cases hl'
    have hf : ∀ (j : Nat) x', (cs'.drop off)[j]? = some x' → e.w.cell? ⟨l.blk, l.off + off + j, none⟩ = some ((e.w.cell? ⟨l.blk, l.off + off + j, none⟩).getD undef) ∧ ((e.w.cell? ⟨l.blk, l.off + off + j, none⟩).getD undef).oneCell' = true ∧ VI e.w (fun b => e.Im b ∨ e.own b) x' ((e.w.cell? ⟨l.blk, l.off + off + j, none⟩).getD undef) := fun j x' hx' => by
      rw [List.getElem?_drop] at hx'
      have h1 := (List.getElem?_eq_some_iff.1 hx').1
      have e1 := list_get (l := cs) (j := off + j) (by omega) RV.any
      obtain ⟨d, d1, _, d2, d3⟩ := hcell _ _ e1
      rw [Nat.add_assoc, d1]
      exact ⟨rfl, d2, ih _ _ _ e1 hx' d3⟩
    exact .pim _ _ _ (fun j => (e.w.cell? ⟨l.blk, l.off + off + j, none⟩).getD undef) (.inr ⟨o, l, hlo, rfl⟩) (fun j x hx => ⟨(hf j x hx).1, (hf j x hx).2.1⟩) (fun j x hx => (hf j x hx).2.2)
  | @tr cs cs' hl hx ih =>
    intro c hv
    cases hv with
    | tr hn h => exact .tup _ _ (by omega) (fun j a c ha hc => by
        have e1 := list_get (l := cs) (j := j) (by have := (List.getElem?_eq_some_iff.1 ha).1; omega) RV.any
        exact ih j _ a e1 ha (h j _ c e1 hc))
  | @gr cs cs' hl hx ih =>
    intro c hv
    cases hv with
    | gr hn h1 h => exact .g _ _ (by omega) h1 (fun j a c ha hc => by
        have e1 := list_get (l := cs) (j := j) (by have := (List.getElem?_eq_some_iff.1 ha).1; omega) RV.any
        exact ih j _ a e1 ha (h j _ c e1 hc))
  | @g cs cs' hl hx ih =>
    intro c hv
    cases hv with
    | v hv =>
      cases hv with
      | g _ vs hn h1 h => exact .g _ _ (by omega) h1 (fun j a c ha hc => by
          have e1 := list_get (l := cs) (j := j) (by have := (List.getElem?_eq_some_iff.1 ha).1; omega) AV.nil
          exact ih j _ a e1 ha (.v (h j _ c e1 hc)))
  | @fr f cs cs' hl hx ih =>
    intro c hv
    cases hv with
    | fr hn h => exact .fn _ _ _ (by omega) (fun j a c ha hc => by
        have e1 := list_get (l := cs) (j := j) (by have := (List.getElem?_eq_some_iff.1 ha).1; omega) RV.any
        exact ih j _ a e1 ha (h j _ c e1 hc))

inductive Flat : AV → Prop
  | b (x : Bool) : Flat (.b x)
  | i (k : IntKind) (n : Int) : Flat (.i k n)
  | s (l : List UInt8) : Flat (.s l)
  | nil : Flat .nil
  | np : Flat .np
  | nf : Flat .nf
  | g {cs : List AV} (h : ∀ x ∈ cs, Flat x) : Flat (.g cs)
  | tup {cs : List AV} (h : ∀ x ∈ cs, Flat x) : Flat (.tup cs)

theorem Flat.vi {w w' : World} {Im Im' : Nat → Prop} {x : AV} (hf : Flat x) : ∀ {c : Value}, VI w Im x c → VI w' Im' x c := by
  induction hf with
  | b x => intro c h; cases h; exact .b _
  | i k n => intro c h; cases h; exact .i _ _
  | s l => intro c h; cases h; exact .s _
  | nil => intro c h; cases h; exact .nil _
  | np => intro c h; cases h; exact .np
  | nf => intro c h; cases h; exact .nf
  | g hc ih => intro c h; cases h with | g _ vs hn h1 h => exact .g _ _ hn h1 (fun j a c ha hc' => ih a (List.mem_of_getElem? ha) (h j a c ha hc'))
  | tup hc ih => intro c h; cases h with | tup _ vs hn h => exact .tup _ _ hn (fun j a c ha hc' => ih a (List.mem_of_getElem? ha) (h j a c ha hc'))

theorem freeze_all {e : Env} (g : Good e) : Good ⟨e.w, fun b => e.Im b ∨ e.own b, [], []⟩ :=
  ⟨rfl, fun o o' l l' h => by simp at h, fun o l h => by simp at h, fun o l h => by simp at h, fun b hb => hb.elim (g.imlt b) (fun ⟨o, l, h1, h2⟩ => h2 ▸ g.lt o l h1), fun o ob lo h => by simp at h⟩
end Go.Av
/- Maps that are written, ranged over. No condition. -/
set_option linter.constructorNameAsVariable false
namespace Go.Av
open Go Go.RowKit
set_option linter.unusedSimpArgs false
set_option linter.unusedVariables false

theorem same_cell {w : World} {Im : Nat → Prop} {k : CK} {a b : AV} {x y : Value} (hx : VI w Im a x) (hy : VI w Im b y) (h : fitA1 k a b) (he : eqA1 k a b = true) (n : Nat) : Instr.sameBits n y x = true := by
  unfold fitA1 at h
  split at h
  · cases hx; cases hy; subst h; simp [eqA1] at he; subst he; cases n <;> simp [Instr.sameBits]
  · cases hx; cases hy; simp [eqA1] at he; subst he; cases n <;> simp [Instr.sameBits]
  · cases hx; cases hy
    have : ∀ a b : ByteArray, a.data.toList = b.data.toList → (b == a) = true := fun a b h => by
      show (b.data == a.data) = true
      rw [beq_iff_eq]
      exact (Array.toList_inj.1 h).symm
    simp only [eqA1, beq_iff_eq] at he
    cases n <;> simp only [Instr.sameBits] <;> exact this _ _ he
  · exact h.elim
theorem same_cells {w : World} {Im : Nat → Prop} (n : Nat) : ∀ {ks : List CK} {as bs : List AV} {xs ys : List Value}, fitA ks as bs → eqA ks as bs = true → xs.length = as.length → ys.length = bs.length → (∀ (j : Nat) a x, as[j]? = some a → xs[j]? = some x → VI w Im a x) → (∀ (j : Nat) a x, bs[j]? = some a → ys[j]? = some x → VI w Im a x) →
    ((ys.zip xs).all fun (x, y) => Instr.sameBits n x y) = true
  | [], [], [], xs, ys, _, _, h1, h2, _, _ => by
    obtain rfl : xs = [] := List.eq_nil_of_length_eq_zero (by simpa using h1)
    obtain rfl : ys = [] := List.eq_nil_of_length_eq_zero (by simpa using h2)
    rfl
  | [k], [a], [b], xs, ys, h, he, h1, h2, hx, hy => by
    obtain ⟨x, rfl⟩ := List.length_eq_one_iff.1 (show xs.length = 1 by simpa using h1)
    obtain ⟨y, rfl⟩ := List.length_eq_one_iff.1 (show ys.length = 1 by simpa using h2)
    simp [same_cell (hx 0 a x rfl rfl) (hy 0 b y rfl rfl) h he n]
  | k :: k2 :: ks, a :: as, b :: bs, xs, ys, h, he, h1, h2, hx, hy => by
    cases xs with
    | nil => simp at h1
    | cons x xs =>
      cases ys with
      | nil => simp at h2
      | cons y ys =>
        obtain ⟨h3, h4⟩ := (show fitA1 k a b ∧ fitA (k2 :: ks) as bs from by unfold fitA at h; exact h)
        simp only [eqA, Bool.and_eq_true] at he
        have ih := same_cells n (xs := xs) (ys := ys) h4 he.2 (by simpa using h1) (by simpa using h2) (fun j a x p q => hx (j + 1) a x (by simpa using p) (by simpa using q)) (fun j a x p q => hy (j + 1) a x (by simpa using p) (by simpa using q))
        simp only [List.zip_cons_cons, List.all_cons, Bool.and_eq_true]
        exact ⟨same_cell (hx 0 a x rfl rfl) (hy 0 b y rfl rfl) h3 he.1 n, ih⟩
  | [], _ :: _, _, _, _, h, _, _, _, _, _ => by simp [fitA] at h
  | [], [], _ :: _, _, _, h, _, _, _, _, _ => by simp [fitA] at h
  | _ :: _, [], _, _, _, h, _, _, _, _, _ => by simp [fitA] at h
  | _ :: _, _ :: _, [], _, _, h, _, _, _, _, _ => by simp [fitA] at h
  | [_], _ :: _ :: _, _ :: _, _, _, h, _, _, _, _, _ => by simp [fitA] at h
  | [_], [_], _ :: _ :: _, _, _, h, _, _, _, _, _ => by simp [fitA] at h
theorem same_key {w : World} {Im : Nat → Prop} {ks : List CK} {x y : AV} {a b : Value} (ha : VI w Im x a) (hb : VI w Im y b) (hg : isG x = isG y) (hf : fitA ks (keyL x) (keyL y)) (he : eqK ks x y = true) : Instr.sameBits 10000 b a = true := by
  cases hx : isG x with
  | false =>
    have kx : keyL x = [x] := by cases x <;> simp_all [keyL, isG]
    have ky : keyL y = [y] := by cases y <;> simp_all [keyL, isG]
    simp only [eqK, kx, ky] at he
    rw [kx, ky] at hf
    cases ks with
    | nil => simp [fitA] at hf
    | cons k ks =>
      cases ks with
      | nil => exact same_cell ha hb (by simpa [fitA] using hf) (by simpa [eqA] using he) _
      | cons k2 ks =>
        have := fitA_len hf
        simp at this
  | true =>
    rw [hx] at hg
    cases x <;> simp [isG] at hx
    cases y <;> simp [isG] at hg
    cases ha with
    | g _ vs hn _ hv =>
      cases hb with
      | g _ us hm _ hw =>
        simp only [eqK, keyL] at he
        simp only [keyL] at hf
        have hl := fitA_len hf
        have := same_cells (w := w) (Im := Im) 9999 (xs := vs.toList) (ys := us.toList) hf he (by simpa using hn) (by simpa using hm) (fun j a x p q => hv j a x p (by simpa using q)) (fun j a x p q => hw j a x p (by simpa using q))
        show (us.size == vs.size && _) = true
        rw [this]
        simp
        omega

def setPair : List Value → Nat → Value → Value → List Value
  | _ :: _ :: r, 0, a, v => a :: v :: r
  | k :: x :: r, i + 1, a, v => k :: x :: setPair r i a v
  | l, _, _, _ => l
theorem MapV.set {e : Env} {key val : AV} {a v : Value} (ha : VI e.w e.Im key a) (hv : VI e.w e.Im val v) : ∀ {ps : List (AV × AV)} {vs : List Value} (i : Nat), MapV e ps vs → MapV e (ps.set i (key, val)) (setPair vs i a v)
  | [], vs, i, h => by rw [h.mapV_nil]; simpa [setPair] using MapV.nil
  | p :: ps, vs, i, h => by
    obtain ⟨x, y, vs', rfl⟩ := h.split
    obtain ⟨h1, h2, h3⟩ := h.cons
    cases i with
    | zero => exact MapV.mk (p := (key, val)) ha hv h3
    | succ i => exact MapV.mk h1 h2 (MapV.set ha hv i h3)
theorem ents_set {e : Env} {a v : Value} : ∀ {ps : List (AV × AV)} {vs : List Value} (n i : Nat), MapV e ps vs → entsV n (setPair vs i a v) = (entsV n vs).modify i fun x => { x with key := a, val := v }
  | [], vs, n, i, h => by rw [h.mapV_nil]; simp [setPair, entsV]
  | p :: ps, vs, n, i, h => by
    obtain ⟨x, y, vs', rfl⟩ := h.split
    cases i with
    | zero => simp [setPair, entsV]
    | succ i => simp [setPair, entsV, ents_set (n + 1) i h.cons.2.2]
theorem MapV.app {e : Env} {key val : AV} {a v : Value} (ha : VI e.w e.Im key a) (hv : VI e.w e.Im val v) : ∀ {ps : List (AV × AV)} {vs : List Value}, MapV e ps vs → MapV e (ps ++ [(key, val)]) (vs ++ [a, v])
  | [], vs, h => by rw [h.mapV_nil]; exact MapV.mk (p := (key, val)) ha hv MapV.nil
  | p :: ps, vs, h => by
    obtain ⟨x, y, vs', rfl⟩ := h.split
    obtain ⟨h1, h2, h3⟩ := h.cons
    exact MapV.mk h1 h2 (MapV.app ha hv h3)
theorem ents_app {e : Env} {a v : Value} : ∀ {ps : List (AV × AV)} {vs : List Value} (n : Nat), MapV e ps vs → entsV n (vs ++ [a, v]) = entsV n vs ++ [⟨a, v, n + ps.length⟩]
  | [], vs, n, h => by rw [h.mapV_nil]; simp [entsV]
  | p :: ps, vs, n, h => by
    obtain ⟨x, y, vs', rfl⟩ := h.split
    simp [entsV, ents_app (n + 1) h.cons.2.2]
    omega

theorem map_put {e : Env} (g : Good e) {o : Nat} {ps ps' : List (AV × AV)} {vs vs' : List Value} {l : Loc} {es : Array MapEntry} {n : Nat} (h1 : e.H[o]? = some (.xo .mp (mrow ps))) (h2 : e.ρ[o]? = some (some l)) (h5 : e.w.heap[l.blk]? = some (.map es n)) (hm : MapV e ps' vs') :
    ∃ e' : Env, e'.w = { e.w with heap := e.w.heap.setIfInBounds l.blk (.map (entsV 0 vs').toArray ps'.length) } ∧ e'.H = e.H.set o (.xo .mp (mrow ps')) ∧ Good e' ∧ Mv e e' := by
  have hs := MapKept.heap_set (o' := .map (entsV 0 vs').toArray ps'.length) h5
  have hp := write_ok g { e.w with heap := e.w.heap.setIfInBounds l.blk (.map (entsV 0 vs').toArray ps'.length) } (ob' := .xo .mp (mrow ps')) h1 h2 rfl rfl ⟨rfl, Nat.le_refl _⟩ (by simp) (fun b hb => hs.2 b hb) ⟨rfl, _, _, rfl, rfl⟩ (fun e' he mv => by
    refine ⟨l, vs', .map (entsV 0 vs').toArray (entsV 0 vs').length, rfl, by simpa using hm.1, by simp [XK.obj, hm.1], ?_, fun j x c hx hc => mv.vr (hm.2 j x c hx hc)⟩
    · rw [he]
      simp only
      rw [hs.1, ents_len 0 hm])
  exact ⟨_, rfl, rfl, hp.1, hp.2⟩

theorem mup_ok {P : Program} {e : Env} (g : Good e) {t kt et : TypeId} {ks : List CK} {s : Option Nat} (hu : P.underlying t = some (.map kt et)) (hk : flatK P 40 kt = some ks) (hz : tSize P kt = some ks.length) (hs : aggSize P kt = some s) {m key val : RV} {a b v : Value} {C : Prop} {r : RV} {H' : List AObj}
    (hm : VR e m a) (hkey : VR e key b) (hval : VR e val v) (h : evMup s.isSome ks m key val e.H = some (C, r, H')) (hC : C) :
    ∃ e' : Env, e'.H = H' ∧ Good e' ∧ Mv e e' ∧ (Instr.mapUpdate t a b v).run P e.w = .ok () e'.w ∧ r = .any := by
  cases key <;> simp only [evMup] at h <;> try (cases h; done)
  cases val <;> simp only [] at h <;> try (cases h; done)
  rename_i key val
  obtain ⟨⟨o, ps⟩, hmo, he⟩ := Option.map_eq_some_iff.1 h
  cases he
  obtain ⟨l, vs, q1, q2, rfl, q4, q5⟩ := map_mem g hmo hm
  have hb := vr_v hkey
  have hv := vr_v hval
  have hc := chkKey_ok (P := P) hk hz hs false hb hC.1 hC.2.1
  have hfi := findKey_ok hk hz hs hb q4 hC
  unfold Instr.mapUpdate
  simp only [Sem.run_bind, run_underlying hu, Result.andThen_ok, MapKept.run_getObj_map q5, hc, hfi, foundV, mput]
  cases hf : mfind ks key ps with
  | none =>
    simp only [Option.map_none]
    obtain ⟨e', k1, k2, k3, k4⟩ := map_put g (vs := vs) q1 q2 q5 (q4.app hb hv)
    refine ⟨e', k2, k3, k4, ?_, by first | trivial | rfl⟩
    rw [k1, MapKept.run_setObj_map _ q5, ents_app 0 q4]
    simp
  | some i =>
    simp only [Option.map_some, Nat.zero_add]
    have hlt := findIdx?_lt hf
    obtain ⟨e', k1, k2, k3, k4⟩ := map_put g (vs := vs) q1 q2 q5 (q4.set hb hv i)
    refine ⟨e', k2, k3, k4, ?_, by first | trivial | rfl⟩
    obtain ⟨k, x, e1, e2, e3⟩ := ents_get 0 q4 i _ (List.getElem?_eq_getElem hlt)
    have hmem : ps[i] ∈ ps := List.getElem_mem hlt
    obtain ⟨f1, f2⟩ := hC.2.2 _ hmem
    have heq : eqK ks key ps[i].1 = true := by
      obtain ⟨hh, hp, _⟩ := List.findIdx?_eq_some_iff_getElem.1 hf
      exact hp
    have hsame := same_key hb e2 (hC.1.trans f1.symm) f2 heq
    have hke : (Instr.keyThatStays ((((entsV 0 vs).toArray[i]?).map (·.key)).getD b) b).run P e.w = .ok b e.w := by
      simp only [List.getElem?_toArray, e1, Option.map_some, Option.getD_some, Instr.keyThatStays, hsame, if_true, Sem.run_pure]
    simp only [Sem.run_bind, hke, Result.andThen_ok]
    rw [k1, MapKept.run_setObj_map _ q5, ents_set 0 i q4]
    simp
theorem alloc_size (w : World) (o : Obj) : (w.alloc o).heap.size = w.heap.size + 1 := by show (w.heap.push o).size = _; simp
theorem rng_ok {P : Program} {e : Env} (g : Good e) {t kt et : TypeId} (hu : P.underlying t = some (.map kt et)) {m : RV} {a : Value} {C : Prop} {r : RV} {H' : List AObj} (hm : VR e m a) (h : evRng m e.H = some (C, r, H')) :
    ∃ e' : Env, e'.H = H' ∧ Good e' ∧ Mv e e' ∧ ∃ c, (Instr.range t a).run P e.w = .ok c e'.w ∧ VR e' r c := by
  obtain ⟨⟨o, ps⟩, hmo, he⟩ := Option.map_eq_some_iff.1 h
  cases he
  obtain ⟨l, vs, q1, q2, rfl, q4, q5⟩ := map_mem g hmo hm
  have hrun := run_range_map (P := P) e.w t kt et l.blk _ _ hu q5
  have hp := push_ok g (e.w.alloc (.mapIter (some l.blk) ps.length #[] ps.length)) (.xo (.it ps.length []) [m]) (some ⟨e.w.heap.size, 0⟩) rfl rfl ⟨rfl, Nat.le_refl _⟩ (by rw [alloc_size]; omega) (fun b hb => heap_alloc_old _ _ hb) (fun l' hl' => by cases hl'; exact ⟨Nat.le_refl _, by rw [alloc_size]; exact Nat.lt_succ_self _⟩) (fun e' he mv => by
    refine ⟨_, [.map (some l.blk)], _, rfl, rfl, rfl, by rw [he]; exact heap_alloc_new _ _, fun j x c hx hc => ?_⟩
    match j with
    | 0 => simp at hx hc; subst hx; subst hc; exact mv.vr hm
    | j + 1 => simp at hx)
  exact ⟨⟨_, _, _, _⟩, rfl, hp.1, hp.2, _, hrun, .pt (.xo (.it ps.length []) [m]) (some ⟨e.w.heap.size, 0⟩) (by simp) (by simp [← g.len]) ⟨rfl, _, rfl, rfl⟩ rfl⟩
theorem alb_ok {e : Env} (g : Good e) (t el : TypeId) : ∃ e' : Env, e'.w = e.w.alloc (.cells #[.pointer none, .slice none 0 0] t) ∧ e'.H = e.H ++ [.buf el 0 [], .xo (.bv t) [.v .np, .os e.H.length 0]] ∧ Good e' ∧ Mv e e' ∧ VR e' (.pt (e.H.length + 1) 0 0 0) (.pointer (some ⟨e.w.heap.size, 0, none⟩)) := by
  have hp := push_ok g e.w (.buf el 0 []) none rfl rfl ⟨rfl, Nat.le_refl _⟩ (Nat.le_refl _) (fun b hb => rfl) (fun l' hl' => by cases hl') (fun e' he mv => rfl)
  have hq := push_ok hp.1 (e.w.alloc (.cells #[.pointer none, .slice none 0 0] t)) (.xo (.bv t) [.v .np, .os e.H.length 0]) (some ⟨e.w.heap.size, 0⟩) rfl rfl ⟨rfl, Nat.le_refl _⟩ (by rw [alloc_size]; exact Nat.le_succ _) (fun b hb => heap_alloc_old _ _ hb) (fun l' hl' => by cases hl'; exact ⟨Nat.le_refl _, by rw [alloc_size]; exact Nat.lt_succ_self _⟩) (fun e' he mv => by
    obtain ⟨ob', lo', q1, q2, q3⟩ := mv.nx e.H.length (.buf el 0 []) none (by simp) (by simp [← g.len])
    refine ⟨_, [.pointer none, .slice none 0 0], _, rfl, rfl, rfl, by rw [he]; exact heap_alloc_new _ _, fun j x c hx hc => ?_⟩
    match j with
    | 0 => simp at hx hc; subst hx; subst hc; exact .v .np
    | 1 =>
      simp at hx hc; subst hx; subst hc
      exact .os ob' lo' q1 q2 (osOK.next (ob := .buf el 0 []) (lo := none) ⟨Nat.le_refl _, fun _ => ⟨rfl, rfl⟩⟩ q3) rfl
    | j + 2 => simp at hx)
  refine ⟨_, rfl, by simp, hq.1, hp.2.trans hq.2 g, .pt (.xo (.bv t) [.v .np, .os e.H.length 0]) (some ⟨e.w.heap.size, 0⟩) (by simp) ?_ ⟨rfl, _, rfl, rfl⟩ rfl⟩
  have := g.len
  simp [← this]
theorem mkm_ok {P : Program} {e : Env} (g : Good e) (t : TypeId) : ∃ e' : Env, e'.H = e.H ++ [.xo .mp []] ∧ Good e' ∧ Mv e e' ∧ ∃ c, (Instr.makeMap t none).run P e.w = .ok c e'.w ∧ VR e' (.pt e.H.length 0 0 0) c := by
  have hp := push_ok g (e.w.alloc (.map #[] 0)) (.xo .mp []) (some ⟨e.w.heap.size, 0⟩) rfl rfl ⟨rfl, Nat.le_refl _⟩ (by rw [alloc_size]; omega) (fun b hb => heap_alloc_old _ _ hb) (fun l' hl' => by cases hl'; exact ⟨Nat.le_refl _, by rw [alloc_size]; exact Nat.lt_succ_self _⟩) (fun e' he mv => by
    refine ⟨_, [], _, rfl, rfl, rfl, by rw [he]; exact heap_alloc_new _ _, fun j x c hx hc => by simp at hx⟩)
  refine ⟨⟨_, _, _, _⟩, rfl, hp.1, hp.2, .map (some e.w.heap.size), ?_, .pt (.xo .mp []) (some ⟨e.w.heap.size, 0⟩) (by simp) (by simp [← g.len]) ⟨rfl, _, rfl, rfl⟩ rfl⟩
  simp [Instr.makeMap]

theorem left_ents {e : Env} {ps : List (AV × AV)} {vs : List Value} (hm : MapV e ps vs) (seen : List Nat) :
    (∀ x, x ∈ (leftOf (entsV 0 vs).toArray seen.toArray).toList ↔ ∃ i, i ∉ seen ∧ (entsV 0 vs)[i]? = some x) := by
  intro x
  simp only [leftOf, List.filter_toArray', List.contains_toArray]
  simp only [List.filter_toArray, List.mem_filter]
  constructor
  · rintro ⟨h1, h2⟩
    obtain ⟨i, hi⟩ := List.getElem?_of_mem h1
    have hb := (find_ents 0 hm hi).1
    rw [hb] at h2
    exact ⟨i, by simpa using h2, hi⟩
  · rintro ⟨i, h1, h2⟩
    have hb := (find_ents 0 hm h2).1
    exact ⟨List.mem_of_getElem? h2, by rw [hb]; simpa using h1⟩

theorem run_next {P : Program} {w : World} {ty : TypeId} {r bm n : Nat} {seen : Array Nat} {es : Array MapEntry} (hr : w.heap[r]? = some (.mapIter (some bm) n seen n)) (hb : w.heap[bm]? = some (.map es n)) (hold : ∀ x ∈ es.toList, x.born < n) :
    ((leftOf es seen).size = 0 ∧ (Instr.next (.pointer (some ⟨r, 0, none⟩)) false ty).run P w = .ok (.tuple #[.bool false]) w) ∨
    ∃ x ∈ (leftOf es seen).toList, ∃ w1 : World, w1.heap = w.heap ∧ w1.os = w.os ∧ w1.tape = w.tape ∧ OutW w w1 ∧ (Instr.next (.pointer (some ⟨r, 0, none⟩)) false ty).run P w = .ok (.tuple #[.bool true, x.key, x.val]) { w1 with heap := w.heap.setIfInBounds r (.mapIter (some bm) n (seen.push x.born) n) } := by
  simp only [Instr.next, getObj, Sem.run_bind, Sem.run, hr, hb, Result.andThen, next_test_false seen es n n hold (Nat.le_refl _), Bool.false_eq_true, if_false]
  unfold leftOf
  have hmem : ∀ x ∈ (Array.filter (fun e => !seen.contains e.born) es).toList, x.born < n := fun x hx => hold x (by simp at hx ⊢; exact hx.1)
  generalize Array.filter (fun e => !seen.contains e.born) es = L at hmem ⊢
  have e1 : L.filter (fun x => decide (x.born < n)) = L := Array.filter_eq_self.2 (fun x hx => by simpa using hmem x (by simpa using hx))
  have e2 : L.filter (fun x => decide (x.born ≥ n)) = #[] := by
    rw [Array.filter_eq_empty_iff]
    intro x hx
    have := hmem x (by simpa using hx)
    simp
    omega
  simp only [e1, e2, Array.append_empty]
  by_cases h0 : L.size = 0
  · left
    have : L = #[] := Array.eq_empty_of_size_eq_zero h0
    subst this
    refine ⟨rfl, ?_⟩
    simp [choose, Sem.run, Question.forced]
  · right
    have hne : L.isEmpty = false := by simp [Array.isEmpty, h0]
    simp only [hne, Bool.false_eq_true, if_false, Array.empty_append, Array.size_map]
    have hch : ∃ (j : Nat) (w1 : World), j < L.size ∧ w1.heap = w.heap ∧ w1.os = w.os ∧ w1.tape = w.tape ∧ OutW w w1 ∧ (choose (Question.mapNext L.size)).run P w = .ok j w1 := by
      by_cases hf : L.size ≤ 1
      · exact ⟨0, w, by omega, rfl, rfl, rfl, ⟨rfl, Nat.le_refl _⟩, by simp [choose, Sem.run, Question.forced, hf]⟩
      · exact ⟨_, w.drew, Nat.mod_lt _ (by omega), rfl, rfl, rfl, ⟨rfl, Nat.le_succ _⟩, by
          simp only [choose, Sem.run, Question.forced, decide_eq_true_eq, hf, if_false, Question.cut]
          rfl⟩
    obtain ⟨j, w1, hj, k1, k2, k3, k4, hrun⟩ := hch
    refine ⟨L[j], by simp, w1, k1, k2, k3, k4, ?_⟩
    have hset : ∀ (o' : Obj), (setObj r o').run P w1 = .ok () { w1 with heap := w.heap.setIfInBounds r o' } := fun o' => by
      simp only [setObj, Sem.run, k1, hr]
    simp only [hrun, Array.getElem?_map, Array.getElem?_eq_getElem hj, Option.map_some, Sem.run_bind, hset, Result.andThen]
    rfl

theorem nxt_ok {P : Program} {e : Env} (g : Good e) {ty : TypeId} {it : RV} {a : Value} {K : RV → List AObj → Prop} (hx : VR e it a) (h : NxtK it e.H K) :
    ∃ (e' : Env) (r : RV) (c : Value), (Instr.next a false ty).run P e.w = .ok c e'.w ∧ Good e' ∧ Mv e e' ∧ VR e' r c ∧ K r e'.H := by
  unfold NxtK at h
  split at h
  · rename_i it o ver r0 off o' om ps n seen hit
    obtain ⟨l, lm, vs, y, q1, q2, rfl, q4, q5, q6, q7, q8, hy⟩ := it_mem g hit hx
    have ho : o' = o := by
      simp only [itOf] at hit
      split at hit
      · obtain ⟨z, _, he⟩ := Option.map_eq_some_iff.1 hit
        cases he; rfl
      · cases hit
    subst ho
    rw [q1] at h
    simp only at h
    obtain ⟨hn, h1, h2⟩ := h
    have hl := left_ents q7 seen
    have hold : ∀ x ∈ (entsV 0 vs).toArray.toList, x.born < n := fun x hx => by
      obtain ⟨i, hi⟩ := List.getElem?_of_mem hx
      have hi : (entsV 0 vs)[i]? = some x := by simpa using hi
      have hb := (find_ents 0 q7 hi).1
      have hlt := (List.getElem?_eq_some_iff.1 hi).1
      have := ents_len 0 q7
      omega
    rw [hn] at q8
    rcases run_next (P := P) (ty := ty) q4 q8 hold with ⟨h0, hrun⟩ | ⟨x, hxm, w1, k1, k2, k3, k4, hrun⟩
    · refine ⟨e, _, _, hrun, g, .refl, .v (.tup _ _ rfl fun j x c hx hc => ?_), h1 fun i hi => ?_⟩
      · match j with
        | 0 => simp at hx hc; subst hx; subst hc; exact .b _
        | j + 1 => simp at hx
      · by_cases hc : i ∈ seen
        · exact hc
        · have hlt : i < ps.length := by omega
          obtain ⟨k, v, e1, e2, e3⟩ := ents_get 0 q7 i _ (List.getElem?_eq_getElem hlt)
          have := (hl _).2 ⟨i, hc, e1⟩
          have hz : (leftOf (entsV 0 vs).toArray seen.toArray) = #[] := Array.eq_empty_of_size_eq_zero h0
          rw [hz] at this
          simp at this
    · obtain ⟨i, hi, hxi⟩ := (hl x).1 hxm
      have hlt : i < ps.length := by have := (List.getElem?_eq_some_iff.1 hxi).1; rw [ents_len 0 q7] at this; exact this
      obtain ⟨k, v, e1, e2, e3⟩ := ents_get 0 q7 i _ (List.getElem?_eq_getElem hlt)
      rw [hxi] at e1; cases e1
      have hs := MapKept.heap_set (o' := .mapIter (some lm.blk) n (seen.toArray.push i) n) q4
      simp only [Nat.zero_add] at hrun
      have hp := write_ok g { w1 with heap := e.w.heap.setIfInBounds l.blk (.mapIter (some lm.blk) n (seen.toArray.push i) n) } (ob' := .xo (.it n (seen ++ [i])) [y]) q1 q2 k2 k3 k4 (by simp) (fun b hb => hs.2 b hb) ⟨rfl, _, _, rfl, rfl⟩ (fun e' he mv => by
        refine ⟨l, [.map (some lm.blk)], _, rfl, rfl, rfl, by rw [he]; simpa using hs.1, fun j x c hx hc => ?_⟩
        match j with
        | 0 => simp at hx hc; subst hx; subst hc; exact mv.vr hy
        | j + 1 => simp at hx)
      refine ⟨_, _, _, hrun, hp.1, hp.2, .v (.tup _ _ rfl fun j x c hx hc => ?_), h2 i (by omega) hi⟩
      match j with
      | 0 => simp at hx hc; subst hx; subst hc; exact .b _
      | 1 => simp at hx hc; subst hx; subst hc; simpa [hlt] using hp.2.vi e2
      | 2 => simp at hx hc; subst hx; subst hc; simpa [hlt] using hp.2.vi e3
      | j + 3 => simp at hx
  · exact h.elim
end Go.Av
