/- New arrays, and arrays that grow: the memory's part. No condition. -/
import Derived.Test.YtdjcfjfgdblefaaAv4
import Derived.Laws.AppendOwn
import Derived.Laws.IdiomCopy
import Derived.Laws.MakeOwn
set_option linter.constructorNameAsVariable false
namespace Go.Av
open Go Go.RowKit
set_option linter.unusedSimpArgs false
set_option linter.unusedVariables false

/-- **AN OBJECT GOES ON**, where it lay or in a new block. -/
theorem upd_ok {e : Env} (g : Good e) (w' : World) {o : Nat} {ob ob' : AObj} {lo : Option Loc} {l' : Loc} (ho : e.H[o]? = some ob) (hl : e.ρ[o]? = some lo)
    (h1 : w'.os = e.w.os) (h2 : w'.tape = e.w.tape) (h3 : w'.output = e.w.output) (h4 : e.w.heap.size ≤ w'.heap.size) (h5 : ∀ b, b < e.w.heap.size → (∀ l, lo = some l → b ≠ l.blk) → w'.heap[b]? = e.w.heap[b]?)
    (h6 : (∃ l, lo = some l ∧ l.blk = l'.blk) ∨ e.w.heap.size ≤ l'.blk) (h6' : l'.blk < w'.heap.size)
    (hn : Nxt ob lo ob' (some l')) (h7 : ∀ e' : Env, e'.w = w' → Mv e e' → ObjR e' ob' (some l')) :
    Good ⟨w', e.Im, e.ρ.set o (some l'), e.H.set o ob'⟩ ∧ Mv e ⟨w', e.Im, e.ρ.set o (some l'), e.H.set o ob'⟩ := by
  have hlt : o < e.H.length := (List.getElem?_eq_some_iff.1 ho).1
  have hltr : o < e.ρ.length := (List.getElem?_eq_some_iff.1 hl).1
  have mv : Mv e ⟨w', e.Im, e.ρ.set o (some l'), e.H.set o ob'⟩ := by
    refine ⟨h1, h2, h3, h4, fun b hb hb' => h5 b hb (fun l hc hd => hb' ⟨o, l, by rw [hl, hc], hd.symm⟩), fun _ h => h, fun b hb => h5 b (g.imlt b hb) (fun l hc hd => g.dis o l (by rw [hl, hc]) (hd ▸ hb)), fun b h => .inl h, ?_, ?_⟩
    · intro k x y hx hy
      by_cases hk : o = k
      · subst hk
        rw [ho] at hx; cases hx
        rw [hl] at hy; cases hy
        exact ⟨ob', some l', by simp [hlt], by simp [hltr], hn⟩
      · exact ⟨x, y, by simp [List.getElem?_set, hk, hx], by simp [List.getElem?_set, hk, hy], .refl _ _⟩
    · rintro b ⟨k, l, hk, rfl⟩
      have hk : (e.ρ.set o (some l'))[k]? = some (some l) := hk
      rcases set_get hk with ⟨rfl, hk1⟩ | ⟨hne, hk1⟩
      · cases hk1
        rcases h6 with ⟨l, hlo, h6⟩ | h6
        · exact .inl ⟨o, l, by rw [hl, hlo], h6⟩
        · exact .inr h6
      · exact .inl ⟨k, l, hk1, rfl⟩
  refine ⟨⟨by simp [g.len], ?_, ?_, ?_, fun b hb => Nat.lt_of_lt_of_le (g.imlt b hb) h4, ?_⟩, mv⟩
  · intro k k' l1 l2 hk hk' hne
    rcases set_get hk with ⟨rfl, hk1⟩ | ⟨hk0, hk1⟩ <;> rcases set_get hk' with ⟨rfl, hk2⟩ | ⟨hk0', hk2⟩
    · exact absurd rfl hne
    · cases hk1
      rcases h6 with ⟨l, hlo, h6⟩ | h6
      · rw [← h6]; exact g.inj o k' l l2 (by rw [hl, hlo]) hk2 hne
      · have := g.lt k' l2 hk2; omega
    · cases hk2
      rcases h6 with ⟨l, hlo, h6⟩ | h6
      · rw [← h6]; exact g.inj k o l1 l hk1 (by rw [hl, hlo]) hne
      · have := g.lt k l1 hk1; omega
    · exact g.inj k k' l1 l2 hk1 hk2 hne
  · intro k l hk
    rcases set_get hk with ⟨rfl, hk1⟩ | ⟨hk0, hk1⟩
    · cases hk1
      rcases h6 with ⟨l, hlo, h6⟩ | h6
      · rw [← h6]; exact g.dis o l (by rw [hl, hlo])
      · intro hi; have := g.imlt _ hi; omega
    · exact g.dis k l hk1
  · intro k l hk
    rcases set_get hk with ⟨rfl, hk1⟩ | ⟨hk0, hk1⟩
    · cases hk1; exact h6'
    · exact Nat.lt_of_lt_of_le (g.lt k l hk1) h4
  · intro k x y hx hy
    rcases set_get hx with ⟨rfl, rfl⟩ | ⟨hk, hx⟩
    · have : some y = some (some l') := by rw [← hy]; simp [hltr]
      cases this
      exact h7 _ rfl mv
    · rcases set_get hy with ⟨hk', _⟩ | ⟨_, hy⟩
      · exact absurd hk' hk
      · refine (g.obj k x y hx hy).keep (fun l hl1 => ?_) mv
        subst hl1
        refine h5 _ (g.lt k l hy) (fun l2 hl2 => ?_)
        exact g.inj k o l l2 hy (by rw [hl, hl2]) (fun hc => hk hc.symm)

/-- What an array's cells hold, in a block. -/
def RowsAt (e : Env) (sz : Nat) (rows : List (List RV)) (vs : Array Value) : Prop :=
  ∀ (r : Nat) row (j : Nat) x, rows[r]? = some row → row[j]? = some x → ∃ c, vs[r * sz + j]? = some c ∧ c.oneCell' = true ∧ VR e x c

theorem RowsAt.mv {e e' : Env} {sz : Nat} {rows : List (List RV)} {vs : Array Value} (h : RowsAt e sz rows vs) (mv : Mv e e') : RowsAt e' sz rows vs := fun r row j x hr hx => by
  obtain ⟨c, h1, h2, h3⟩ := h r row j x hr hx
  exact ⟨c, h1, h2, mv.vr h3⟩

theorem objR_alloc {e e' : Env} {w0 : World} {vs : Array Value} {ty : TypeId} {sz cap ver : Nat} {rows : List (List RV)} (he : e'.w = w0.alloc (.cells vs ty)) (hb : w0.heap.size = e.w.heap.size) (hs : ∀ row ∈ rows, row.length = sz) (hsz : vs.size = cap * sz) (hcap : rows.length ≤ cap) (h : RowsAt e' sz rows vs) :
    ObjR e' (.arr ver sz rows) (some ⟨e.w.heap.size, 0, cap⟩) := by
  refine ⟨hs, hcap, fun k hk => ?_, fun r row j x hr hx => ?_⟩
  · obtain ⟨c, hc⟩ := array_get hsz hk
    rw [he, ← hb, Nat.zero_add, alloc_cell, alloc_frozen]
    exact ⟨c, hc, rfl⟩
  · obtain ⟨c, h1, h2, h3⟩ := h r row j x hr hx
    refine ⟨c, ?_, h2, h3⟩
    rw [he, ← hb, Nat.zero_add, alloc_cell, h1]

/-- A new array. -/
theorem new_arr {e : Env} (g : Good e) (w0 : World) (hw0 : w0.os = e.w.os ∧ w0.tape = e.w.tape ∧ w0.output = e.w.output ∧ w0.heap = e.w.heap) (ty : TypeId) (vs : Array Value) (sz cap : Nat) (rows : List (List RV)) (hs : ∀ row ∈ rows, row.length = sz) (hsz : vs.size = cap * sz) (hcap : rows.length ≤ cap) (h : RowsAt e sz rows vs) :
    ∃ e' : Env, e'.w = w0.alloc (.cells vs ty) ∧ e'.H = e.H ++ [.arr 0 sz rows] ∧ Good e' ∧ Mv e e' ∧ VR e' (.os e.H.length 0) (.slice (some ⟨e.w.heap.size, 0, none⟩) rows.length cap) := by
  obtain ⟨e1, e2, e3, e4⟩ := hw0
  have hp := push_ok g (w0.alloc (.cells vs ty)) (.arr 0 sz rows) (some ⟨e.w.heap.size, 0, cap⟩) e1 e2 e3 (by simp [e4]) (fun b hb => by rw [alloc_same (by rw [e4]; exact hb), e4]) (fun l hl => by cases hl; simp [e4])
    (fun e' he mv => objR_alloc he (by rw [e4]) hs hsz hcap (h.mv mv))
  refine ⟨_, rfl, rfl, hp.1, hp.2, ?_⟩
  exact .os (.arr 0 sz rows) (some ⟨e.w.heap.size, 0, cap⟩) (by simp) (by simp [← g.len]) ⟨Nat.le_refl _, fun _ => rfl⟩ rfl

/-- A new array that nobody will write. -/
theorem new_plain {e : Env} (g : Good e) (w0 : World) (hw0 : w0.os = e.w.os ∧ w0.tape = e.w.tape ∧ w0.output = e.w.output ∧ w0.heap = e.w.heap) (ty : TypeId) (vs : Array Value) (sz cap : Nat) (rows : List (List AV)) (hs : ∀ row ∈ rows, row.length = sz) (hsz : vs.size = cap * sz) (hcap : rows.length ≤ cap) (h : RowsAt e sz (rows.map fun row => row.map .v) vs) :
    ∃ e' : Env, e'.w = w0.alloc (.cells vs ty) ∧ e'.H = e.H ∧ Good e' ∧ Mv e e' ∧ VI e'.w e'.Im (.sl sz rows) (.slice (some ⟨e.w.heap.size, 0, none⟩) rows.length cap) := by
  obtain ⟨e1, e2, e3, e4⟩ := hw0
  have sm : ∀ b, b < e.w.heap.size → (w0.alloc (.cells vs ty)).heap[b]? = e.w.heap[b]? := fun b hb => by rw [alloc_same (by rw [e4]; exact hb), e4]
  have hsz' : (w0.alloc (.cells vs ty)).heap.size = e.w.heap.size + 1 := by simp [e4]
  have mv : Mv e ⟨w0.alloc (.cells vs ty), fun b => e.Im b ∨ b = e.w.heap.size, e.ρ, e.H⟩ := ⟨e1, e2, e3, by simp [e4], fun b hb _ => sm b hb, fun _ h => .inl h, fun b hb => sm b (g.imlt b hb), fun b h => h.elim .inl (fun h => .inr (.inr (by omega))), .refl _ _, fun _ h => .inl h⟩
  refine ⟨⟨w0.alloc (.cells vs ty), fun b => e.Im b ∨ b = e.w.heap.size, e.ρ, e.H⟩, rfl, rfl, ⟨g.len, g.inj, ?_, ?_, ?_, ?_⟩, mv, ?_⟩
  · rintro o l ho (h1 | h1)
    · exact g.dis o l ho h1
    · have := g.lt o l ho; omega
  · intro o l ho
    have := g.lt o l ho
    show l.blk < (w0.alloc (.cells vs ty)).heap.size
    omega
  · rintro b (h1 | rfl)
    · have := g.imlt b h1
      show b < (w0.alloc (.cells vs ty)).heap.size
      omega
    · show _ < (w0.alloc (.cells vs ty)).heap.size
      omega
  · intro o ob lo h1 h2
    exact (g.obj o ob lo h1 h2).keep (fun l hl => sm _ (g.lt o l (by rw [h2, hl]))) mv
  · have hgr : ∀ (r : Nat) row (j : Nat) x, rows[r]? = some row → row[j]? = some x → ∃ c, vs[r * sz + j]? = some c ∧ c.oneCell' = true ∧ VI e.w e.Im x c := fun r row j x hr hx => by
      obtain ⟨c, h1, h2, h3⟩ := h r (row.map .v) j (.v x) (by rw [List.getElem?_map, hr]; rfl) (by rw [List.getElem?_map, hx]; rfl)
      cases h3 with | v h3 => exact ⟨c, h1, h2, h3⟩
    have hc : ∀ (r : Nat) row (j : Nat) x, rows[r]? = some row → row[j]? = some x → (w0.alloc (.cells vs ty)).cell? ⟨e.w.heap.size, 0 + r * sz + j, none⟩ = some (vs.getD (r * sz + j) undef) ∧ (vs.getD (r * sz + j) undef).oneCell' = true ∧ VI e.w e.Im x (vs.getD (r * sz + j) undef) := fun r row j x hr hx => by
      obtain ⟨c, h1, h2, h3⟩ := hgr r row j x hr hx
      have : vs.getD (r * sz + j) undef = c := by rw [Array.getD_eq_getD_getElem?, h1]; rfl
      rw [this]
      refine ⟨?_, h2, h3⟩
      rw [← e4, alloc_cell, Nat.zero_add, h1]
    exact .sl sz rows e.w.heap.size 0 cap (fun r j => vs.getD (r * sz + j) undef) (.inr rfl) hs hcap (fun r row j x hr hx => ⟨(hc r row j x hr hx).1, (hc r row j x hr hx).2.1⟩) (fun r row j x hr hx => mv.vi (hc r row j x hr hx).2.2)

/-- An array that moves into a new block. -/
theorem move_arr {e : Env} (g : Good e) (w0 : World) (hw0 : w0.os = e.w.os ∧ w0.tape = e.w.tape ∧ w0.output = e.w.output ∧ w0.heap = e.w.heap) {o v z : Nat} {rows0 : List (List RV)} {lo : Option Loc} (ho : e.H[o]? = some (.arr v z rows0)) (hl : e.ρ[o]? = some lo)
    (ty : TypeId) (vs : Array Value) (sz cap : Nat) (rows : List (List RV)) (hs : ∀ row ∈ rows, row.length = sz) (hsz : vs.size = cap * sz) (hcap : rows.length ≤ cap) (h : RowsAt e sz rows vs) :
    ∃ e' : Env, e'.w = w0.alloc (.cells vs ty) ∧ e'.H = e.H.set o (.arr (v + 1) sz rows) ∧ Good e' ∧ Mv e e' ∧ VR e' (.os o (v + 1)) (.slice (some ⟨e.w.heap.size, 0, none⟩) rows.length cap) := by
  obtain ⟨e1, e2, e3, e4⟩ := hw0
  have hp := upd_ok g (w0.alloc (.cells vs ty)) (ob' := .arr (v + 1) sz rows) (l' := ⟨e.w.heap.size, 0, cap⟩) ho hl e1 e2 e3 (by simp [e4]) (fun b hb _ => by rw [alloc_same (by rw [e4]; exact hb), e4]) (.inr (Nat.le_refl _)) (by simp [e4]) ⟨v, z, rows0, rfl, .inl (Nat.lt_succ_self v)⟩
    (fun e' he mv => objR_alloc he (by rw [e4]) hs hsz hcap (h.mv mv))
  refine ⟨_, rfl, rfl, hp.1, hp.2, ?_⟩
  have hlt : o < e.H.length := (List.getElem?_eq_some_iff.1 ho).1
  have hltr : o < e.ρ.length := (List.getElem?_eq_some_iff.1 hl).1
  exact .os (.arr (v + 1) sz rows) (some ⟨e.w.heap.size, 0, cap⟩) (by simp [hlt]) (by simp [hltr]) ⟨Nat.le_refl _, fun _ => rfl⟩ rfl

theorem setCells_heap (b : Nat) : ∀ (vs : List Value) (o : Nat) (w : World) (k : Nat), k ≠ b → (w.setCells b o vs).heap[k]? = w.heap[k]?
  | [], _, _, _, _ => rfl
  | v :: vs, o, w, k, h => by
    rw [World.setCells, setCells_heap b vs (o + 1) _ k h]
    exact setCell_heap _ _ _ _ h

theorem setCells_size (b : Nat) : ∀ (vs : List Value) (o : Nat) (w : World), (w.setCells b o vs).heap.size = w.heap.size ∧ (w.setCells b o vs).os = w.os ∧ (w.setCells b o vs).tape = w.tape ∧ (w.setCells b o vs).output = w.output
  | [], _, _ => ⟨rfl, rfl, rfl, rfl⟩
  | v :: vs, o, w => by
    rw [World.setCells]
    obtain ⟨h1, h2, h3, h4⟩ := setCells_size b vs (o + 1) (w.setCell ⟨b, o, none⟩ v)
    exact ⟨by rw [h1]; simp, h2, h3, h4⟩

theorem setCells_frozen (b : Nat) : ∀ (vs : List Value) (o : Nat) (w : World) (a : Addr), (w.setCells b o vs).frozen? a = w.frozen? a
  | [], _, _, _ => rfl
  | v :: vs, o, w, a => by rw [World.setCells, setCells_frozen b vs (o + 1) _ a, World.frozen?_setCell]

theorem setCells_cell (b : Nat) (vs : List Value) (o : Nat) (w : World) (hc : ∀ j, j < vs.length → ∃ u, w.cell? ⟨b, o + j, none⟩ = some u) (k : Nat) :
    (w.setCells b o vs).cell? ⟨b, k, none⟩ = if o ≤ k ∧ k < o + vs.length then vs[k - o]? else w.cell? ⟨b, k, none⟩ := by
  by_cases h : o ≤ k ∧ k < o + vs.length
  · rw [if_pos h]
    have := World.cell?_setCells_in b vs o w (fun i hi => by rw [Option.isSome_iff_exists]; exact hc i hi) (k - o) (by omega)
    rw [show o + (k - o) = k by omega] at this
    rw [this, List.getElem?_eq_getElem (by omega)]
  · rw [if_neg h]
    exact World.cell?_setCells_out b vs o w ⟨b, k, none⟩ (fun _ _ => by simp only; omega)
end Go.Av
