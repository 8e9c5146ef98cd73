/- Memory of one's own that nobody writes any more: it reads as a plain value. No condition. -/
import Derived.Test.YtdjcfjfgdblefaaAv4b
import Derived.Test.YtdjcfjfgdblefaaAv3b
set_option linter.constructorNameAsVariable false
namespace Go.Av
open Go Go.RowKit
set_option linter.unusedSimpArgs false
set_option linter.unusedVariables false

theorem plainr_ok : ∀ {r : List RV} {l : List AV}, plainr r = some l → r = l.map .v
  | [], l, h => by simp [plainr] at h; subst h; rfl
  | x :: r, l, h => by
    cases x <;> simp [plainr] at h
    obtain ⟨l', h1, rfl⟩ := h
    rw [plainr_ok h1]; rfl
theorem rows_plain : ∀ {rs : List (List RV)} {l : List (List AV)}, plainR rs = some l → rs = l.map fun row => row.map .v
  | [], l, h => by simp [plainR] at h; subst h; rfl
  | r :: rs, l, h => by
    simp only [plainR, Option.bind_eq_some_iff, Option.map_eq_some_iff] at h
    obtain ⟨x, hx, l', hl, rfl⟩ := h
    rw [rows_plain hl, plainr_ok hx]
    rfl
theorem plainr_map (l : List AV) : plainr (l.map .v) = some l := by
  induction l with
  | nil => rfl
  | cons x l ih => simp [plainr, ih]
theorem plainR_app (l : List (List AV)) (rs : List (List RV)) : plainR (vrows l ++ rs) = (plainR rs).map fun m => l ++ m := by
  induction l with
  | nil => simp [vrows]
  | cons x l ih =>
    show plainR (x.map .v :: (vrows l ++ rs)) = _
    rw [plainR, plainr_map, ih]
    cases plainR rs <;> simp
theorem plainR_vrows (l : List (List AV)) : plainR (vrows l) = some l := by
  have := plainR_app l []
  simpa [plainR] using this

/-- **ONE ARRAY OF PLAIN ROWS** is let go. -/
theorem freeze_one {e : Env} (g : Good e) {o ver sz : Nat} {rows : List (List AV)} {c : Value} (ho : e.H[o]? = some (.arr ver sz (rows.map fun row => row.map .v))) (hv : VR e (.os o ver) c) :
    ∃ e' : Env, e'.w = e.w ∧ e'.H = e.H.set o .none ∧ Good e' ∧ Mv e e' ∧ VI e'.w e'.Im (.sl sz rows) c := by
  obtain ⟨lo, hlo, hav⟩ := hv.slice g ho
  obtain ⟨hsz, hobj⟩ := g.obj _ _ _ ho hlo
  have hlt : o < e.H.length := (List.getElem?_eq_some_iff.1 ho).1
  have hltr : o < e.ρ.length := (List.getElem?_eq_some_iff.1 hlo).1
  have nx : Nx e.H e.ρ (e.H.set o .none) (e.ρ.set o none) := fun k x y hx hy => by
    by_cases hk : o = k
    · subst hk; exact ⟨.none, none, by simp [hlt], by simp [hltr], trivial⟩
    · exact ⟨x, y, by simp [List.getElem?_set, hk, hx], by simp [List.getElem?_set, hk, hy], .refl _ _⟩
  have mv : Mv e ⟨e.w, fun b => e.Im b ∨ ∃ l, lo = some l ∧ l.blk = b, e.ρ.set o none, e.H.set o .none⟩ := by
    refine ⟨rfl, rfl, rfl, Nat.le_refl _, fun _ _ _ => rfl, fun _ h => .inl h, fun _ _ => rfl, ?_, nx, ?_⟩
    · rintro b (h | ⟨l, hl, rfl⟩)
      · exact .inl h
      · exact .inr (.inl ⟨o, l, by rw [hlo, hl], rfl⟩)
    · rintro b ⟨k, l, hk, rfl⟩
      have hk : (e.ρ.set o none)[k]? = some (some l) := hk
      rcases set_get hk with ⟨_, h⟩ | ⟨_, h⟩
      · cases h
      · exact .inl ⟨k, l, h, rfl⟩
  have old : ∀ (k : Nat) l, (e.ρ.set o none)[k]? = some (some l) → o ≠ k ∧ e.ρ[k]? = some (some l) := fun k l hk => by
    rcases set_get hk with ⟨_, h⟩ | ⟨h1, h⟩
    · cases h
    · exact ⟨h1, h⟩
  have g' : Good ⟨e.w, fun b => e.Im b ∨ ∃ l, lo = some l ∧ l.blk = b, e.ρ.set o none, e.H.set o .none⟩ := by
    refine ⟨by simp [g.len], fun k k' l l' hk hk' => g.inj k k' l l' (old k l hk).2 (old k' l' hk').2, ?_, fun k l hk => g.lt k l (old k l hk).2, ?_, ?_⟩
    · intro k l hk hi
      obtain ⟨h1, h2⟩ := old k l hk
      rcases hi with hi | ⟨l', hl', he⟩
      · exact g.dis k l h2 hi
      · exact g.inj o k l' l (by rw [hlo, hl']) h2 h1 he
    · rintro b (hi | ⟨l', hl', rfl⟩)
      · exact g.imlt b hi
      · exact g.lt o l' (by rw [hlo, hl'])
    · intro k x y hx hy
      rcases set_get hx with ⟨rfl, rfl⟩ | ⟨hk, hx⟩
      · exact trivial
      · rcases set_get hy with ⟨hk', _⟩ | ⟨_, hy⟩
        · exact absurd hk' hk
        · exact (g.obj k x y hx hy).keep (fun l hl => rfl) mv
  refine ⟨⟨e.w, fun b => e.Im b ∨ ∃ l, lo = some l ∧ l.blk = b, e.ρ.set o none, e.H.set o .none⟩, rfl, rfl, g', mv, ?_⟩
  cases lo with
  | none =>
    obtain ⟨h0, a, rfl⟩ := hav
    have : rows = [] := by simpa using h0
    subst this
    exact .sle _ _ _
  | some l =>
    have hav : c = .slice (some ⟨l.blk, l.off, none⟩) (rows.map fun row => row.map RV.v).length l.cap := hav
    obtain ⟨hcap, _, hcell⟩ := hobj
    have hgr : ∀ (r : Nat) row (j : Nat) x, rows[r]? = some row → row[j]? = some x → (rows.map fun row => row.map RV.v)[r]? = some (row.map .v) ∧ (row.map RV.v)[j]? = some (.v x) := fun r row j x hr hx => ⟨by rw [List.getElem?_map, hr]; rfl, by rw [List.getElem?_map, hx]; rfl⟩
    have hf : ∀ (r : Nat) row (j : Nat) x, rows[r]? = some row → row[j]? = some x → e.w.cell? ⟨l.blk, l.off + r * sz + j, none⟩ = some ((e.w.cell? ⟨l.blk, l.off + r * sz + j, none⟩).getD undef) ∧ ((e.w.cell? ⟨l.blk, l.off + r * sz + j, none⟩).getD undef).oneCell' = true ∧ VI e.w e.Im x ((e.w.cell? ⟨l.blk, l.off + r * sz + j, none⟩).getD undef) := fun r row j x hr hx => by
      obtain ⟨h1, h2⟩ := hgr r row j x hr hx
      obtain ⟨d, d1, d2, d3⟩ := hcell r _ j _ h1 h2
      rw [d1]
      cases d3 with | v d3 => exact ⟨rfl, d2, d3⟩
    rw [hav, List.length_map]
    refine .sl sz rows l.blk l.off l.cap (fun r j => (e.w.cell? ⟨l.blk, l.off + r * sz + j, none⟩).getD undef) (.inr ⟨l, rfl, rfl⟩) (fun row hm => ?_) (by simpa using hcap) (fun r row j x hr hx => ⟨(hf r row j x hr hx).1, (hf r row j x hr hx).2.1⟩) (fun r row j x hr hx => ((hf r row j x hr hx).2.2).mono (fun _ h => .inl h) (fun _ _ => rfl))
    have := hsz (row.map .v) (List.mem_map.2 ⟨row, hm, rfl⟩)
    simpa using this

/-- What is told of a variable's cells may be told less. -/
theorem retell {e : Env} (g : Good e) {o : Nat} {cs cs' : List RV} {l : Loc} (ho : e.H[o]? = some (.var cs)) (hl : e.ρ[o]? = some (some l)) (h : ∀ (j : Nat) x', cs'[j]? = some x' → cs[j]? = some x' ∨ (j < cs.length ∧ ∀ c, e.w.cell? ⟨l.blk, l.off + j, none⟩ = some c → VR e x' c)) :
    Good ⟨e.w, e.Im, e.ρ, e.H.set o (.var cs')⟩ ∧ Mv e ⟨e.w, e.Im, e.ρ, e.H.set o (.var cs')⟩ := by
  refine write_ok g e.w ho hl rfl rfl rfl rfl (fun _ _ => rfl) ⟨rfl, cs, rfl⟩ (fun e' he mv => ?_)
  obtain ⟨l', hl', hcell⟩ := g.obj o _ _ ho hl
  cases hl'
  refine ⟨l, rfl, fun j x' hx' => ?_⟩
  rw [he]
  rcases h j x' hx' with hx | ⟨hj, hx⟩
  · obtain ⟨c, h1, h2, h3, h4⟩ := hcell j x' hx
    exact ⟨c, h1, h2, h3, mv.vr h4⟩
  · obtain ⟨c, h1, h2, h3, h4⟩ := hcell j _ (list_get hj .any)
    exact ⟨c, h1, h2, h3, mv.vr (hx c h1)⟩

/-- What reads, once all that is one's own is let go, as a plain value. -/
inductive Frz (H : List AObj) : RV → AV → Prop
  | v (x : AV) : Frz H (.v x) x
  | nil (sz : Nat) : Frz H (.v .nil) (.sl sz [])
  | os {o ver sz : Nat} {rows : List (List RV)} {rows' : List (List AV)} (h : H[o]? = some (.arr ver sz rows)) (hl : rows'.length = rows.length)
      (hr : ∀ (r : Nat) row row', rows[r]? = some row → rows'[r]? = some row' → row'.length = row.length) (hx : ∀ (r : Nat) row row' (j : Nat) x x', rows[r]? = some row → rows'[r]? = some row' → row[j]? = some x → row'[j]? = some x' → Frz H x x') : Frz H (.os o ver) (.sl sz rows')
  | pt {o r off : Nat} {cs : List RV} {cs' : List AV} (h : H[o]? = some (.var cs)) (hl : cs'.length = cs.length) (hx : ∀ (j : Nat) x x', cs[j]? = some x → cs'[j]? = some x' → Frz H x x') : Frz H (.pt o 0 r off) (.pim (cs'.drop off))
  | tr {cs : List RV} {cs' : List AV} (hl : cs'.length = cs.length) (hx : ∀ (j : Nat) x x', cs[j]? = some x → cs'[j]? = some x' → Frz H x x') : Frz H (.tr cs) (.tup cs')
  | gr {cs : List RV} {cs' : List AV} (hl : cs'.length = cs.length) (hx : ∀ (j : Nat) x x', cs[j]? = some x → cs'[j]? = some x' → Frz H x x') : Frz H (.gr cs) (.g cs')
  | g {cs cs' : List AV} (hl : cs'.length = cs.length) (hx : ∀ (j : Nat) x x', cs[j]? = some x → cs'[j]? = some x' → Frz H (.v x) x') : Frz H (.v (.g cs)) (.g cs')
  | fr {f : Nat} {cs : List RV} {cs' : List AV} (hl : cs'.length = cs.length) (hx : ∀ (j : Nat) x x', cs[j]? = some x → cs'[j]? = some x' → Frz H x x') : Frz H (.fr f cs) (.fn f cs')

/-- An array whose rows are plain. -/
theorem Frz.plain {H : List AObj} {o ver sz : Nat} {rows : List (List AV)} (h : H[o]? = some (.arr ver sz (rows.map fun row => row.map .v))) : Frz H (.os o ver) (.sl sz rows) := by
  refine .os h (by simp) (fun r row row' hr hr' => ?_) (fun r row row' j x x' hr hr' hx hx' => ?_)
  · rw [List.getElem?_map, hr'] at hr
    cases hr; simp
  · rw [List.getElem?_map, hr'] at hr
    cases hr
    rw [List.getElem?_map, hx'] at hx
    cases hx
    exact .v _

theorem Frz.list {H : List AObj} : ∀ {cs : List RV} {cs' : List AV}, (cs'.length = cs.length) → (∀ (j : Nat) x x', cs[j]? = some x → cs'[j]? = some x' → Frz H x x') → ∀ (j : Nat) x x', cs[j]? = some x → cs'[j]? = some x' → Frz H x x' := fun _ h => h

theorem frz_ok {e : Env} (g : Good e) {x : RV} {a : AV} (h : Frz e.H x a) : ∀ {c : Value}, VR e x c → VI e.w (fun b => e.Im b ∨ e.own b) a c := by
  induction h with
  | v x => intro c hv; cases hv with | v hv => exact hv.mono (fun _ h => .inl h) (fun _ _ => rfl)
  | nil sz => intro c hv; cases hv with | v hv => cases hv; exact .sle _ _ _
  | @os o ver sz rows rows' h hl hr hx ih =>
    intro c hv
    obtain ⟨lo, hlo, hav⟩ := hv.slice g h
    obtain ⟨hsz, hobj⟩ := g.obj _ _ _ h hlo
    cases lo with
    | none =>
      obtain ⟨h0, a, rfl⟩ := hav
      have : rows' = [] := List.eq_nil_of_length_eq_zero (by omega)
      subst this
      exact .sle _ _ _
    | some l =>
      have hav : c = .slice (some ⟨l.blk, l.off, none⟩) rows.length l.cap := hav
      obtain ⟨hcap, _, hcell⟩ := hobj
      have hgr : ∀ (r : Nat) row' (j : Nat) x', rows'[r]? = some row' → row'[j]? = some x' → ∃ row x, rows[r]? = some row ∧ row[j]? = some x := fun r row' j x' hr' hx' => by
        have h1 := (List.getElem?_eq_some_iff.1 hr').1
        have e1 := list_get (l := rows) (j := r) (by omega) []
        have h2 := (List.getElem?_eq_some_iff.1 hx').1
        have h3 := hr r _ row' e1 hr'
        exact ⟨_, _, e1, list_get (l := rows.getD r []) (j := j) (by omega) .any⟩
      have hf : ∀ (r : Nat) row' (j : Nat) x', rows'[r]? = some row' → row'[j]? = some x' → e.w.cell? ⟨l.blk, l.off + r * sz + j, none⟩ = some ((e.w.cell? ⟨l.blk, l.off + r * sz + j, none⟩).getD undef) ∧ ((e.w.cell? ⟨l.blk, l.off + r * sz + j, none⟩).getD undef).oneCell' = true ∧ VI e.w (fun b => e.Im b ∨ e.own b) x' ((e.w.cell? ⟨l.blk, l.off + r * sz + j, none⟩).getD undef) := fun r row' j x' hr' hx' => by
        obtain ⟨row, x, e1, e2⟩ := hgr r row' j x' hr' hx'
        obtain ⟨d, d1, d2, d3⟩ := hcell r _ j _ e1 e2
        rw [d1]
        exact ⟨rfl, d2, ih r row row' j x x' e1 hr' e2 hx' d3⟩
      rw [hav, ← hl]
      refine .sl sz rows' l.blk l.off l.cap (fun r j => (e.w.cell? ⟨l.blk, l.off + r * sz + j, none⟩).getD undef) (.inr ⟨o, l, hlo, rfl⟩) (fun row' hm => ?_) (by omega) (fun r row j x hr hx => ⟨(hf r row j x hr hx).1, (hf r row j x hr hx).2.1⟩) (fun r row j x hr hx => (hf r row j x hr hx).2.2)
      obtain ⟨r, hr'⟩ := List.getElem?_of_mem hm
      have h1 := (List.getElem?_eq_some_iff.1 hr').1
      have e1 := list_get (l := rows) (j := r) (by omega) []
      rw [hr r _ row' e1 hr', hsz _ (List.mem_of_getElem? e1)]
  | @pt o r off cs cs' h hl hx ih =>
    intro c hv
    obtain ⟨p1, _⟩ := hv.ptr g
    obtain ⟨_, l, hlo, rfl⟩ := p1 _ h
    obtain ⟨l', hl', hcell⟩ := g.obj _ _ _ h hlo
    cases hl'
    have hf : ∀ (j : Nat) x', (cs'.drop off)[j]? = some x' → e.w.cell? ⟨l.blk, l.off + off + j, none⟩ = some ((e.w.cell? ⟨l.blk, l.off + off + j, none⟩).getD undef) ∧ ((e.w.cell? ⟨l.blk, l.off + off + j, none⟩).getD undef).oneCell' = true ∧ VI e.w (fun b => e.Im b ∨ e.own b) x' ((e.w.cell? ⟨l.blk, l.off + off + j, none⟩).getD undef) := fun j x' hx' => by
      rw [List.getElem?_drop] at hx'
      have h1 := (List.getElem?_eq_some_iff.1 hx').1
      have e1 := list_get (l := cs) (j := off + j) (by omega) RV.any
      obtain ⟨d, d1, _, d2, d3⟩ := hcell _ _ e1
      rw [Nat.add_assoc, d1]
      exact ⟨rfl, d2, ih _ _ _ e1 hx' d3⟩
    exact .pim _ _ _ (fun j => (e.w.cell? ⟨l.blk, l.off + off + j, none⟩).getD undef) (.inr ⟨o, l, hlo, rfl⟩) (fun j x hx => ⟨(hf j x hx).1, (hf j x hx).2.1⟩) (fun j x hx => (hf j x hx).2.2)
  | @tr cs cs' hl hx ih =>
    intro c hv
    cases hv with
    | tr hn h => exact .tup _ _ (by omega) (fun j a c ha hc => by
        have e1 := list_get (l := cs) (j := j) (by have := (List.getElem?_eq_some_iff.1 ha).1; omega) RV.any
        exact ih j _ a e1 ha (h j _ c e1 hc))
  | @gr cs cs' hl hx ih =>
    intro c hv
    cases hv with
    | gr hn h1 h => exact .g _ _ (by omega) h1 (fun j a c ha hc => by
        have e1 := list_get (l := cs) (j := j) (by have := (List.getElem?_eq_some_iff.1 ha).1; omega) RV.any
        exact ih j _ a e1 ha (h j _ c e1 hc))
  | @g cs cs' hl hx ih =>
    intro c hv
    cases hv with
    | v hv =>
      cases hv with
      | g _ vs hn h1 h => exact .g _ _ (by omega) h1 (fun j a c ha hc => by
          have e1 := list_get (l := cs) (j := j) (by have := (List.getElem?_eq_some_iff.1 ha).1; omega) AV.nil
          exact ih j _ a e1 ha (.v (h j _ c e1 hc)))
  | @fr f cs cs' hl hx ih =>
    intro c hv
    cases hv with
    | fr hn h => exact .fn _ _ _ (by omega) (fun j a c ha hc => by
        have e1 := list_get (l := cs) (j := j) (by have := (List.getElem?_eq_some_iff.1 ha).1; omega) RV.any
        exact ih j _ a e1 ha (h j _ c e1 hc))

/-- A value that no memory holds. -/
inductive Flat : AV → Prop
  | b (x : Bool) : Flat (.b x)
  | i (k : IntKind) (n : Int) : Flat (.i k n)
  | s (l : List UInt8) : Flat (.s l)
  | nil : Flat .nil
  | np : Flat .np
  | nf : Flat .nf
  | g {cs : List AV} (h : ∀ x ∈ cs, Flat x) : Flat (.g cs)
  | tup {cs : List AV} (h : ∀ x ∈ cs, Flat x) : Flat (.tup cs)

theorem Flat.vi {w w' : World} {Im Im' : Nat → Prop} {x : AV} (hf : Flat x) : ∀ {c : Value}, VI w Im x c → VI w' Im' x c := by
  induction hf with
  | b x => intro c h; cases h; exact .b _
  | i k n => intro c h; cases h; exact .i _ _
  | s l => intro c h; cases h; exact .s _
  | nil => intro c h; cases h; exact .nil _
  | np => intro c h; cases h; exact .np
  | nf => intro c h; cases h; exact .nf
  | g hc ih => intro c h; cases h with | g _ vs hn h1 h => exact .g _ _ hn h1 (fun j a c ha hc' => ih a (List.mem_of_getElem? ha) (h j a c ha hc'))
  | tup hc ih => intro c h; cases h with | tup _ vs hn h => exact .tup _ _ hn (fun j a c ha hc' => ih a (List.mem_of_getElem? ha) (h j a c ha hc'))

/-- All that is one's own, let go. -/
theorem freeze_all {e : Env} (g : Good e) : Good ⟨e.w, fun b => e.Im b ∨ e.own b, [], []⟩ :=
  ⟨rfl, fun o o' l l' h => by simp at h, fun o l h => by simp at h, fun o l h => by simp at h, fun b hb => hb.elim (g.imlt b) (fun ⟨o, l, h1, h2⟩ => h2 ▸ g.lt o l h1), fun o ob lo h => by simp at h⟩
end Go.Av
