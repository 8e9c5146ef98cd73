/- Chapter 03: what of nested memory is kept. No condition. -/
import Derived.Test.YtdjcfjfgdblefaaXSpE
set_option linter.constructorNameAsVariable false
namespace Go.Sc.Sp
open Go Go.RowKit Go.Av Go.Proofs Go.Sc Go.Sc.So
set_option linter.unusedSimpArgs false
set_option linter.unusedVariables false
open Classical in
noncomputable def keepO (n : Nat) (ob : AObj) : AObj := if FlatO ob ∧ ob.dom (· < n) then ob else .none
theorem keep_kept (K : List AObj) : Kept K (K.map (keepO K.length)) := by
  refine ⟨by simp, fun o ob h => ?_⟩
  rw [List.getElem?_map, Option.map_eq_some_iff] at h
  obtain ⟨x, hx, rfl⟩ := h
  unfold keepO
  split
  · rename_i hf; exact .inr ⟨hx, hf.1⟩
  · exact .inl rfl
theorem keep_at {K : List AObj} {o : Nat} {ob : AObj} (h : K[o]? = some ob) (hf : FlatO ob) (hd : ob.dom (· < K.length)) : (K.map (keepO K.length))[o]? = some ob := by
  rw [List.getElem?_map, h, Option.map_some, keepO, if_pos ⟨hf, hd⟩]
theorem keep_dom (K : List AObj) : ∀ ob ∈ K.map (keepO K.length), ob.dom (· < K.length) := by
  intro ob h
  obtain ⟨x, _, rfl⟩ := List.mem_map.1 h
  unfold keepO
  split
  · rename_i hf; exact hf.2
  · trivial
theorem flatO_rows {α : Type} {v sz : Nat} {row : α → List AV} {l : List α} (h : ∀ a, ∀ x ∈ row a, Flat x) : FlatO (.arr v sz (vrows (l.map row))) := by
  intro r hr x hx
  simp only [vrows, List.map_map, List.mem_map] at hr
  obtain ⟨a, _, rfl⟩ := hr
  simp only [Function.comp, List.mem_map] at hx
  obtain ⟨y, hy, rfl⟩ := hx
  exact h a y hy
theorem var_flat (v : Var) : ∀ x ∈ v.row, Flat x := by intro x hx; simp [Var.row] at hx; rcases hx with rfl | rfl <;> constructor
theorem instr_flat (v : Instr) : ∀ x ∈ v.row, Flat x := by intro x hx; simp [Instr.row] at hx; rcases hx with rfl | rfl | rfl | rfl | rfl <;> constructor
theorem case_flat (v : Case) : ∀ x ∈ v.row, Flat x := by intro x hx; simp [Case.row] at hx; rcases hx with rfl | rfl | rfl | rfl <;> constructor
def FlatRow (row : List RV) : Prop := ∀ x ∈ row, FlatX x
theorem OwnSel.flat {g : Get} {row s} (o : OwnSel g row s) : FlatRow row := by
  obtain ⟨a, v, rfl, _⟩ := o
  intro x hx
  simp at hx
  rcases hx with rfl | rfl
  · trivial
  · exact .i _ _
theorem OwnFn.flat {g : Get} {row f} (o : OwnFn g row f) : FlatRow row := by
  obtain ⟨a, v, b, w, rows, rfl, _⟩ := o
  intro x hx
  simp at hx
  rcases hx with rfl | rfl | rfl | rfl
  · exact .i _ _
  · exact .i _ _
  · trivial
  · trivial
theorem rows_flat {α : Type} {R : List RV → α → Prop} {rows : List (List RV)} {l : List α} {v sz : Nat} (h : rows.length = l.length ∧ ∀ (k : Nat) row f, rows[k]? = some row → l[k]? = some f → R row f) (hf : ∀ row f, R row f → FlatRow row) : FlatO (.arr v sz rows) := by
  intro row hr x hx
  obtain ⟨k, hk⟩ := List.getElem?_of_mem hr
  have hkl : k < l.length := by rw [← h.1]; exact (List.getElem?_eq_some_iff.1 hk).1
  exact hf row _ (h.2 k row _ hk (List.getElem?_eq_getElem hkl)) x hx
theorem rows_dom2 {v sz : Nat} {rows : List (List RV)} {p : Nat → Prop} (h : ∀ row ∈ rows, domL p row) : (AObj.arr v sz rows).dom p := by
  simp only [AObj.dom]; exact h
theorem flat_dom {v sz n : Nat} (l : List (List AV)) : (AObj.arr v sz (vrows l)).dom (· < n) := by
  simp only [AObj.dom]; exact rows_dom _ _
theorem at_lt {K : List AObj} {o : Nat} {ob : AObj} {n : Nat} (h : above n K o = some ob) : o < K.length ∧ n ≤ o ∧ K[o]? = some ob := by
  unfold above at h
  split at h
  · cases h
  · exact ⟨(List.getElem?_eq_some_iff.1 h).1, by omega, h⟩
theorem OwnP2.kept {K : List AObj} {r : RV} {p : Prog} (o : OwnP2 K r p) : FlatR r ∧ ∃ K', Kept K K' ∧ (OwnP2 K' r p ∧ ∀ ob ∈ K', ob.dom (· < K'.length)) := by
  obtain ⟨n, a, va, b, vb, c, vc, rows, rfl, h0, h1, h2, h3, h4, h5⟩ := o
  have hsel : ∀ rs (l : List Select), OwnSels (above n K) rs l → ∀ row ∈ rs, domL (· < K.length) row := fun rs l h row hr => by
    obtain ⟨k, hk⟩ := List.getElem?_of_mem hr
    have hkl : k < l.length := by rw [← h.1]; exact (List.getElem?_eq_some_iff.1 hk).1
    obtain ⟨q, w, rfl, e2⟩ := h.2 k row _ hk (List.getElem?_eq_getElem hkl)
    simp [domL, RV.dom, (at_lt e2).1]
  have hfn : ∀ row ∈ rows, domL (· < K.length) row := fun row hr => by
    obtain ⟨k, hk⟩ := List.getElem?_of_mem hr
    have hkl : k < p.funcs.length := by rw [← h4.1]; exact (List.getElem?_eq_some_iff.1 hk).1
    obtain ⟨q, v, q2, v2, rs, rfl, e2, e3, e4⟩ := h4.2 k row _ hk (List.getElem?_eq_getElem hkl)
    simp [domL, RV.dom, (at_lt e2).1, (at_lt e3).1]
  refine ⟨fun x hx => ?_, K.map (keepO K.length), keep_kept K, ⟨n, a, va, b, vb, c, vc, rows, rfl, h0, keep_at h1 (flatO_rows var_flat) (flat_dom _), keep_at h2 (flatO_rows irow_flat) (flat_dom _), keep_at h3 (rows_flat h4 fun _ _ => OwnFn.flat) (rows_dom2 hfn), ⟨h4.1, fun k row f hk hf => ?_⟩, h5⟩, by simpa using keep_dom K⟩
  · simp at hx
    rcases hx with rfl | rfl | rfl | rfl
    · trivial
    · exact .i _ _
    · trivial
    · trivial
  · obtain ⟨q, v, q2, v2, rs, e1, e2, e3, e4⟩ := h4.2 k row f hk hf
    have up : ∀ {m : Nat} {ob : AObj}, above n K m = some ob → FlatO ob → ob.dom (· < K.length) → above n (K.map (keepO K.length)) m = some ob := fun {m ob} e f d => by
      obtain ⟨q1, q2, q3⟩ := at_lt e
      unfold above; rw [if_neg (by omega)]; exact keep_at q3 f d
    refine ⟨q, v, q2, v2, rs, e1, up e2 (flatO_rows instr_flat) (flat_dom _), up e3 (rows_flat e4 fun _ _ => OwnSel.flat) (rows_dom2 (hsel _ _ e4)), e4.1, fun k2 row2 s h6 h7 => ?_⟩
    obtain ⟨q3, v3, e5, e6⟩ := e4.2 k2 row2 s h6 h7
    exact ⟨q3, v3, e5, up e6 (flatO_rows case_flat) (flat_dom _)⟩
end Go.Sc.Sp
