/- Chapter 03: nested memory of one's own moved, lent, written. No condition. -/
import Derived.Test.YtdjcfjfgdblefaaXSpA
import Derived.Test.YtdjcfjfgdblefaaXSpoil
set_option linter.constructorNameAsVariable false
namespace Go.Sc.Sp
open Go Go.RowKit Go.Av Go.Proofs Go.Sc Go.Sc.So
set_option linter.unusedSimpArgs false
set_option linter.unusedVariables false
def Moved (n : Nat) (g g' : Get) : Prop := ∀ o ob, g o = some ob → g' (n + o) = some (ob.ren (n + ·))
theorem OwnSel.moved {n : Nat} {g g' : Get} (h : Moved n g g') {row s} (o : OwnSel g row s) : OwnSel g' (renL (n + ·) row) s := by
  obtain ⟨a, v, rfl, h2⟩ := o
  refine ⟨n + a, v, by simp [renL, RV.ren], ?_⟩
  rw [h _ _ h2]; simp
theorem OwnSels.moved {n : Nat} {g g' : Get} (h : Moved n g g') {rows l} (o : OwnSels g rows l) : OwnSels g' (rows.map (renL (n + ·))) l := by
  refine ⟨by simp [o.1], fun k row s h1 h2 => ?_⟩
  rw [List.getElem?_map, Option.map_eq_some_iff] at h1
  obtain ⟨row0, h1, rfl⟩ := h1
  exact (o.2 k row0 s h1 h2).moved h
theorem OwnFn.moved {n : Nat} {g g' : Get} (h : Moved n g g') {row f} (o : OwnFn g row f) : OwnFn g' (renL (n + ·) row) f := by
  obtain ⟨a, v, b, w, rows, rfl, h2, h3, h4⟩ := o
  refine ⟨n + a, v, n + b, w, rows.map (renL (n + ·)), by simp [renL, RV.ren], ?_, ?_, h4.moved h⟩
  · rw [h _ _ h2]; simp
  · rw [h _ _ h3]; simp
theorem OwnFns.moved {n : Nat} {g g' : Get} (h : Moved n g g') {rows l} (o : OwnFns g rows l) : OwnFns g' (rows.map (renL (n + ·))) l := by
  refine ⟨by simp [o.1], fun k row s h1 h2 => ?_⟩
  rw [List.getElem?_map, Option.map_eq_some_iff] at h1
  obtain ⟨row0, h1, rfl⟩ := h1
  exact (o.2 k row0 s h1 h2).moved h
theorem OwnProg.moved {n : Nat} {H H' : List AObj} (h : Moved n (fun o => H[o]?) (fun o => H'[o]?)) {r : RV} {p : Prog} (o : OwnProg H r p) : OwnProg H' (r.ren (n + ·)) p := by
  obtain ⟨a, va, b, vb, c, vc, rows, rfl, h1, h2, h3, h4, h5⟩ := o
  refine ⟨n + a, va, n + b, vb, n + c, vc, rows.map (renL (n + ·)), by simp [renL, RV.ren], ?_, ?_, ?_, h4.moved h, ?_⟩
  · have := h _ _ h1; simpa using this
  · have := h _ _ h2; simpa using this
  · have := h _ _ h3; simpa using this
  · have e : (rows.map (renL (n + ·))).map codeOf = (rows.map codeOf).map (n + ·) := by
      rw [List.map_map, List.map_map]
      refine List.map_congr_left fun row hr => ?_
      obtain ⟨k, hk⟩ := List.getElem?_of_mem hr
      have hkl : k < p.funcs.length := by rw [← h4.1]; exact (List.getElem?_eq_some_iff.1 hk).1
      obtain ⟨a, v, b, w, rs, rfl, _⟩ := h4.2 k row _ hk (List.getElem?_eq_getElem hkl)
      simp [codeOf, renL, RV.ren]
    rw [e, List.pairwise_map]
    exact h5.imp fun h => by omega
theorem OwnProg.call {H K : List AObj} {r : RV} {p : Prog} (o : OwnProg K r p) : OwnProg (putH H [] K) (r.ren (upN [] H.length)) p := by
  have hu : upN [] H.length = (H.length + ·) := by funext j; simp [upN]
  rw [hu]
  refine o.moved fun a ob h => ?_
  simp only [putH, putP, List.length_nil, List.drop_zero, hu] at h ⊢
  rw [List.getElem?_append_right (by omega), List.getElem?_map]
  rw [show H.length + a - H.length = a by omega, h]; rfl
theorem OwnSel.frz {H : List AObj} {row s} (o : OwnSel (fun o => H[o]?) row s) : FrzL H row s.row := by
  obtain ⟨a, v, rfl, h2⟩ := o
  exact ⟨frz_rows h2, .v _, trivial⟩
theorem OwnSels.frz {H : List AObj} {rows : List (List RV)} {l : List Select} {o2 v2 : Nat} (h : H[o2]? = some (.arr v2 2 rows)) (o : OwnSels (fun o => H[o]?) rows l) : Frz H (.os o2 v2) (.sl 2 (l.map Select.row)) := by
  have key : ∀ (k : Nat) row row', rows[k]? = some row → (l.map Select.row)[k]? = some row' → FrzL H row row' := fun k row row' h1 h2 => by
    rw [List.getElem?_map, Option.map_eq_some_iff] at h2
    obtain ⟨s, h2, rfl⟩ := h2
    exact (o.2 k row s h1 h2).frz
  refine .os h (by simp [o.1]) (fun k row row' h1 h2 => ?_) (fun k row row' j x x' h1 h2 h3 h4 => (key k row row' h1 h2).get.2 j x x' h3 h4)
  exact (key k row row' h1 h2).get.1.symm
theorem OwnFn.frz {H : List AObj} {row f} (o : OwnFn (fun o => H[o]?) row f) : FrzL H row f.row := by
  obtain ⟨a, v, b, w, rows, rfl, h2, h3, h4⟩ := o
  exact ⟨.v _, .v _, frz_rows h2, h4.frz h3, trivial⟩
theorem OwnProg.frz {H : List AObj} {r : RV} {p : Prog} (o : OwnProg H r p) : Frz H r (.g p.row) := by
  obtain ⟨a, va, b, vb, c, vc, rows, rfl, h1, h2, h3, h4, h5⟩ := o
  refine frz_gr ⟨frz_rows h1, .v _, frz_rows h2, ?_, trivial⟩
  have key : ∀ (k : Nat) row row', rows[k]? = some row → (p.funcs.map Func.row)[k]? = some row' → FrzL H row row' := fun k row row' h1 h2 => by
    rw [List.getElem?_map, Option.map_eq_some_iff] at h2
    obtain ⟨s, h2, rfl⟩ := h2
    exact (h4.2 k row s h1 h2).frz
  refine .os h3 (by simp [h4.1]) (fun k row row' h1 h2 => ?_) (fun k row row' j x x' h1 h2 h3 h4 => (key k row row' h1 h2).get.2 j x x' h3 h4)
  exact (key k row row' h1 h2).get.1.symm
/-- One instruction is written. -/
theorem OwnProg.put {H : List AObj} {r : RV} {p : Prog} (w : OwnProg H r p) {i j : Nat} {x : Instr} {a va b vb c vc : Nat} {rows : List (List RV)} (hr : r = .gr [.os a va, .v (.i .i64 p.locks), .os b vb, .os c vc])
    (h1 : H[a]? = some (.arr va 2 (vrows (p.vars.map Var.row)))) (h2 : H[b]? = some (.arr vb 1 (vrows (p.chans.map irow)))) (h3 : H[c]? = some (.arr vc 4 rows)) (h4 : OwnFns (fun o => H[o]?) rows p.funcs) (h5 : (rows.map codeOf).Pairwise (· < ·))
    {o v o2 v2 : Nat} (hi : i < p.funcs.length) (hrow : rows[i]? = some [.v (.i .i64 (p.funcs.getD i default).params), .v (.i .i64 (p.funcs.getD i default).regs), .os o v, .os o2 v2]) (ho : H[o]? = some (.arr v 5 (vrows ((p.funcs.getD i default).code.map Instr.row)))) (H' : List AObj) (hat : H'[o]? = some (.arr v 5 (vrows (((p.funcs.getD i default).code.set j x).map Instr.row)))) (hoth : ∀ (m : Nat) ob, m ≠ o → H[m]? = some ob → H'[m]? = some ob) : OwnProg H' r (p.put i j x) := by
  have other : ∀ (m v' sz : Nat) (rs : List (List RV)), H[m]? = some (.arr v' sz rs) → sz ≠ 5 → H'[m]? = some (.arr v' sz rs) := fun m v' sz rs hm hs => by
    refine hoth _ _ ?_ hm
    rintro rfl
    rw [ho] at hm; cases hm; exact hs rfl
  refine ⟨a, va, b, vb, c, vc, rows, hr, other _ _ _ _ h1 (by decide), other _ _ _ _ h2 (by decide), other _ _ _ _ h3 (by decide), ⟨by simp [Prog.put, h4.1], fun k row f hk hf => ?_⟩, h5⟩
  have sels : ∀ rs l, OwnSels (fun o => H[o]?) rs l → OwnSels (fun o => H'[o]?) rs l := fun rs l hh => ⟨hh.1, fun k row s q1 q2 => by
    obtain ⟨o', v', e1, e2⟩ := hh.2 k row s q1 q2
    exact ⟨o', v', e1, other _ _ _ _ e2 (by decide)⟩⟩
  by_cases hki : i = k
  · subst hki
    have hf' : f = (p.funcs.getD i default).put j x := by
      have : (p.put i j x).funcs[i]? = some ((p.funcs.getD i default).put j x) := by simp [Prog.put, hi]
      rw [this] at hf; exact (Option.some.inj hf).symm
    have hF : p.funcs[i]? = some (p.funcs.getD i default) := by
      rw [List.getD_eq_getElem?_getD, List.getElem?_eq_getElem hi]; rfl
    obtain ⟨q, w', q2, w2, rs, e1, e2, e3, e4⟩ := h4.2 i row _ hk hF
    rw [hrow] at hk
    have hk := Option.some.inj hk
    rw [e1] at hk
    simp only [List.cons.injEq, RV.os.injEq, and_true, true_and] at hk
    obtain ⟨⟨rfl, rfl⟩, rfl, rfl⟩ := hk
    subst hf'
    refine ⟨o, v, o2, v2, rs, e1, ?_, other _ _ _ _ e3 (by decide), sels _ _ e4⟩
    exact hat
  · have hf2 : p.funcs[k]? = some f := by
      simpa [Prog.put, List.getElem?_set, hki] using hf
    obtain ⟨q, w', q2, w2, rs, e1, e2, e3, e4⟩ := h4.2 k row f hk hf2
    refine ⟨q, w', q2, w2, rs, e1, ?_, other _ _ _ _ e3 (by decide), sels _ _ e4⟩
    refine hoth _ _ ?_ e2
    rintro rfl
    have g1 : (rows.map codeOf)[i]? = some q := by rw [List.getElem?_map, hrow]; rfl
    have g2 : (rows.map codeOf)[k]? = some q := by rw [List.getElem?_map, hk, e1]; rfl
    obtain ⟨l1, e5⟩ := List.getElem?_eq_some_iff.1 g1
    obtain ⟨l2, e6⟩ := List.getElem?_eq_some_iff.1 g2
    rcases Nat.lt_or_gt_of_ne hki with hlt | hlt
    · have := List.pairwise_iff_getElem.1 h5 i k l1 l2 hlt; omega
    · have := List.pairwise_iff_getElem.1 h5 k i l2 l1 hlt; omega
end Go.Sc.Sp
