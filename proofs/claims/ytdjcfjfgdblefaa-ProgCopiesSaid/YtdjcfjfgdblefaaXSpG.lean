/- Chapter 03: a program's lists written over. No condition. -/
import Derived.Test.YtdjcfjfgdblefaaXSpF
set_option linter.constructorNameAsVariable false
namespace Go.Sc.Sp
open Go Go.RowKit Go.Av Go.Proofs Go.Sc Go.Sc.So
set_option linter.unusedSimpArgs false
set_option linter.unusedVariables false
def Wide (k : Nat) (R : List (List RV)) : Prop := R.length < 9223372036854775807 ∧ ∀ row ∈ R, row.length = k
/-- What of a program's lists stays while they are written over: n tells the three lists from the others, m all of them from what comes later. -/
def ShSel (n m : Nat) (H : List AObj) (row : List RV) : Prop := ∃ q w i R, row = [.os q w, .v (.i .i64 i)] ∧ n ≤ q ∧ q < m ∧ H[q]? = some (.arr w 4 R) ∧ Wide 4 R
def ShFn (n m : Nat) (H : List AObj) (row : List RV) : Prop := ∃ x y o v o2 v2 R S, row = [.v (.i .i64 x), .v (.i .i64 y), .os o v, .os o2 v2] ∧ (n ≤ o ∧ o < m) ∧ (n ≤ o2 ∧ o2 < m) ∧ H[o]? = some (.arr v 5 R) ∧ Wide 5 R ∧ H[o2]? = some (.arr v2 2 S) ∧ S.length < 9223372036854775807 ∧ ∀ row ∈ S, ShSel n m H row
def VarRow (row : List RV) : Prop := ∃ x y, row = [.v (.b x), .v (.i .i64 y)]
structure Sh (n m : Nat) (H : List AObj) (a va b vb c vc lv lc lf : Nat) : Prop where
  low : a < n ∧ b < n ∧ c < n ∧ n ≤ m ∧ m ≤ H.length
  vars : ∃ R, H[a]? = some (.arr va 2 R) ∧ R.length = lv ∧ ∀ row ∈ R, VarRow row
  chans : ∃ R, H[b]? = some (.arr vb 1 R) ∧ R.length = lc ∧ Wide 1 R
  funcs : ∃ R, H[c]? = some (.arr vc 4 R) ∧ R.length = lf ∧ ∀ row ∈ R, ShFn n m H row
/-- Objects that stay, or are written over in their cells. -/
def Over (n m : Nat) (H H' : List AObj) : Prop := H.length ≤ H'.length ∧ ∀ (o : Nat) v sz R, o < m → H[o]? = some (.arr v sz R) → H'[o]? = some (.arr v sz R) ∨ (sz = 5 ∨ sz = 4 ∧ n ≤ o) ∧ ∃ R', H'[o]? = some (.arr v sz R') ∧ Wide sz R'
theorem ShSel.over {n m : Nat} {H H' : List AObj} (h : Over n m H H') {row} (s : ShSel n m H row) : ShSel n m H' row := by
  obtain ⟨q, w, i, R, rfl, h1, h2, h3, h4⟩ := s
  rcases h.2 q w 4 R h2 h3 with h5 | ⟨_, R', h5, h6⟩
  · exact ⟨q, w, i, R, rfl, h1, h2, h5, h4⟩
  · exact ⟨q, w, i, R', rfl, h1, h2, h5, h6⟩
theorem ShFn.over {n m : Nat} {H H' : List AObj} (h : Over n m H H') {row} (s : ShFn n m H row) : ShFn n m H' row := by
  obtain ⟨x, y, o, v, o2, v2, R, S, rfl, h1, h2, h3, h4, h5, hb, h6⟩ := s
  have hS : H'[o2]? = some (.arr v2 2 S) := by
    rcases h.2 o2 v2 2 S h2.2 h5 with h7 | ⟨h8, _⟩
    · exact h7
    · omega
  rcases h.2 o v 5 R h1.2 h3 with h7 | ⟨_, R', h7, h8⟩
  · exact ⟨x, y, o, v, o2, v2, R, S, rfl, h1, h2, h7, h4, hS, hb, fun row hr => (h6 row hr).over h⟩
  · exact ⟨x, y, o, v, o2, v2, R', S, rfl, h1, h2, h7, h8, hS, hb, fun row hr => (h6 row hr).over h⟩
theorem Sh.over {n m : Nat} {H H' : List AObj} {a va b vb c vc lv lc lf : Nat} (h : Over n m H H') (s : Sh n m H a va b vb c vc lv lc lf) : Sh n m H' a va b vb c vc lv lc lf := by
  obtain ⟨hl, ⟨R1, e1, e2, e3⟩, ⟨R2, e4, e5, e6⟩, ⟨R3, e7, e8, e9⟩⟩ := s
  refine ⟨by have := h.1; omega, ⟨R1, ?_, e2, e3⟩, ⟨R2, ?_, e5, e6⟩, ⟨R3, ?_, e8, fun row hr => (e9 row hr).over h⟩⟩
  · rcases h.2 a va 2 R1 (by omega) e1 with h7 | ⟨h8, _⟩
    · exact h7
    · omega
  · rcases h.2 b vb 1 R2 (by omega) e4 with h7 | ⟨h8, _⟩
    · exact h7
    · omega
  · rcases h.2 c vc 4 R3 (by omega) e7 with h7 | ⟨h8, _⟩
    · exact h7
    · omega
theorem over_app {n m : Nat} (H L : List AObj) : Over n m H (H ++ L) := ⟨by simp, fun o v sz R _ h => .inl (by rw [List.getElem?_append_left (List.getElem?_eq_some_iff.1 h).1]; exact h)⟩
theorem Over.trans {n m : Nat} {A B C : List AObj} (h : Over n m A B) (k : Over n m B C) : Over n m A C := by
  refine ⟨Nat.le_trans h.1 k.1, fun o v sz R ho hA => ?_⟩
  rcases h.2 o v sz R ho hA with hB | ⟨c1, R', hB, w1⟩
  · exact k.2 o v sz R ho hB
  · rcases k.2 o v sz R' ho hB with hC | ⟨_, R2, hC, w2⟩
    · exact .inr ⟨c1, R', hC, w1⟩
    · exact .inr ⟨c1, R2, hC, w2⟩
theorem over_set {n m : Nat} {H : List AObj} {o v sz : Nat} {R R' : List (List RV)} (hs : sz = 5 ∨ sz = 4 ∧ n ≤ o) (h : H[o]? = some (.arr v sz R)) (hw : Wide sz R') : Over n m H (H.set o (.arr v sz R')) := by
  refine ⟨by simp, fun o' v' sz' R2 _ h2 => ?_⟩
  by_cases ho : o = o'
  · subst ho
    rw [h] at h2; cases h2
    exact .inr ⟨hs, R', by rw [List.getElem?_set_self (List.getElem?_eq_some_iff.1 h).1], hw⟩
  · exact .inl (by rw [List.getElem?_set_ne ho]; exact h2)
theorem over_var {n m : Nat} {H : List AObj} {o : Nat} {cs : List RV} (hm : m ≤ o) : Over n m H (H.set o (.var cs)) :=
  ⟨by simp, fun o' v' sz' R2 h1 h2 => .inl (by rw [List.getElem?_set_ne (by omega)]; exact h2)⟩
theorem Sh.keep {n m : Nat} {H : List AObj} {a va b vb c vc lv lc lf : Nat} (s : Sh n m H a va b vb c vc lv lc lf) {k v sz : Nat} {R R' : List (List RV)} (hk : k < n) (hR : H[k]? = some (.arr v sz R)) :
    (∀ row, ShFn n m H row → ShFn n m (H.set k (.arr v sz R')) row) := by
  intro row hs
  have oth : ∀ o, n ≤ o → (H.set k (.arr v sz R'))[o]? = H[o]? := fun o h => by rw [List.getElem?_set_ne (by omega)]
  obtain ⟨x, y, o, v, o2, v2, R, S, rfl, h1, h2, h3, h4, h5, hb, h6⟩ := hs
  refine ⟨x, y, o, v, o2, v2, R, S, rfl, h1, h2, by rw [oth _ h1.1]; exact h3, h4, by rw [oth _ h2.1]; exact h5, hb, fun row hr => ?_⟩
  obtain ⟨q, w, i, R4, rfl, e1, e2, e3, e4⟩ := h6 row hr
  exact ⟨q, w, i, R4, rfl, e1, e2, by rw [oth _ e1]; exact e3, e4⟩
theorem Sh.setVars {n m : Nat} {H : List AObj} {a va b vb c vc lv lc lf : Nat} (s : Sh n m H a va b vb c vc lv lc lf) {R' : List (List RV)} (hl : R'.length = lv) (hr : ∀ row ∈ R', VarRow row) : Sh n m (H.set a (.arr va 2 R')) a va b vb c vc lv lc lf := by
  obtain ⟨l0, ⟨R1, e1, e2, e3⟩, ⟨R2, e4, e5, e6⟩, ⟨R3, e7, e8, e9⟩⟩ := s
  have nb : a ≠ b := fun h => by subst h; rw [e1] at e4; cases e4
  have nc : a ≠ c := fun h => by subst h; rw [e1] at e7; cases e7
  refine ⟨by simpa using l0, ⟨R', by rw [List.getElem?_set_self (by omega)], hl, hr⟩, ⟨R2, by rw [List.getElem?_set_ne nb]; exact e4, e5, e6⟩, ⟨R3, by rw [List.getElem?_set_ne nc]; exact e7, e8, fun row h => Sh.keep ⟨l0, ⟨R1, e1, e2, e3⟩, ⟨R2, e4, e5, e6⟩, ⟨R3, e7, e8, e9⟩⟩ l0.1 e1 row (e9 row h)⟩⟩
theorem Sh.setChans {n m : Nat} {H : List AObj} {a va b vb c vc lv lc lf : Nat} (s : Sh n m H a va b vb c vc lv lc lf) {R' : List (List RV)} (hl : R'.length = lc) (hr : Wide 1 R') : Sh n m (H.set b (.arr vb 1 R')) a va b vb c vc lv lc lf := by
  obtain ⟨l0, ⟨R1, e1, e2, e3⟩, ⟨R2, e4, e5, e6⟩, ⟨R3, e7, e8, e9⟩⟩ := s
  have nb : b ≠ a := fun h => by subst h; rw [e1] at e4; cases e4
  have nc : b ≠ c := fun h => by subst h; rw [e4] at e7; cases e7
  refine ⟨by simpa using l0, ⟨R1, by rw [List.getElem?_set_ne nb]; exact e1, e2, e3⟩, ⟨R', by rw [List.getElem?_set_self (by omega)], hl, hr⟩, ⟨R3, by rw [List.getElem?_set_ne nc]; exact e7, e8, fun row h => Sh.keep ⟨l0, ⟨R1, e1, e2, e3⟩, ⟨R2, e4, e5, e6⟩, ⟨R3, e7, e8, e9⟩⟩ l0.2.1 e4 row (e9 row h)⟩⟩
theorem wide_set {k i : Nat} {R : List (List RV)} {row : List RV} (h : Wide k R) (hr : row.length = k) : Wide k (R.set i row) := by
  refine ⟨by simpa using h.1, fun r hr2 => ?_⟩
  rcases List.mem_or_eq_of_mem_set hr2 with h1 | rfl
  · exact h.2 r h1
  · exact hr
theorem OwnP2.sh {H : List AObj} {p : Prog} (hp : p.Ok) {n a va b vb c vc : Nat} {rows : List (List RV)} (h0 : a < n ∧ b < n ∧ c < n) (hn : n ≤ H.length) (h1 : H[a]? = some (.arr va 2 (vrows (p.vars.map Var.row)))) (h2 : H[b]? = some (.arr vb 1 (vrows (p.chans.map irow)))) (h3 : H[c]? = some (.arr vc 4 rows)) (h4 : OwnFns (above n H) rows p.funcs) :
    Sh n H.length H a va b vb c vc p.vars.length p.chans.length p.funcs.length := by
  refine ⟨⟨h0.1, h0.2.1, h0.2.2, hn, Nat.le_refl _⟩, ⟨_, h1, by simp [vrows], fun row hr => ?_⟩, ⟨_, h2, by simp [vrows], by simpa [vrows] using hp.fewc.lt (by decide), fun row hr => ?_⟩, ⟨_, h3, h4.1, fun row hr => ?_⟩⟩
  · simp only [vrows, List.map_map, List.mem_map] at hr
    obtain ⟨v, _, rfl⟩ := hr
    exact ⟨v.atomic, v.init, rfl⟩
  · simp only [vrows, List.map_map, List.mem_map] at hr
    obtain ⟨v, _, rfl⟩ := hr
    rfl
  · obtain ⟨k, hk⟩ := List.getElem?_of_mem hr
    have hkl : k < p.funcs.length := by rw [← h4.1]; exact (List.getElem?_eq_some_iff.1 hk).1
    obtain ⟨q, v, q2, v2, rs, rfl, e2, e3, e4⟩ := h4.2 k row _ hk (List.getElem?_eq_getElem hkl)
    obtain ⟨l1, l2, l3⟩ := at_lt e2
    obtain ⟨m1, m2, m3⟩ := at_lt e3
    have hok := hp.funcs _ (List.getElem_mem hkl)
    refine ⟨_, _, q, v, q2, v2, _, rs, rfl, ⟨l2, l1⟩, ⟨m2, m1⟩, l3, ⟨by simpa [vrows] using hok.few.lt (by decide), fun row hr => ?_⟩, m3, by rw [e4.1]; exact hok.fews.lt (by decide), fun row hr => ?_⟩
    · simp only [vrows, List.map_map, List.mem_map] at hr
      obtain ⟨x, _, rfl⟩ := hr
      rfl
    · obtain ⟨k2, hk2⟩ := List.getElem?_of_mem hr
      have hkl2 : k2 < rs.length := (List.getElem?_eq_some_iff.1 hk2).1
      obtain ⟨q3, v3, rfl, e6⟩ := e4.2 k2 row _ hk2 (List.getElem?_eq_getElem (by rw [← e4.1]; exact hkl2))
      obtain ⟨k1, k3, k4⟩ := at_lt e6
      have hok2 := hok.sel _ (List.getElem_mem (show k2 < (p.funcs[k]).selects.length by rw [← e4.1]; exact hkl2))
      refine ⟨q3, v3, _, _, rfl, k3, k1, k4, by simpa [vrows] using hok2.few.lt (by decide), fun row hr => ?_⟩
      simp only [vrows, List.map_map, List.mem_map] at hr
      obtain ⟨x, _, rfl⟩ := hr
      rfl
end Go.Sc.Sp
