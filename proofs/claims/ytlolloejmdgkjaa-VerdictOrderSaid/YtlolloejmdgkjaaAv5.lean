/- The operations that make or write memory: their short form (MOp), what each does (evm), and that the program does the same. No condition. -/
import Derived.Test.YtlolloejmdgkjaaAv4
import Derived.Laws.MakeOwn
set_option linter.constructorNameAsVariable false
namespace Go.Av
open Go Go.RowKit
set_option linter.unusedSimpArgs false
set_option linter.unusedVariables false

inductive MOp where
  | alloc (z : AV)
  | box (x : AX)
  | st (sz : Nat) (p x : AX)

def tZero (P : Program) (t : TypeId) : Option AV := (P.info? t).bind fun i => i.zero.bind cv

def resM (P : Program) : Op → Option MOp
  | .alloc t => (tZero P t).map .alloc
  | .box _ x => (resX x).map .box
  | .store t p x => (tSize P t).bind fun z => (resX p).bind fun p => (resX x).map fun x => .st z p x
  | _ => none

/-- A value's cells. -/
def rcells : RV → Option (List RV)
  | .v (.g cs) => some (cs.map .v)
  | .gr cs => some cs
  | .v (.tup _) => none
  | .tr _ => none
  | .any => none
  | .cnd _ _ => none
  | x => some [x]

def putAll {α : Type} : List α → Nat → List α → List α
  | l, _, [] => l
  | l, off, x :: m => putAll (l.set off x) (off + 1) m

theorem putAll_length {α : Type} (m : List α) : ∀ (l : List α) (off : Nat), (putAll l off m).length = l.length := by
  induction m with
  | nil => intro l off; rfl
  | cons x m ih => intro l off; simp [putAll, ih]

theorem set_self {α : Type} {l : List α} {i : Nat} {x : α} (h : l[i]? = some x) : l.set i x = l := by
  apply List.ext_getElem?
  intro j
  rw [List.getElem?_set]
  obtain ⟨hi, hx⟩ := List.getElem?_eq_some_iff.1 h
  split
  · rename_i hij; subst hij; simp [hi, hx]
  · rfl

def evSt (sz : Nat) (p x : RV) (H : List AObj) : Option (Prop × RV × List AObj) :=
  match p with
  | .pt o ver r off =>
    match H[o]?, rcells x with
    | some (.var cs), some m => some (m.length = sz ∧ off + sz ≤ cs.length, .any, H.set o (.var (putAll cs off m)))
    | some (.arr v z rows), some m =>
      (m.mapM toV).map fun m => (ver = v ∧ m.length = sz ∧ r < rows.length ∧ off + sz ≤ (rows.getD r []).length, .any, H.set o (.arr v z (rows.set r (putAll (rows.getD r []) off m))))
    | _, _ => none
  | _ => none

def evm (A : AX → RV) (H : List AObj) : MOp → Option (Prop × RV × List AObj)
  | .alloc z => (rcells (.v z)).map fun cs => (True, .pt H.length 0 0 0, H ++ [.var cs])
  | .box x => (rcells (A x)).map fun cs => (True, .pt H.length 0 0 0, H ++ [.var cs])
  | .st sz p x => evSt sz (A p) (A x) H

theorem cells_one {c : Value} (h : c.oneCell' = true) : c.cells = #[c] := by cases c <;> first | rfl | simp [Value.oneCell'] at h

theorem one_cells {e : Env} {x : RV} {c : Value} (hx : VR e x c) (hc : c.oneCell' = true) :
    c.cells.size = [x].length ∧ (∀ (j : Nat) c', c.cells[j]? = some c' → c'.oneCell' = true) ∧ ∀ (j : Nat) x' y, [x][j]? = some x' → c.cells[j]? = some y → VR e x' y := by
  rw [cells_one hc]
  refine ⟨rfl, fun j c' h => ?_, fun j x' y h1 h2 => ?_⟩
  · cases j with
    | zero => simp at h; subst h; exact hc
    | succ j => simp at h
  · cases j with
    | zero => simp at h1 h2; subst h1; subst h2; exact hx
    | succ j => simp at h1

theorem rcells_ok {e : Env} {x : RV} {c : Value} {cs : List RV} (hx : VR e x c) (h : rcells x = some cs) :
    c.cells.size = cs.length ∧ (∀ (j : Nat) c', c.cells[j]? = some c' → c'.oneCell' = true) ∧ ∀ (j : Nat) x' y, cs[j]? = some x' → c.cells[j]? = some y → VR e x' y := by
  cases hx with
  | v h' =>
    cases h' with
    | g cs' vs hn h1 h2 =>
      simp [rcells] at h; subst h
      refine ⟨by show vs.size = _; simpa using hn, h1, fun j x' y hx' hy => ?_⟩
      rw [List.getElem?_map, Option.map_eq_some_iff] at hx'
      obtain ⟨a, ha, rfl⟩ := hx'
      exact .v (h2 j a y ha hy)
    | tup cs' vs hn h2 => simp [rcells] at h
    | b x => simp [rcells] at h; subst h; exact one_cells (.v (.b _)) rfl
    | i k n => simp [rcells] at h; subst h; exact one_cells (.v (.i _ _)) rfl
    | s x => simp [rcells] at h; subst h; exact one_cells (.v (.s _)) rfl
    | sl sz rows b off cap f hb hsz hcap hc hh => simp [rcells] at h; subst h; exact one_cells (.v (.sl _ _ _ _ _ f hb hsz hcap hc hh)) rfl
    | sle sz p cap => simp [rcells] at h; subst h; exact one_cells (.v (.sle _ _ _)) rfl
    | nil p => simp [rcells] at h; subst h; exact one_cells (.v (.nil _)) rfl
    | pim cs' b off f hb hc hh => simp [rcells] at h; subst h; exact one_cells (.v (.pim _ _ _ f hb hc hh)) rfl
    | np => simp [rcells] at h; subst h; exact one_cells (.v .np) rfl
    | fn f cs' vs hn hh => simp [rcells] at h; subst h; exact one_cells (.v (.fn _ _ _ hn hh)) rfl
    | nf => simp [rcells] at h; subst h; exact one_cells (.v .nf) rfl
  | os ob lo h1 h2 h' h1c =>
    simp [rcells] at h; subst h
    exact one_cells (.os ob lo h1 h2 h' h1c) h1c
  | pt ob lo h1 h2 h' h1c =>
    simp [rcells] at h; subst h
    exact one_cells (.pt ob lo h1 h2 h' h1c) h1c
  | fr hn h' => simp [rcells] at h; subst h; exact one_cells (.fr hn h') rfl
  | tr hn h' => simp [rcells] at h
  | gr hn h1 h' =>
    simp [rcells] at h; subst h
    exact ⟨hn, h1, h'⟩
  | any => simp [rcells] at h
  | cnd h1 h2 => simp [rcells] at h

theorem run_store_ok {P : Program} {w : World} {a : Addr} {u v : Value} (hc : w.cell? a = some u) (hf : w.frozen? a = false) (hv : v.oneCell' = true) : (store a v).run P w = .ok () (w.setCell a v) := by
  rw [run_store P w a v .plain hv, hc]; simp [hf]

theorem storeCells_var {P : Program} {o : Nat} {l : Loc} : ∀ (m : List RV) (vs : List Value) (i off : Nat) (e : Env) (cs : List RV), Good e → e.H[o]? = some (.var cs) → e.ρ[o]? = some (some l) → vs.length = m.length → off + i + m.length ≤ cs.length →
    (∀ (j : Nat) c, vs[j]? = some c → c.oneCell' = true) → (∀ (j : Nat) x y, m[j]? = some x → vs[j]? = some y → VR e x y) →
    ∃ e' : Env, (storeCells ⟨l.blk, l.off + off, none⟩ vs i).run P e.w = .ok () e'.w ∧ e'.H = e.H.set o (.var (putAll cs (off + i) m)) ∧ Good e' ∧ Mv e e' := by
  intro m
  induction m with
  | nil =>
    intro vs i off e cs g ho hl hn _ _ _
    obtain rfl : vs = [] := List.eq_nil_of_length_eq_zero (by simpa using hn)
    exact ⟨e, by simp [storeCells], by simp [putAll, set_self ho], g, .refl⟩
  | cons x m ih =>
    intro vs i off e cs g ho hl hn hlen h1 h2
    cases vs with
    | nil => simp at hn
    | cons v vs =>
      simp only [List.length_cons] at hlen
      have hj : off + i < cs.length := by omega
      obtain ⟨l', hl', hcell⟩ := g.obj o _ _ ho hl
      cases hl'
      obtain ⟨u, hu, hfu, _, _⟩ := hcell (off + i) _ (list_get hj .any)
      have hv := h1 0 v (by simp)
      obtain ⟨e1, hw1, hH1, hρ1, g1, mv1⟩ := set_var g ho hl hj (h2 0 x v (by simp) (by simp)) hv
      have hlt : o < e.H.length := (List.getElem?_eq_some_iff.1 ho).1
      obtain ⟨e', hr, hH, g', mv'⟩ := ih vs (i + 1) off e1 (cs.set (off + i) x) g1 (by rw [hH1]; simp [hlt]) (by rw [hρ1]; exact hl) (by simpa using hn) (by simp; omega)
        (fun j c hc => h1 (j + 1) c (by simpa using hc)) (fun j x y hx hy => mv1.vr (h2 (j + 1) x y (by simpa using hx) (by simpa using hy)))
      refine ⟨e', ?_, ?_, g', mv1.trans mv' g⟩
      · have := run_store_ok (P := P) (a := ⟨l.blk, l.off + (off + i), none⟩) hu hfu hv
        simp only [storeCells, Sem.run_bind, add_none, Nat.add_assoc, this, Result.andThen_ok]
        rw [← hw1]
        simpa [Nat.add_assoc] using hr
      · rw [hH, hH1, List.set_set, putAll, Nat.add_assoc]

theorem storeCells_arr {P : Program} {o r v sz : Nat} {l : Loc} : ∀ (m : List AV) (vs : List Value) (i off : Nat) (e : Env) (rows : List (List AV)), Good e → e.H[o]? = some (.arr v sz rows) → e.ρ[o]? = some (some l) → vs.length = m.length → r < rows.length → off + i + m.length ≤ (rows.getD r []).length →
    (∀ (j : Nat) c, vs[j]? = some c → c.oneCell' = true) → (∀ (j : Nat) x y, m[j]? = some x → vs[j]? = some y → VI e.w e.Im x y) →
    ∃ e' : Env, (storeCells ⟨l.blk, l.off + r * sz + off, none⟩ vs i).run P e.w = .ok () e'.w ∧ e'.H = e.H.set o (.arr v sz (rows.set r (putAll (rows.getD r []) (off + i) m))) ∧ Good e' ∧ Mv e e' := by
  intro m
  induction m with
  | nil =>
    intro vs i off e rows g ho hl hn hr _ _ _
    obtain rfl : vs = [] := List.eq_nil_of_length_eq_zero (by simpa using hn)
    refine ⟨e, by simp [storeCells], ?_, g, .refl⟩
    have : rows.set r (rows.getD r []) = rows := set_self (list_get hr [])
    rw [putAll, this, set_self ho]
  | cons x m ih =>
    intro vs i off e rows g ho hl hn hr hlen h1 h2
    cases vs with
    | nil => simp at hn
    | cons w vs =>
      simp only [List.length_cons] at hlen
      have hj : off + i < (rows.getD r []).length := by omega
      obtain ⟨hs, hcap, hroom, hcell⟩ := g.obj o _ _ ho hl
      have hrow := list_get hr []
      have hsz : (rows.getD r []).length = sz := hs _ (List.mem_of_getElem? hrow)
      have hroom' : r * sz + (off + i) < l.cap * sz := by
        have : (r + 1) * sz ≤ l.cap * sz := Nat.mul_le_mul_right _ (by omega)
        rw [Nat.add_mul] at this; omega
      obtain ⟨u, hu, hfu⟩ := hroom _ hroom'
      have hv := h1 0 w (by simp)
      obtain ⟨e1, hw1, hH1, hρ1, g1, mv1⟩ := set_arr g ho hl hr hj (h2 0 x w (by simp) (by simp)) hv
      have hlt : o < e.H.length := (List.getElem?_eq_some_iff.1 ho).1
      have hget : (rows.set r ((rows.getD r []).set (off + i) x)).getD r [] = (rows.getD r []).set (off + i) x := by simp [List.getD, hr]
      obtain ⟨e', hr', hH, g', mv'⟩ := ih vs (i + 1) off e1 (rows.set r ((rows.getD r []).set (off + i) x)) g1 (by rw [hH1]; simp [hlt]) (by rw [hρ1]; exact hl) (by simpa using hn) (by simpa using hr) (by rw [hget]; simp only [List.length_set]; omega)
        (fun j c hc => h1 (j + 1) c (by simpa using hc)) (fun j x y hx hy => mv1.vi (h2 (j + 1) x y (by simpa using hx) (by simpa using hy)))
      refine ⟨e', ?_, ?_, g', mv1.trans mv' g⟩
      · have := run_store_ok (P := P) (a := ⟨l.blk, l.off + (r * sz + (off + i)), none⟩) hu hfu hv
        simp only [storeCells, Sem.run_bind, add_none, Nat.add_assoc, this, Result.andThen_ok]
        simp only [Nat.add_assoc] at hw1
        rw [← hw1]
        simpa [Nat.add_assoc] using hr'
      · rw [hH, hH1, List.set_set, hget, putAll, Nat.add_assoc, List.set_set]

/-- **AN OPERATION THAT MAKES OR WRITES MEMORY.** -/
theorem evm_ok {P : Program} {e : Env} (g : Good e) {a : Act} {A : AX → RV} (hA : Reads e a A) {o : Oper} {q : MOp} (hq : resM P o.op = some q) {C : Prop} {r : RV} {H' : List AObj} (h : evm A e.H q = some (C, r, H')) (hC : C) :
    ∃ e' : Env, e'.H = H' ∧ Good e' ∧ Mv e e' ∧ ((∃ c, (execOp a.eval o).run P e.w = .ok (.value c) e'.w ∧ VR e' r c) ∨ ((execOp a.eval o).run P e.w = .ok .skip e'.w ∧ r = .any)) := by
  unfold resM at hq
  split at hq
  · rename_i t ho
    obtain ⟨z, hz, rfl⟩ := Option.map_eq_some_iff.1 hq
    simp only [tZero, Option.bind_eq_some_iff] at hz
    obtain ⟨i, hi, zv, hzv, hcv⟩ := hz
    simp only [evm, Option.map_eq_some_iff] at h
    obtain ⟨cs, hcs, h⟩ := h
    cases h
    have hv : VR e (.v z) zv := .v (cv_ok hcv)
    obtain ⟨c1, c2, c3⟩ := rcells_ok hv hcs
    obtain ⟨e', hw, hH, g', mv, hp⟩ := new_var g t zv.cells cs c1 c2 c3
    exact ⟨e', hH, g', mv, .inl ⟨_, by rw [hw]; simp [execOp, ho, Instr.alloc, zeroValue, typeInfo, hi, hzv, newVar, newRow], hp⟩⟩
  · rename_i t x ho
    obtain ⟨x', hx, rfl⟩ := Option.map_eq_some_iff.1 hq
    simp only [evm, Option.map_eq_some_iff] at h
    obtain ⟨cs, hcs, h⟩ := h
    cases h
    obtain ⟨c1, c2, c3⟩ := rcells_ok (hA _ _ hx) hcs
    obtain ⟨e', hw, hH, g', mv, hp⟩ := new_var g t (a.eval x).cells cs c1 c2 c3
    exact ⟨e', hH, g', mv, .inl ⟨_, by rw [hw]; simp [execOp, ho, Instr.box, newVar, newRow], hp⟩⟩
  · rename_i t p x ho
    simp only [Option.bind_eq_some_iff, Option.map_eq_some_iff] at hq
    obtain ⟨z, hz, p', hp, x', hx, rfl⟩ := hq
    simp only [evm, evSt] at h
    split at h
    · rename_i o' ver r' off hpt
      have hpv := hA _ _ hp
      rw [hpt] at hpv
      obtain ⟨p1, p2⟩ := hpv.ptr g
      split at h
      · rename_i cs m hcs hm
        cases h
        obtain ⟨hC1, hC2⟩ := hC
        obtain ⟨rfl, l, hl, hpe⟩ := p1 _ hcs
        obtain ⟨c1, c2, c3⟩ := rcells_ok (hA _ _ hx) hm
        obtain ⟨e', hr, hH, g', mv⟩ := storeCells_var (P := P) m (a.eval x).cells.toList 0 off e cs g hcs hl (by simpa using c1) (by omega) (fun j c hc => c2 j c (by simpa using hc)) (fun j x y hx hy => c3 j x y hx (by simpa using hy))
        refine ⟨e', hH, g', mv, .inr ⟨?_, rfl⟩⟩
        have hs : (a.eval x).cells.size = z := by omega
        simp [execOp, ho, Instr.storeAt, hpe, Instr.sureAddr, storeVar, run_sizeOf hz, hs, hr]
      · rename_i v z' rows m hcs hm
        simp only [Option.map_eq_some_iff] at h
        obtain ⟨m', hm', h⟩ := h
        cases h
        obtain ⟨rfl, hC1, hC2, hC3⟩ := hC
        obtain ⟨l, hl, hpe⟩ := p2 _ _ hcs
        obtain ⟨c1, c2, c3⟩ := rcells_ok (hA _ _ hx) hm
        have hmm := mapM_toV hm'
        subst hmm
        obtain ⟨e', hr, hH, g', mv⟩ := storeCells_arr (P := P) m' (a.eval x).cells.toList 0 off e rows g hcs hl (by simpa using c1) hC2 (by omega) (fun j c hc => c2 j c (by simpa using hc)) (fun j x y hx hy => vr_v (c3 j (.v x) y (by simp [hx]) (by simpa using hy)))
        refine ⟨e', hH, g', mv, .inr ⟨?_, rfl⟩⟩
        have hs : (a.eval x).cells.size = z := by simp at c1; omega
        simp [execOp, ho, Instr.storeAt, hpe, Instr.sureAddr, storeVar, run_sizeOf hz, hs, hr]
      · cases h
    · cases h
  · cases hq

end Go.Av
