/- The operations that make or write memory: their short form (MOp), what each does (evm), and that the program does the same. No condition. -/
import Derived.Test.YtgipkikbefnokaaDoorXAv3z
import Derived.Test.YtgipkikbefnokaaDoorXAv4
set_option linter.constructorNameAsVariable false
namespace Go.Av
open Go Go.RowKit
set_option linter.unusedSimpArgs false
set_option linter.unusedVariables false

inductive MOp where
  | alloc (z : AV)
  | alb (t el : TypeId)
  | box (x : AX)
  | st (sz : Nat) (p x : AX)
  | bsl (n sz : Nat) (z : List AV) (ps : List (Nat × Nat × AX))
  | mks (sz bytes : Nat) (z : List AV) (len cap : AX)
  | app (sz bytes : Nat) (s x : AX)
  | sla (n : Nat) (p : AX)
  | cvb (x : AX)
  | clr (sz : Nat) (z : List AV) (s : AX)
  | mkm
  | mup (ag : Bool) (ks : List CK) (m key val : AX)
  | rng (m : AX)

def isList : TypeDesc → Bool
  | .slice _ => true
  | .string => true
  | _ => false

def bldT (P : Program) (t : TypeId) : Option TypeId :=
  match (P.info? t).bind (·.zero), P.underlying t with
  | some (.agg cs), some (.struct fs) =>
    match cs.toList, fs.toList with
    | [.pointer none, .slice none 0 0], [f0, f1] =>
      match P.underlying f0.type, P.underlying f1.type with
      | some (.pointer t'), some (.slice el) => if t' = t then some el else none
      | _, _ => none
    | _, _ => none
  | _, _ => none
theorem bldT_zero {P : Program} {t el : TypeId} (h : bldT P t = some el) : ∃ i cs, P.info? t = some i ∧ i.zero = some (.agg cs) ∧ cs = #[.pointer none, .slice none 0 0] := by
  unfold bldT at h
  split at h
  · rename_i cs fs h1 _
    obtain ⟨i, hi, hz⟩ := Option.bind_eq_some_iff.1 h1
    split at h
    · rename_i f0 f1 h2 _
      exact ⟨i, cs, hi, hz, by apply Array.toList_inj.1; rw [h2]⟩
    · cases h
  · cases h
def resM (P : Program) : Op → Option MOp
  | .alloc t => match bldT P t with | some el => some (.alb t el) | none => (tZero P t).map .alloc
  | .box _ x => (resX P x).map .box
  | .store t p x => (tSize P t).bind fun z => (resX P p).bind fun p => (resX P x).map fun x => .st z p x
  | .buildSlice t n ps =>
    match P.underlying t with
    | some (.slice e) => (tSize P e).bind fun s => (tZeroL P e).bind fun z => if z.length = s ∧ 0 < s ∧ n * s ≤ 16777216 then (ps.toList.mapM (resItem P s)).map (.bsl n s z) else none
    | _ => none
  | .makeSlice t l c =>
    match P.underlying t with
    | some (.slice e) => (P.info? e).bind fun i => (tZeroL P e).bind fun z => if z.length = i.size ∧ 0 < i.size then (resX P l).bind fun l => (resX P c).map fun c => .mks i.size i.bytes z l c else none
    | _ => none
  | .call c =>
    match c.callee, c.args.toList, c.argTypes.toList with
    | .builtin .append, [s, x], [t, u] =>
      match P.underlying t, P.underlying u with
      | some (.slice e), some d => (P.info? e).bind fun i => (tZeroL P e).bind fun z => if isList d = true ∧ z.length = i.size ∧ 0 < i.size then (resX P s).bind fun s => (resX P x).map fun x => .app i.size i.bytes s x else none
      | _, _ => none
    | .builtin .clear, [s], [t] =>
      match P.underlying t with
      | some (.slice e) => (P.info? e).bind fun i => (tZeroL P e).bind fun z => if z.length = i.size ∧ 0 < i.size then (resX P s).map fun s => .clr i.size z s else none
      | _ => none
    | _, _, _ => none
  | .slice t x none none none =>
    match P.underlying t with
    | some (.array n el) => if tSize P el = some 1 then (resX P x).map fun x => .sla n x else none
    | _ => none
  | .convert src dst x =>
    match P.underlying src with
    | some (.slice el) =>
      match P.underlying el with
      | some (.int .u8) => if src = dst then (resX P x).map fun x => .cvb x else none
      | _ => none
    | _ => none
  | .makeMap _ none => some .mkm
  | .mapUpdate t m k x | .insert t m k x =>
    match P.underlying t with
    | some (.map kt _) => (flatK P 40 kt).bind fun ks => (aggSize P kt).bind fun s => if tSize P kt = some ks.length then (resX P m).bind fun m => (resX P k).bind fun k => (resX P x).map fun x => .mup s.isSome ks m k x else none
    | _ => none
  | .range t x =>
    match P.underlying t with
    | some (.map _ _) => (resX P x).map .rng
    | _ => none
  | _ => none

theorem set_self {α : Type} {l : List α} {i : Nat} {x : α} (h : l[i]? = some x) : l.set i x = l := by
  apply List.ext_getElem?
  intro j
  rw [List.getElem?_set]
  obtain ⟨hi, hx⟩ := List.getElem?_eq_some_iff.1 h
  split
  · rename_i hij; subst hij; simp [hi, hx]
  · rfl

def evSt (sz : Nat) (p x : RV) (H : List AObj) : Option (Prop × RV × List AObj) :=
  match p with
  | .pt o ver r off =>
    match H[o]?, rcells x with
    | some (.var cs), some m => some (m.length = sz ∧ off + sz ≤ cs.length, .any, H.set o (.var (putAll cs off m)))
    | some (.arr v z rows), some m =>
      some (ver = v ∧ m.length = sz ∧ r < rows.length ∧ off + sz ≤ (rows.getD r []).length, .any, H.set o (.arr v z (rows.set r (putAll (rows.getD r []) off m))))
    | _, _ => none
  | _ => none

def repl : Nat → List RV → List RV
  | 0, _ => []
  | n + 1, z => z ++ repl n z

def chunk (sz : Nat) : Nat → List RV → List (List RV)
  | 0, _ => []
  | n + 1, l => l.take sz :: chunk sz n (l.drop sz)

def evMks (sz bytes : Nat) (z : List AV) (l c : RV) (H : List AObj) : Option (Prop × RV × List AObj) :=
  match l, c with
  | .v (.i _ l), .v (.i _ c) => some (0 ≤ l ∧ l ≤ c ∧ (bytes : Int) * c ≤ 281474976710656 ∧ c ≤ 9223372036854775807, .os H.length 0, H ++ [.arr 0 sz (List.replicate l.toNat (z.map .v))])
  | _, _ => none

def evApp (sz bytes : Nat) (s x : RV) (H : List AObj) : Option (Prop × RV × List AObj) :=
  (rowsX H sz x).bind fun (C, rs) =>
    match s with
    | .v .nil =>
      match plainR rs with
      | some l => some (C ∧ rs.length * bytes ≤ 140737488355328 ∧ rs.length ≤ 9223372036854775807, .v (.sl sz l), H)
      | none => some (C ∧ rs.length * bytes ≤ 140737488355328 ∧ rs.length ≤ 9223372036854775807, .os H.length 0, H ++ [.arr 0 sz rs])
    | .os o ver =>
      match H[o]? with
      | some (.arr v z rows) => some (C ∧ (ver = v ∧ z = sz) ∧ (rows.length + rs.length) * bytes ≤ 140737488355328 ∧ rows.length + rs.length ≤ 9223372036854775807, .os o (v + 1), H.set o (.arr (v + 1) sz (rows ++ rs)))
      | _ => none
    | _ => none

def evSla (n : Nat) (p : RV) (H : List AObj) : Option (Prop × RV × List AObj) :=
  match p with
  | .pt o _ _ off =>
    match H[o]? with
    | some (.var cs) => (plainr cs).map fun l => (off = 0 ∧ l.length = n, .v (.sl 1 (l.map fun x => [x])), H.set o .none)
    | _ => none
  | _ => none

def evCvb (x : RV) (H : List AObj) : Option (Prop × RV × List AObj) :=
  match x with
  | .os o ver =>
    match H[o]? with
    | some (.arr v sz rows) => some (ver = v ∧ 0 < sz ∧ rows ≠ [], .os o ver, H)
    | _ => none
  | _ => none

def clrRows (rows : List (List RV)) (lo n : Nat) (z : List RV) : List (List RV) := rows.take lo ++ (List.replicate n z ++ rows.drop (lo + n))
def evClr (sz : Nat) (z : List AV) (s : RV) (H : List AObj) : Option (Prop × RV × List AObj) :=
  match s with
  | .os o ver =>
    match H[o]? with
    | some (.arr v z' rows) => some (ver = v ∧ z' = sz, .any, H.set o (.arr v sz (clrRows rows 0 rows.length (z.map .v))))
    | _ => none
  | .sub o ver lo n =>
    match H[o]? with
    | some (.arr v z' rows) => some (ver = v ∧ z' = sz, .any, H.set o (.arr v sz (clrRows rows lo n (z.map .v))))
    | _ => none
  | _ => none

def evm (A : AX → RV) (H : List AObj) : MOp → Option (Prop × RV × List AObj)
  | .alloc z => (rcells (.v z)).map fun cs => (True, .pt H.length 0 0 0, H ++ [.var cs])
  | .alb t el => some (True, .pt (H.length + 1) 0 0 0, H ++ [.buf el 0 [], .xo (.bv t) [.v .np, .os H.length 0]])
  | .box x => (rcells (A x)).map fun cs => (True, .pt H.length 0 0 0, H ++ [.var cs])
  | .st sz p x => evSt sz (A p) (A x) H
  | .bsl n sz z ps => (fillA (repl n (z.map .v)) (ps.map fun p => (p.1, p.2.1, A p.2.2))).map fun (C, l) => (C, .os H.length 0, H ++ [.arr 0 sz (chunk sz n l)])
  | .mks sz bytes z l c => evMks sz bytes z (A l) (A c) H
  | .app sz bytes s x => evApp sz bytes (A s) (A x) H
  | .sla n p => evSla n (A p) H
  | .cvb x => evCvb (A x) H
  | .clr sz z s => evClr sz z (A s) H
  | .mkm => some (True, .pt H.length 0 0 0, H ++ [.xo .mp []])
  | .mup ag ks m key val => evMup ag ks (A m) (A key) (A val) H
  | .rng m => evRng (A m) H

theorem run_store_ok {P : Program} {w : World} {a : Addr} {u v : Value} (hc : w.cell? a = some u) (hf : w.frozen? a = false) (hv : v.oneCell' = true) : (store a v).run P w = .ok () (w.setCell a v) := by
  rw [run_store P w a v .plain hv, hc]; simp [hf]

theorem storeCells_var {P : Program} {o : Nat} {l : Loc} : ∀ (m : List RV) (vs : List Value) (i off : Nat) (e : Env) (cs : List RV), Good e → e.H[o]? = some (.var cs) → e.ρ[o]? = some (some l) → vs.length = m.length → off + i + m.length ≤ cs.length →
    (∀ (j : Nat) c, vs[j]? = some c → c.oneCell' = true) → (∀ (j : Nat) x y, m[j]? = some x → vs[j]? = some y → VR e x y) →
    ∃ e' : Env, (storeCells ⟨l.blk, l.off + off, none⟩ vs i).run P e.w = .ok () e'.w ∧ e'.H = e.H.set o (.var (putAll cs (off + i) m)) ∧ Good e' ∧ Mv e e' := by
  intro m
  induction m with
  | nil =>
    intro vs i off e cs g ho hl hn _ _ _
    obtain rfl : vs = [] := List.eq_nil_of_length_eq_zero (by simpa using hn)
    exact ⟨e, by simp [storeCells], by simp [putAll, set_self ho], g, .refl⟩
  | cons x m ih =>
    intro vs i off e cs g ho hl hn hlen h1 h2
    cases vs with
    | nil => simp at hn
    | cons v vs =>
      simp only [List.length_cons] at hlen
      have hj : off + i < cs.length := by omega
      obtain ⟨l', hl', hcell⟩ := g.obj o _ _ ho hl
      cases hl'
      obtain ⟨u, hu, hfu, _, _⟩ := hcell (off + i) _ (list_get hj .any)
      have hv := h1 0 v (by simp)
      obtain ⟨e1, hw1, hH1, hρ1, g1, mv1⟩ := set_var g ho hl hj (h2 0 x v (by simp) (by simp)) hv
      have hlt : o < e.H.length := (List.getElem?_eq_some_iff.1 ho).1
      obtain ⟨e', hr, hH, g', mv'⟩ := ih vs (i + 1) off e1 (cs.set (off + i) x) g1 (by rw [hH1]; simp [hlt]) (by rw [hρ1]; exact hl) (by simpa using hn) (by simp; omega)
        (fun j c hc => h1 (j + 1) c (by simpa using hc)) (fun j x y hx hy => mv1.vr (h2 (j + 1) x y (by simpa using hx) (by simpa using hy)))
      refine ⟨e', ?_, ?_, g', mv1.trans mv' g⟩
      · have := run_store_ok (P := P) (a := ⟨l.blk, l.off + (off + i), none⟩) hu hfu hv
        simp only [storeCells, Sem.run_bind, add_none, Nat.add_assoc, this, Result.andThen_ok]
        rw [← hw1]
        simpa [Nat.add_assoc] using hr
      · rw [hH, hH1, List.set_set, putAll, Nat.add_assoc]

theorem storeCells_arr {P : Program} {o r v sz : Nat} {l : Loc} : ∀ (m : List RV) (vs : List Value) (i off : Nat) (e : Env) (rows : List (List RV)), Good e → e.H[o]? = some (.arr v sz rows) → e.ρ[o]? = some (some l) → vs.length = m.length → r < rows.length → off + i + m.length ≤ (rows.getD r []).length →
    (∀ (j : Nat) c, vs[j]? = some c → c.oneCell' = true) → (∀ (j : Nat) x y, m[j]? = some x → vs[j]? = some y → VR e x y) →
    ∃ e' : Env, (storeCells ⟨l.blk, l.off + r * sz + off, none⟩ vs i).run P e.w = .ok () e'.w ∧ e'.H = e.H.set o (.arr v sz (rows.set r (putAll (rows.getD r []) (off + i) m))) ∧ Good e' ∧ Mv e e' := by
  intro m
  induction m with
  | nil =>
    intro vs i off e rows g ho hl hn hr _ _ _
    obtain rfl : vs = [] := List.eq_nil_of_length_eq_zero (by simpa using hn)
    refine ⟨e, by simp [storeCells], ?_, g, .refl⟩
    have : rows.set r (rows.getD r []) = rows := set_self (list_get hr [])
    rw [putAll, this, set_self ho]
  | cons x m ih =>
    intro vs i off e rows g ho hl hn hr hlen h1 h2
    cases vs with
    | nil => simp at hn
    | cons w vs =>
      simp only [List.length_cons] at hlen
      have hj : off + i < (rows.getD r []).length := by omega
      obtain ⟨hs, hcap, hroom, hcell⟩ := g.obj o _ _ ho hl
      have hrow := list_get hr []
      have hsz : (rows.getD r []).length = sz := hs _ (List.mem_of_getElem? hrow)
      have hroom' : r * sz + (off + i) < l.cap * sz := by
        have : (r + 1) * sz ≤ l.cap * sz := Nat.mul_le_mul_right _ (by omega)
        rw [Nat.add_mul] at this; omega
      obtain ⟨u, hu, hfu⟩ := hroom _ hroom'
      have hv := h1 0 w (by simp)
      obtain ⟨e1, hw1, hH1, hρ1, g1, mv1⟩ := set_arr g ho hl hr hj (h2 0 x w (by simp) (by simp)) hv
      have hlt : o < e.H.length := (List.getElem?_eq_some_iff.1 ho).1
      have hget : (rows.set r ((rows.getD r []).set (off + i) x)).getD r [] = (rows.getD r []).set (off + i) x := by simp [List.getD, hr]
      obtain ⟨e', hr', hH, g', mv'⟩ := ih vs (i + 1) off e1 (rows.set r ((rows.getD r []).set (off + i) x)) g1 (by rw [hH1]; simp [hlt]) (by rw [hρ1]; exact hl) (by simpa using hn) (by simpa using hr) (by rw [hget]; simp only [List.length_set]; omega)
        (fun j c hc => h1 (j + 1) c (by simpa using hc)) (fun j x y hx hy => mv1.vr (h2 (j + 1) x y (by simpa using hx) (by simpa using hy)))
      refine ⟨e', ?_, ?_, g', mv1.trans mv' g⟩
      · have := run_store_ok (P := P) (a := ⟨l.blk, l.off + (r * sz + (off + i)), none⟩) hu (free_of hfu) hv
        simp only [storeCells, Sem.run_bind, add_none, Nat.add_assoc, this, Result.andThen_ok]
        simp only [Nat.add_assoc] at hw1
        rw [← hw1]
        simpa [Nat.add_assoc] using hr'
      · rw [hH, hH1, List.set_set, hget, putAll, Nat.add_assoc, List.set_set]

theorem storeCells_app {P : Program} (a : Addr) : ∀ (xs ys : List Value) (i : Nat) (w : World), (storeCells a (xs ++ ys) i).run P w = ((storeCells a xs i).run P w).andThen fun _ w' => (storeCells a ys (i + xs.length)).run P w'
  | [], ys, i, w => by simp [storeCells]
  | x :: xs, ys, i, w => by
    simp only [List.cons_append, storeCells, Sem.run_bind]
    cases h : (store (a.add i) x).run P w with
    | ok u w' =>
      simp only [Result.andThen_ok]
      rw [storeCells_app a xs ys (i + 1) w']
      simp only [List.length_cons]
      rw [show i + 1 + xs.length = i + (xs.length + 1) by omega]
    | _ => simp [Result.andThen]
theorem storeCells_shift (b off d : Nat) : ∀ (xs : List Value) (i : Nat), storeCells ⟨b, off, none⟩ xs (d + i) = storeCells ⟨b, off + d, none⟩ xs i
  | [], i => by simp [storeCells]
  | x :: xs, i => by
    simp only [storeCells, add_none]
    rw [Nat.add_assoc, ← storeCells_shift b off d xs (i + 1), Nat.add_assoc]
theorem putAll_whole {α : Type} : ∀ (m l pre : List α), m.length = l.length → putAll (pre ++ l) pre.length m = pre ++ m
  | [], l, pre, h => by
    obtain rfl : l = [] := List.eq_nil_of_length_eq_zero h.symm
    rfl
  | x :: m, [], pre, h => by simp at h
  | x :: m, y :: l, pre, h => by
    rw [putAll, List.set_append_right _ _ (Nat.le_refl _), Nat.sub_self, List.set_cons_zero]
    have := putAll_whole m l (pre ++ [x]) (by simpa using h)
    simpa using this
theorem clrRows_succ (rows : List (List RV)) (lo n : Nat) (z : List RV) (h : lo + (n + 1) ≤ rows.length) : clrRows (rows.set lo z) (lo + 1) n z = clrRows rows lo (n + 1) z := by
  unfold clrRows
  rw [List.take_add_one, List.drop_set, if_pos (by omega), List.take_set, List.getElem?_set_self (by omega), List.replicate_succ]
  rw [show List.set (List.take lo rows) lo z = List.take lo rows from List.set_eq_of_length_le (by simp; omega)]
  rw [show lo + 1 + n = lo + (n + 1) by omega]
  simp
theorem storeRows_arr {P : Program} {o v sz : Nat} {l : Loc} {z : List RV} (hz : z.length = sz) : ∀ (k : Nat) (vs : List Value) (r : Nat) (e : Env) (rows : List (List RV)), Good e → e.H[o]? = some (.arr v sz rows) → e.ρ[o]? = some (some l) → vs.length = k * sz → r + k ≤ rows.length →
    (∀ (j : Nat) c, vs[j]? = some c → c.oneCell' = true) → (∀ (j : Nat) x y, (repl k z)[j]? = some x → vs[j]? = some y → VR e x y) →
    ∃ e' : Env, (storeCells ⟨l.blk, l.off + r * sz, none⟩ vs 0).run P e.w = .ok () e'.w ∧ e'.H = e.H.set o (.arr v sz (clrRows rows r k z)) ∧ Good e' ∧ Mv e e' := by
  intro k
  induction k with
  | zero =>
    intro vs r e rows g ho hl hn hr _ _
    obtain rfl : vs = [] := List.eq_nil_of_length_eq_zero (by simpa using hn)
    refine ⟨e, by simp [storeCells], ?_, g, .refl⟩
    rw [clrRows, List.replicate_zero, List.nil_append, Nat.add_zero, List.take_append_drop, set_self ho]
  | succ k ih =>
    intro vs r e rows g ho hl hn hr h1 h2
    have hrl : r < rows.length := by omega
    obtain ⟨hs, _⟩ := g.obj o _ _ ho hl
    have hrow := list_get hrl []
    have hsz : (rows.getD r []).length = sz := hs _ (List.mem_of_getElem? hrow)
    have hk : (k + 1) * sz = sz + k * sz := by rw [Nat.add_mul, Nat.one_mul, Nat.add_comm]
    have hvs : vs = vs.take sz ++ vs.drop sz := (List.take_append_drop _ _).symm
    have htl : (vs.take sz).length = sz := by simp; omega
    have hrep : ∀ (j : Nat) x, z[j]? = some x → (repl (k + 1) z)[j]? = some x := fun j x hx => by
      rw [repl, List.getElem?_append_left (List.getElem?_eq_some_iff.1 hx).1]; exact hx
    obtain ⟨e1, hr1, hH1, g1, mv1⟩ := storeCells_arr (P := P) (o := o) (r := r) (v := v) (sz := sz) (l := l) z (vs.take sz) 0 0 e rows g ho hl (by rw [htl, hz]) hrl (by rw [hsz, hz]; omega)
      (fun j c hc => h1 j c (by rw [List.getElem?_take] at hc; split at hc; exact hc; cases hc)) (fun j x y hx hy => h2 j x y (hrep j x hx) (by rw [List.getElem?_take] at hy; split at hy; exact hy; cases hy))
    have hpw : putAll (rows.getD r []) (0 + 0) z = z := by
      have := putAll_whole z (rows.getD r []) [] (by rw [hsz, hz])
      simpa using this
    rw [hpw] at hH1
    have hlt : o < e.H.length := (List.getElem?_eq_some_iff.1 ho).1
    have ho1 : e1.H[o]? = some (.arr v sz (rows.set r z)) := by rw [hH1]; simp [hlt]
    obtain ⟨ob2, lo2, n1, n2, n3⟩ := mv1.nx o _ _ ho hl
    rw [ho1] at n1
    cases n1
    have hl1 : e1.ρ[o]? = some (some l) := by
      obtain ⟨v', sz', rows', e2, hn3⟩ := n3
      cases e2
      rcases hn3 with h | ⟨_, _, _, rfl⟩
      · omega
      · exact n2
    obtain ⟨e', hr', hH', g', mv'⟩ := ih (vs.drop sz) (r + 1) e1 (rows.set r z) g1 ho1 hl1 (by rw [List.length_drop]; omega) (by simp; omega)
      (fun j c hc => h1 (sz + j) c (by rwa [List.getElem?_drop] at hc)) (fun j x y hx hy => mv1.vr (h2 (sz + j) x y (by rw [repl, List.getElem?_append_right (by omega), hz, Nat.add_sub_cancel_left]; exact hx) (by rwa [List.getElem?_drop] at hy)))
    refine ⟨e', ?_, ?_, g', mv1.trans mv' g⟩
    · rw [hvs, storeCells_app]
      simp only [Nat.add_zero] at hr1
      rw [hr1, Result.andThen_ok, htl]
      have := storeCells_shift l.blk (l.off + r * sz) sz (vs.drop sz) 0
      rw [Nat.add_zero] at this
      rw [Nat.zero_add, this, show l.off + r * sz + sz = l.off + (r + 1) * sz by rw [Nat.add_mul, Nat.one_mul, Nat.add_assoc]]
      exact hr'
    · rw [hH', hH1, List.set_set, clrRows_succ _ _ _ _ (by omega)]

/-! ### Slices -/
theorem repl_length (n : Nat) (z : List RV) : (repl n z).length = n * z.length := by
  induction n with
  | zero => simp [repl]
  | succ n ih => rw [repl, List.length_append, ih, Nat.add_mul]; omega

theorem repl_get {z : List RV} : ∀ (n j : Nat), j < n * z.length → (repl n z)[j]? = z[j % z.length]?
  | 0, j, h => by simp at h
  | n + 1, j, h => by
    rw [repl]
    by_cases hj : j < z.length
    · rw [List.getElem?_append_left hj, Nat.mod_eq_of_lt hj]
    · rw [List.getElem?_append_right (by omega), repl_get n (j - z.length) (by rw [Nat.add_mul] at h; omega)]
      congr 1
      rw [Nat.mod_eq_sub_mod (by omega : j ≥ z.length)]

theorem fillA_length : ∀ {qs : List (Nat × Nat × RV)} {l l' : List RV} {C : Prop}, fillA l qs = some (C, l') → l'.length = l.length
  | [], l, l', C, h => by simp [fillA] at h; obtain ⟨_, rfl⟩ := h; rfl
  | (off, sz, x) :: qs, l, l', C, h => by
    simp only [fillA, Option.bind_eq_some_iff, Option.map_eq_some_iff] at h
    obtain ⟨m, hm, ⟨C1, l1⟩, hf, he⟩ := h
    simp only [Prod.mk.injEq] at he
    obtain ⟨_, rfl⟩ := he
    rw [fillA_length hf, putAll_length]

theorem chunk_length (sz : Nat) : ∀ (n : Nat) (l : List RV), (chunk sz n l).length = n
  | 0, _ => rfl
  | n + 1, l => by simp [chunk, chunk_length sz n]

theorem chunk_get (sz : Nat) : ∀ (n : Nat) (l : List RV) (r : Nat) row, l.length = n * sz → (chunk sz n l)[r]? = some row → row.length = sz ∧ ∀ (j : Nat) x, row[j]? = some x → l[r * sz + j]? = some x
  | 0, _, r, row, _, h => by simp [chunk] at h
  | n + 1, l, r, row, hl, h => by
    rw [Nat.add_mul] at hl
    rw [chunk] at h
    cases r with
    | zero =>
      simp at h; subst h
      refine ⟨by simp; omega, fun j x hx => ?_⟩
      rw [List.getElem?_take] at hx
      split at hx
      · simpa using hx
      · cases hx
    | succ r =>
      obtain ⟨h1, h2⟩ := chunk_get sz n (l.drop sz) r row (by simp; omega) (by simpa using h)
      refine ⟨h1, fun j x hx => ?_⟩
      have := h2 j x hx
      rw [List.getElem?_drop] at this
      rw [← this]; congr 1
      rw [Nat.add_mul]; omega

theorem zeroL_ok {P : Program} {t : TypeId} {z : List AV} (h : tZeroL P t = some z) : ∃ i v, P.info? t = some i ∧ i.zero = some v ∧ ∀ e : Env, CellsR e (z.map .v) v.cells := by
  simp only [tZeroL, Option.map_eq_some_iff, tZero, Option.bind_eq_some_iff] at h
  obtain ⟨x, ⟨i, hi, v, hv, hc⟩, rfl⟩ := h
  refine ⟨i, v, hi, hv, fun e => ?_⟩
  have hx := cv_ok (w := e.w) (Im := e.Im) hc
  split
  · rename_i z
    obtain ⟨vs, rfl, h⟩ := map_cells hx
    exact h
  · rename_i hne
    have hone : v.oneCell' = true := by
      unfold cv at hc
      split at hc
      · rename_i cs
        obtain ⟨m, _, rfl⟩ := Option.map_eq_some_iff.1 hc
        exact absurd rfl (hne m)
      · exact cv1_one hc
    obtain ⟨h1, h2, h3⟩ := one_cells (.v hx) hone
    exact ⟨h1, h2, h3⟩

theorem cells_mod {e : Env} {z : List RV} {zs : Array Value} (h : CellsR e z zs) (n : Nat) (h0 : 0 < z.length) : CellsR e (repl n z) ((Array.range (n * z.length)).map (zs[· % zs.size]!)) := by
  have hl := h.len
  have hget : ∀ (j : Nat) c, ((Array.range (n * z.length)).map (zs[· % zs.size]!))[j]? = some c → j < n * z.length ∧ zs[j % z.length]? = some c := by
    intro j c hc
    rw [Array.getElem?_map, Option.map_eq_some_iff] at hc
    obtain ⟨k, hk, rfl⟩ := hc
    obtain ⟨h1, h2⟩ := Array.getElem?_eq_some_iff.1 hk
    simp at h1 h2; subst h2
    have hm : j % z.length < zs.size := by rw [hl]; exact Nat.mod_lt _ h0
    exact ⟨h1, by rw [hl]; simp [hm]⟩
  refine ⟨by simp [repl_length], fun j c hc => h.one _ c (hget j c hc).2, fun j x c hx hc => ?_⟩
  obtain ⟨h1, h2⟩ := hget j c hc
  rw [repl_get n j h1] at hx
  exact h.rd _ x c hx h2

theorem bsl_ok {P : Program} {e : Env} (g : Good e) {t el : TypeId} {n s : Nat} {z : List AV} {ps : Array (Nat × Value)} {qs : List (Nat × Nat × RV)} {C : Prop} {l : List RV} (hu : P.underlying t = some (.slice el)) (hs : tSize P el = some s) (hz : tZeroL P el = some z) (hzl : z.length = s) (h0 : 0 < s) (hsm : n * s ≤ 16777216)
    (h : fillA (repl n (z.map .v)) qs = some (C, l)) (hC : C) (hn : ps.toList.length = qs.length) (hp : ∀ (j : Nat) p q, ps.toList[j]? = some p → qs[j]? = some q → q.1 = p.1 * s ∧ q.2.1 = s ∧ VR e q.2.2 p.2) :
    ∃ e' : Env, e'.H = e.H ++ [.arr 0 s (chunk s n l)] ∧ Good e' ∧ Mv e e' ∧ ∃ c, (Instr.buildSlice t n ps).run P e.w = .ok c e'.w ∧ VR e' (.os e.H.length 0) c := by
  obtain ⟨i, v, hi, hv, hcells⟩ := zeroL_ok hz
  have hc0 := cells_mod (hcells e) n (by simp; omega)
  rw [List.length_map, hzl] at hc0
  obtain ⟨cells', hc1, hc2⟩ := fill_ok (place := fun i => some (i * s, s)) ps.toList qs _ _ C l hc0 hn (fun j p q hp1 hq1 => by
    obtain ⟨h1, h2, h3⟩ := hp j p q hp1 hq1
    exact ⟨by rw [h1, h2], h3⟩) h hC
  have hll : l.length = n * s := by rw [fillA_length h, repl_length, List.length_map, hzl]
  obtain ⟨e', h1, h2, h3, h4, h5⟩ := new_arr g e.w ⟨rfl, rfl, ⟨rfl, Nat.le_refl _⟩, rfl⟩ el cells' s n (chunk s n l) (fun row hm => by
      obtain ⟨r, hr⟩ := List.getElem?_of_mem hm
      exact (chunk_get s n l r row hll hr).1) (by rw [hc2.len, hll]) (by rw [chunk_length]; exact Nat.le_refl _) (fun r row j x hr hx => by
      obtain ⟨k1, k2⟩ := chunk_get s n l r row hll hr
      have hx2 := k2 j x hx
      obtain ⟨c, hc⟩ := array_get hc2.len (List.getElem?_eq_some_iff.1 hx2).1
      exact ⟨c, hc, hc2.one _ _ hc, hc2.rd _ _ _ hx2 hc⟩)
  rw [chunk_length] at h5
  refine ⟨e', h2, h3, h4, _, ?_, h5⟩
  rw [h1]
  by_cases hns : n * s = 0
  · have hr0 : (Array.range (n * s)).map (v.cells[· % v.cells.size]!) = #[] := by rw [hns]; simp
    rw [hr0] at hc1
    have hn0 : n = 0 ∨ s = 0 := Nat.mul_eq_zero.1 hns
    have hns2 : ¬ (2 ^ 24 < n * s) := by omega
    have hr1 : (Array.range 0).map (fun _ => (default : Value)) = #[] := by simp
    simp [Instr.buildSlice, run_underlying hu, run_sizeOf hs, hns, newRow]
    simp only [hr1, hc1]
    simp
  · have hns2 : ¬ (16777216 < n * s) := by omega
    have hn0 : ¬ (n = 0 ∨ s = 0) := fun hc => hns (Nat.mul_eq_zero.2 hc)
    simp [Instr.buildSlice, run_underlying hu, run_sizeOf hs, hns2, hn0, zeroValue, typeInfo, hi, hv, hc1, newRow]
    intro hc
    exact absurd hc hns

theorem clr_ok {P : Program} {e : Env} (g : Good e) {t el ty : TypeId} {i : TypeInfo} {z : List AV} {s : RV} {a : Value} {C : Prop} {r : RV} {H' : List AObj} (hu : P.underlying t = some (.slice el)) (hi : P.info? el = some i) (hz : tZeroL P el = some z) (hzl : z.length = i.size) (h0 : 0 < i.size)
    (hs : VR e s a) (h : evClr i.size z s e.H = some (C, r, H')) (hC : C) : ∃ e' : Env, e'.H = H' ∧ Good e' ∧ Mv e e' ∧ ∃ v, (Builtin.clear_ #[t] ty #[a]).run P e.w = .ok v e'.w ∧ VR e' r v := by
  obtain ⟨i', zv, hi', hzv, hcz⟩ := zeroL_ok hz
  rw [hi] at hi'
  cases hi'
  have hzr : (zeroValue el).run P e.w = .ok zv e.w := by simp [zeroValue, typeInfo, hi, hzv]
  have hzl' : (z.map RV.v).length = i.size := by simpa using hzl
  have nothing : ∀ (p : Option Addr) (cap : Nat), (Builtin.clear_ #[t] ty #[.slice p 0 cap]).run P e.w = .ok (.tuple #[]) e.w := fun p cap => by
    cases p <;> simp [Builtin.clear_, run_underlying hu]
  have some_ : ∀ {o v : Nat} {rows : List (List RV)} {l : Loc} (lo n cap : Nat), 0 < n → lo + n ≤ rows.length → e.H[o]? = some (.arr v i.size rows) → e.ρ[o]? = some (some l) →
      ∃ e' : Env, e'.H = e.H.set o (.arr v i.size (clrRows rows lo n (z.map .v))) ∧ Good e' ∧ Mv e e' ∧ ∃ v, (Builtin.clear_ #[t] ty #[.slice (some ⟨l.blk, l.off + lo * i.size, none⟩) n cap]).run P e.w = .ok v e'.w ∧ VR e' .any v := by
    intro o v rows l lo n cap hn hle ho hl
    have hcm := cells_mod (hcz e) n (by rw [hzl']; exact h0)
    have hq : Builtin.zeroCells zv.cells n = (Array.range (n * (z.map RV.v).length)).map (zv.cells[· % zv.cells.size]!) := by rw [Builtin.zeroCells, (hcz e).len]
    rw [← hq] at hcm
    obtain ⟨e', h1, h2, h3, h4⟩ := storeRows_arr (P := P) hzl' n (Builtin.zeroCells zv.cells n).toList lo e rows g ho hl (by
        have := hcm.len
        rw [repl_length, hzl'] at this
        simpa using this) hle
      (fun j c hc => hcm.one j c (by simpa using hc)) (fun j x y hx hy => hcm.rd j x y hx (by simpa using hy))
    refine ⟨e', h2, h3, h4, .tuple #[], ?_, .any⟩
    obtain ⟨n', rfl⟩ : ∃ n', n = n' + 1 := ⟨n - 1, by omega⟩
    simp [Builtin.clear_, run_underlying hu, hzr, h1]
  unfold evClr at h
  split at h
  · rename_i o ver
    split at h
    · rename_i v z' rows ho
      cases h
      obtain ⟨rfl, rfl⟩ := hC
      obtain ⟨lc, hlo, hv⟩ := hs.slice g ho
      have hz0 : rows.length = 0 → clrRows rows 0 rows.length (z.map .v) = rows := fun h => by
        obtain rfl := List.eq_nil_of_length_eq_zero h; rfl
      cases lc with
      | none =>
        obtain ⟨h1, p, rfl⟩ := hv
        exact ⟨e, by rw [hz0 h1, set_self ho], g, .refl, _, by rw [nothing], .any⟩
      | some l =>
        obtain rfl := hv
        by_cases hn : rows.length = 0
        · refine ⟨e, by rw [hz0 hn, set_self ho], g, .refl, .tuple #[], by rw [hn, nothing], .any⟩
        · have := some_ 0 rows.length l.cap (by omega) (by omega) ho hlo
          simpa using this
    · cases h
  · rename_i o ver lo n
    split at h
    · rename_i v z' rows ho
      cases h
      obtain ⟨rfl, rfl⟩ := hC
      obtain ⟨lc, hlo, hle, hv⟩ := hs.subv g ho
      have hz0 : clrRows rows lo 0 (z.map .v) = rows := by simp [clrRows]
      cases lc with
      | none =>
        obtain ⟨rfl, p, rfl⟩ := hv
        exact ⟨e, by rw [hz0, set_self ho], g, .refl, _, by rw [nothing], .any⟩
      | some l =>
        obtain ⟨_, v2, p, cap, rfl⟩ := hv
        by_cases hn : n = 0
        · subst hn
          exact ⟨e, by rw [hz0, set_self ho], g, .refl, .tuple #[], by rw [nothing], .any⟩
        · obtain ⟨cap', _, h2⟩ := v2 (by omega)
          cases h2
          exact some_ lo n cap (by omega) hle ho hlo
    · cases h
  · cases h

theorem mks_ok {P : Program} {e : Env} (g : Good e) {t el : TypeId} {i : TypeInfo} {z : List AV} {l c : RV} {a b : Value} {C : Prop} {r : RV} {H' : List AObj} (hu : P.underlying t = some (.slice el)) (hi : P.info? el = some i) (hz : tZeroL P el = some z) (hzl : z.length = i.size) (h0 : 0 < i.size)
    (hl : VR e l a) (hc : VR e c b) (h : evMks i.size i.bytes z l c e.H = some (C, r, H')) (hC : C) :
    ∃ e' : Env, e'.H = H' ∧ Good e' ∧ Mv e e' ∧ ∃ v, (Instr.makeSlice t a b).run P e.w = .ok v e'.w ∧ VR e' r v := by
  obtain ⟨i', v, hi', hv, hcells⟩ := zeroL_ok hz
  rw [hi] at hi'; cases hi'
  unfold evMks at h
  split at h
  · rename_i k1 n k2 m
    cases h
    obtain ⟨c1, c2, c3, c4⟩ := hC
    obtain rfl := hl.int
    obtain rfl := hc.int
    have hrun := run_make (P := P) e.w t el i v hu hi hv k1 k2 n m c1 c2 c3 c4
    have hc0 := cells_mod (hcells e) m.toNat (by simp; omega)
    rw [List.length_map, hzl] at hc0
    obtain ⟨e', h1, h2, h3, h4, h5⟩ := new_arr g e.w ⟨rfl, rfl, ⟨rfl, Nat.le_refl _⟩, rfl⟩ el (madeCells v.cells (m.toNat * i.size)) i.size m.toNat (List.replicate n.toNat (z.map .v)) (fun row hm => by
        obtain ⟨_, rfl⟩ := List.mem_replicate.1 hm; simpa using hzl) (by rw [size_madeCells]) (by simp; omega) (fun r row j x hr hx => by
        rw [List.getElem?_replicate] at hr
        split at hr
        · rename_i hrl
          cases hr
          have hjl : j < i.size := by rw [← hzl]; simpa using (List.getElem?_eq_some_iff.1 hx).1
          have hlt : r * i.size + j < m.toNat * i.size := by
            have : (r + 1) * i.size ≤ m.toNat * i.size := Nat.mul_le_mul_right _ (by omega)
            rw [Nat.add_mul] at this; omega
          obtain ⟨d, hd⟩ := array_get (size_madeCells v.cells (m.toNat * i.size)) hlt
          refine ⟨d, hd, hc0.one _ d hd, ?_⟩
          refine hc0.rd _ x d ?_ hd
          rw [repl_get _ _ (by simpa [hzl] using hlt)]
          simp only [List.length_map, hzl]
          rw [Nat.mul_comm r, Nat.mul_add_mod, Nat.mod_eq_of_lt hjl]
          exact hx
        · cases hr)
    refine ⟨e', h2, h3, h4, _, by rw [hrun, h1], ?_⟩
    simpa using h5
  · cases h

theorem app_ok {P : Program} {e : Env} (g : Good e) {t u ty el : TypeId} {d : TypeDesc} {i : TypeInfo} {z : List AV} {s x : RV} {a c : Value} {C : Prop} {r : RV} {H' : List AObj} (hu : P.underlying t = some (.slice el)) (hd : P.underlying u = some d) (hdl : isList d = true) (hi : P.info? el = some i) (hz : tZeroL P el = some z) (hzl : z.length = i.size) (h0 : 0 < i.size)
    (hs : VR e s a) (hx : VR e x c) (h : evApp i.size i.bytes s x e.H = some (C, r, H')) (hC : C) :
    ∃ e' : Env, e'.H = H' ∧ Good e' ∧ Mv e e' ∧ ∃ v, (Builtin.append_ #[t, u] ty #[a, c]).run P e.w = .ok v e'.w ∧ VR e' r v := by
  obtain ⟨i', v, hi', hv, hcells⟩ := zeroL_ok hz
  rw [hi] at hi'; cases hi'
  have hvs : v.cells.size = i.size := by rw [(hcells e).len]; simpa using hzl
  have hud : (∃ el', P.underlying u = some (.slice el')) ∨ P.underlying u = some .string := by
    cases d <;> simp [isList] at hdl
    · exact .inr hd
    · exact .inl ⟨_, hd⟩
  simp only [evApp, Option.bind_eq_some_iff] at h
  obtain ⟨⟨C1, rs⟩, hrx, h⟩ := h
  dsimp only at h
  have drew : e.w.drew.os = e.w.os ∧ e.w.drew.tape = e.w.tape ∧ OutW e.w e.w.drew ∧ e.w.drew.heap = e.w.heap := ⟨rfl, rfl, ⟨rfl, Nat.le_succ _⟩, rfl⟩
  -- the new block's cells
  have grown : ∀ (rows : List (List RV)) (olds news : List Value) (cap : Nat), (∀ row ∈ rows, row.length = i.size) → (∀ row ∈ rs, row.length = i.size) → olds.length = rows.length * i.size → news.length = rs.length * i.size → RowsAt e i.size rows olds.toArray → RowsAt e i.size rs news.toArray →
      ∀ G, rows.length + rs.length ≤ G → (olds.toArray ++ news.toArray ++ Builtin.zeroCells v.cells (G - (rows.length + rs.length))).size = G * i.size ∧ RowsAt e i.size (rows ++ rs) (olds.toArray ++ news.toArray ++ Builtin.zeroCells v.cells (G - (rows.length + rs.length))) := by
    intro rows olds news cap h1 h2 h3 h4 h5 h6 G hG
    refine ⟨?_, fun r row j x hr hx => ?_⟩
    · simp only [Array.size_append, List.size_toArray, size_zeroCells, hvs, h3, h4]
      rw [← Nat.add_mul, ← Nat.add_mul]; congr 1; omega
    · rw [List.getElem?_append] at hr
      split at hr
      · rename_i hrl
        obtain ⟨c, e1, e2, e3⟩ := h5 r row j x hr hx
        have hlt := (Array.getElem?_eq_some_iff.1 e1).1
        refine ⟨c, ?_, e2, e3⟩
        rw [Array.getElem?_append_left (by rw [Array.size_append]; omega), Array.getElem?_append_left hlt, e1]
      · rename_i hrl
        obtain ⟨c, e1, e2, e3⟩ := h6 _ row j x hr hx
        have hlt := (Array.getElem?_eq_some_iff.1 e1).1
        have hge : r * i.size = olds.length + (r - rows.length) * i.size := by rw [h3, ← Nat.add_mul]; congr 1; omega
        refine ⟨c, ?_, e2, e3⟩
        have hlt2 : (r - rows.length) * i.size + j < news.length := by simpa using hlt
        rw [Array.getElem?_append_left (by rw [Array.size_append]; simp only [List.size_toArray]; omega), Array.getElem?_append_right (by simp only [List.size_toArray]; omega)]
        rw [← e1]; congr 1; simp only [List.size_toArray]; omega
  have hnil : ∀ (p : Option Addr), C1 → rs.length * i.bytes ≤ 140737488355328 → rs.length ≤ 9223372036854775807 → ∃ e' : Env, e'.H = e.H ++ [.arr 0 i.size rs] ∧ Good e' ∧ Mv e e' ∧ ∃ v, (Builtin.append_ #[t, u] ty #[.slice p 0 0, c]).run P e.w = .ok v e'.w ∧ VR e' (.os e.H.length 0) v := by
      intro p hC1 c1 c2
      obtain ⟨s1, s2, news, s3, s4, s5, s6⟩ := src_ok (P := P) g h0 hrx hC1 hx
      by_cases hrs : rs = []
      · subst hrs
        have hnews : news = [] := List.eq_nil_of_length_eq_zero (by simpa using s3)
        subst hnews
        have hp := push_ok g e.w (.arr 0 i.size []) none rfl rfl ⟨rfl, Nat.le_refl _⟩ (Nat.le_refl _) (fun b _ => rfl) (fun l hl => by cases hl) (fun e' he mv => ⟨by simp, rfl⟩)
        refine ⟨_, rfl, hp.1, hp.2, _, run_app_none (ty := ty) hu hud hi s2 s4 (Nat.le_refl 0), ?_⟩
        exact .os (.arr 0 i.size []) none (by simp) (by simp [← g.len]) ⟨Nat.le_refl _, fun _ => ⟨rfl, p, rfl⟩⟩ rfl
      · have hpos : 0 < rs.length := List.length_pos_iff.2 hrs
        have hrun := run_app_grow (P := P) (w := e.w) (ty := ty) (base := p) (len := 0) (cap := 0) (olds := []) hu hud hi hv s2 s4 (fun w' _ => by cases p <;> simp [Builtin.firstCells, loadCells, loadCellsFrom]) (by omega) (by omega) (growslice_fits (by omega) (by simpa using c1))
        have hG := grownCap_ge e.w (0 + rs.length) 0 el
        obtain ⟨k1, k2⟩ := grown [] [] news 0 (by simp) s1 (by simp) s3 (fun r row j x hr => by simp at hr) s5 (grownCap e.w (0 + rs.length) 0 el) (by simpa using hG)
        obtain ⟨e', h1, h2, h3, h4, h5⟩ := new_arr g e.w.drew drew el _ i.size _ ([] ++ rs) (by simpa using s1) k1 (by simpa using hG) k2
        refine ⟨e', by simpa using h2, h3, h4, _, ?_, h5⟩
        rw [hrun, h1]
        simp
  split at h
  · -- nil
    obtain ⟨p, rfl⟩ : ∃ p, a = .slice p 0 0 := by
      cases vr_v hs with | nil p => exact ⟨p, rfl⟩
    split at h
    · rename_i l hl
      cases h
      obtain ⟨hC1, c1, c2⟩ := hC
      obtain ⟨s1, s2, news, s3, s4, s5, s6⟩ := src_ok (P := P) g h0 hrx hC1 hx
      have hrs := rows_plain hl
      have hll : l.length = rs.length := by rw [hrs]; simp
      by_cases hrs0 : rs = []
      · have hnews : news = [] := List.eq_nil_of_length_eq_zero (by rw [s3, hrs0]; simp)
        obtain rfl : l = [] := List.eq_nil_of_length_eq_zero (by rw [hll, hrs0]; rfl)
        rw [hrs0] at s2 s4
        rw [hnews] at s4
        exact ⟨e, rfl, g, .refl, _, run_app_none (ty := ty) hu hud hi s2 s4 (Nat.le_refl 0), .v (.sle _ _ _)⟩
      · have hpos : 0 < rs.length := List.length_pos_iff.2 hrs0
        have hrun := run_app_grow (P := P) (w := e.w) (ty := ty) (base := p) (len := 0) (cap := 0) (olds := []) hu hud hi hv s2 s4 (fun w' _ => by cases p <;> simp [Builtin.firstCells, loadCells, loadCellsFrom]) (by omega) (by omega) (growslice_fits (by omega) (by simpa using c1))
        have hG := grownCap_ge e.w (0 + rs.length) 0 el
        generalize grownCap e.w (0 + rs.length) 0 el = G at hrun hG
        obtain ⟨k1, k2⟩ := grown [] [] news 0 (by simp) s1 (by simp) s3 (fun r row j x hr => by simp at hr) s5 G (by simpa using hG)
        rw [List.nil_append] at k2
        have k3 : RowsAt e i.size (l.map fun row => row.map .v) (([] : List Value).toArray ++ news.toArray ++ Builtin.zeroCells v.cells (G - (([] : List (List RV)).length + rs.length))) := by rw [← hrs]; exact k2
        obtain ⟨e', h1, h2, h3, h4, h5⟩ := new_plain g e.w.drew drew el _ i.size G l (fun row hm => by
          have := s1 (row.map .v) (by rw [hrs]; exact List.mem_map.2 ⟨row, hm, rfl⟩)
          simpa using this) k1 (by rw [hll]; simpa using hG) k3
        refine ⟨e', h2, h3, h4, _, ?_, .v h5⟩
        rw [hrun, h1, hll]
        simp
    · cases h
      obtain ⟨hC1, c1, c2⟩ := hC
      exact hnil p hC1 c1 c2
  · rename_i o ver
    split at h
    · rename_i ver' z' rows ho
      cases h
      obtain ⟨hC1, ⟨rfl, rfl⟩, c1, c2⟩ := hC
      obtain ⟨s1, s2, news, s3, s4, s5, s6⟩ := src_ok (P := P) g h0 hrx hC1 hx
      obtain ⟨lo, hlo, hav⟩ := hs.slice g ho
      obtain ⟨hsz, hobj⟩ := g.obj _ _ _ ho hlo
      have hlt : o < e.H.length := (List.getElem?_eq_some_iff.1 ho).1
      have hltr : o < e.ρ.length := (List.getElem?_eq_some_iff.1 hlo).1
      have hall : ∀ row ∈ rows ++ rs, row.length = i.size := fun row hm => (List.mem_append.1 hm).elim (hsz row) (s1 row)
      cases lo with
      | none =>
        obtain ⟨hr0, p, rfl⟩ := hav
        obtain rfl : rows = [] := List.eq_nil_of_length_eq_zero hr0
        by_cases hrs : rs = []
        · subst hrs
          have hnews : news = [] := List.eq_nil_of_length_eq_zero (by simpa using s3)
          subst hnews
          have mv : Mv e ⟨e.w, e.Im, e.ρ, e.H.set o (.arr (ver + 1) i.size [])⟩ := ⟨rfl, rfl, ⟨rfl, Nat.le_refl _⟩, Nat.le_refl _, fun _ _ _ => rfl, fun _ h => h, fun _ _ => rfl, fun _ h => .inl h, fun k x y hx hy => by
            by_cases hk : o = k
            · subst hk
              rw [ho] at hx; cases hx
              exact ⟨.arr (ver + 1) i.size [], y, by simp [hlt], hy, ver, i.size, [], rfl, .inl (Nat.lt_succ_self _)⟩
            · exact ⟨x, y, by simp [List.getElem?_set, hk, hx], hy, .refl _ _⟩, fun b h => .inl h⟩
          have g' : Good ⟨e.w, e.Im, e.ρ, e.H.set o (.arr (ver + 1) i.size [])⟩ := by
            refine ⟨by simp [g.len], g.inj, g.dis, g.lt, g.imlt, fun k x y hx hy => ?_⟩
            rcases set_get hx with ⟨rfl, rfl⟩ | ⟨hk, hx⟩
            · have : some y = some (none : Option Loc) := by rw [← hlo, ← hy]
              cases this
              exact ⟨by simp, rfl⟩
            · exact (g.obj k x y hx hy).keep (fun _ _ => rfl) mv
          refine ⟨_, rfl, g', mv, _, run_app_none (ty := ty) hu hud hi s2 s4 (Nat.le_refl 0), ?_⟩
          exact .os (.arr (ver + 1) i.size []) none (by simp [hlt]) hlo ⟨Nat.le_refl _, fun _ => ⟨rfl, p, rfl⟩⟩ rfl
        · have hpos : 0 < rs.length := List.length_pos_iff.2 hrs
          simp only [List.length_nil, Nat.zero_add] at c1 c2
          have hrun := run_app_grow (P := P) (w := e.w) (ty := ty) (base := p) (len := 0) (cap := 0) (olds := []) hu hud hi hv s2 s4 (fun w' _ => by cases p <;> simp [Builtin.firstCells, loadCells, loadCellsFrom]) (by omega) (by omega) (growslice_fits (by omega) (by simpa using c1))
          have hG := grownCap_ge e.w (0 + rs.length) 0 el
          obtain ⟨k1, k2⟩ := grown [] [] news 0 (by simp) s1 (by simp) s3 (fun r row j x hr => by simp at hr) s5 (grownCap e.w (0 + rs.length) 0 el) (by simpa using hG)
          obtain ⟨e', h1, h2, h3, h4, h5⟩ := move_arr g e.w.drew drew ho hlo el _ i.size _ ([] ++ rs) hall k1 (by simpa using hG) k2
          refine ⟨e', h2, h3, h4, _, ?_, h5⟩
          rw [hrun, h1]
          simp
      | some l =>
        obtain rfl := hav
        obtain ⟨hcap, hroom, hcell⟩ := hobj
        by_cases hfit : rows.length + rs.length ≤ l.cap
        · have hfit2 : rows.length * i.size + news.length ≤ l.cap * i.size := by rw [s3, ← Nat.add_mul]; exact Nat.mul_le_mul_right _ hfit
          have hex : ∀ j, j < news.length → ∃ u, e.w.cell? ⟨l.blk, l.off + rows.length * i.size + j, none⟩ = some u ∧ e.w.frozen? ⟨l.blk, l.off + rows.length * i.size + j, none⟩ = false := fun j hj => by
            obtain ⟨u, h1, h2⟩ := hroom (rows.length * i.size + j) (by omega)
            rw [← Nat.add_assoc] at h1 h2
            exact ⟨u, h1, free_of h2⟩
          have hrun := run_app_room (P := P) (w := e.w) (ty := ty) (b := l.blk) (o := l.off) hu hud hi s2 s4 hfit (fun j hj => by obtain ⟨u, h1, _⟩ := hex j hj; rw [h1]; rfl) (fun j hj => by obtain ⟨u, _, h2⟩ := hex j hj; exact h2) s6
          obtain ⟨z1, z2, z3, z4⟩ := setCells_size l.blk news (l.off + rows.length * i.size) e.w
          have hsc := setCells_cell l.blk news (l.off + rows.length * i.size) e.w (fun j hj => by obtain ⟨u, h1, _⟩ := hex j hj; exact ⟨u, h1⟩)
          have hp := write_ok g (e.w.setCells l.blk (l.off + rows.length * i.size) news) (ob' := .arr (ver + 1) i.size (rows ++ rs)) ho hlo z2 z3 z4 z1 (fun b hb => setCells_heap _ _ _ _ _ hb) ⟨ver, i.size, rows, rfl, .inl (Nat.lt_succ_self _)⟩ (fun e' he mv => by
            refine ⟨hall, by simpa using hfit, fun k hk => ?_, fun r row j x hr hx => ?_⟩
            · obtain ⟨u, h1, h2⟩ := hroom k hk
              rw [he, hsc, setCells_barred]
              split
              · rename_i hin
                exact ⟨_, List.getElem?_eq_getElem (by omega), h2⟩
              · exact ⟨u, h1, h2⟩
            · rw [he, hsc]
              rw [List.getElem?_append] at hr
              split at hr
              · rename_i hrl
                obtain ⟨c, e1, e2, e3⟩ := hcell r row j x hr hx
                have hjl : j < i.size := by rw [← hsz row (List.mem_of_getElem? hr)]; exact (List.getElem?_eq_some_iff.1 hx).1
                have : (r + 1) * i.size ≤ rows.length * i.size := Nat.mul_le_mul_right _ hrl
                rw [Nat.add_mul] at this
                rw [if_neg (by omega)]
                exact ⟨c, e1, e2, mv.vr e3⟩
              · rename_i hrl
                obtain ⟨c, e1, e2, e3⟩ := s5 _ row j x hr hx
                have hlt := (Array.getElem?_eq_some_iff.1 e1).1
                have hlt2 : (r - rows.length) * i.size + j < news.length := by simpa using hlt
                have hge : r * i.size = rows.length * i.size + (r - rows.length) * i.size := by rw [← Nat.add_mul]; congr 1; omega
                rw [if_pos (by omega)]
                refine ⟨c, ?_, e2, mv.vr e3⟩
                rw [← List.getElem?_toArray, ← e1]
                congr 1; omega)
          refine ⟨_, rfl, hp.1, hp.2, _, hrun, ?_⟩
          refine .os (.arr (ver + 1) i.size (rows ++ rs)) (some l) (by simp [hlt]) hlo ⟨Nat.le_refl _, fun _ => ?_⟩ rfl
          show _ = _
          rw [List.length_append]
        · obtain ⟨olds, o1, o2, o3, o4⟩ := flatR_ok (P := P) (e := e) (b := l.blk) (off := l.off) h0 hsz hcell
          have hrun := run_app_grow (P := P) (w := e.w) (ty := ty) (base := some ⟨l.blk, l.off, none⟩) (len := rows.length) (cap := l.cap) (olds := olds) hu hud hi hv s2 s4 (fun w' hw => by simp only [Builtin.firstCells]; exact o2 w' hw) (by omega) (by omega) (growslice_fits (by omega) c1)
          have hG := grownCap_ge e.w (rows.length + rs.length) l.cap el
          obtain ⟨k1, k2⟩ := grown rows olds news 0 hsz s1 o1 s3 o3 s5 _ hG
          obtain ⟨e', h1, h2, h3, h4, h5⟩ := move_arr g e.w.drew drew ho hlo el _ i.size _ (rows ++ rs) hall k1 (by simpa using hG) k2
          refine ⟨e', h2, h3, h4, _, ?_, h5⟩
          rw [hrun, h1]
          simp
    · cases h
  · cases h

theorem freeze_block (w : World) (a : Addr) (n b : Nat) (h : b ≠ a.block) : (w.freeze a n).heap[b]? = w.heap[b]? := by
  unfold World.freeze
  split
  · rfl
  · simp only
    rw [Array.getElem?_modify, if_neg (fun hc => h hc.symm)]
theorem freeze_cell (w : World) (a : Addr) (n b o : Nat) : (w.freeze a n).cell? ⟨b, o, none⟩ = w.cell? ⟨b, o, none⟩ := by
  by_cases h : b = a.block
  · by_cases hn : n = 0
    · subst hn; rfl
    · have : (w.freeze a n).heap[b]? = (w.heap[b]?).map fun | .cells c elem (lo, hi) => .cells c elem (if lo == hi then (a.off, a.off + n) else (min lo a.off, max hi (a.off + n))) | o => o := by
        unfold World.freeze
        rw [if_neg hn]
        simp only
        rw [Array.getElem?_modify, if_pos h.symm]
        rfl
      unfold World.cell?
      rw [this]
      cases w.heap[b]? with
      | none => rfl
      | some x => cases x <;> rfl
  · simp only [World.cell?, freeze_block w a n b h]

theorem freeze_free {w : World} {b n m : Nat} (hs : ∃ t, w.shape? b = some (t, m)) (hn : 0 < n) (hc : ∀ k, k < n → ∃ c, w.cell? ⟨b, k, none⟩ = some c ∧ barred w ⟨b, k, none⟩ = false) : ∀ k, k < n → barred (w.freeze ⟨b, m, none⟩ 1) ⟨b, k, none⟩ = false := by
  intro k hk
  obtain ⟨t, hs⟩ := hs
  have hmod : (w.freeze ⟨b, m, none⟩ 1).heap[b]? = (w.heap[b]?).map fun | .cells c elem (lo, hi) => .cells c elem (if lo == hi then (m, m + 1) else (min lo m, max hi (m + 1))) | o => o := by
    unfold World.freeze
    rw [if_neg (by decide)]
    simp only
    rw [Array.getElem?_modify, if_pos rfl]
    rfl
  have hk' := hc k hk
  unfold World.shape? at hs
  simp only [barred, World.frozen?, World.cell?] at hk' ⊢
  rw [hmod]
  cases hb : w.heap[b]? with
  | none => rw [hb] at hs; cases hs
  | some x =>
    rw [hb] at hs hk'
    cases x with
    | cells c elem fz =>
      obtain ⟨lo, hi⟩ := fz
      simp only at hs hk' ⊢
      obtain ⟨_, rfl⟩ : elem = t ∧ c.size = m := by simpa using hs
      obtain ⟨_, k1, k2⟩ := hk'
      have hkm : k < c.size := by simp at k1; exact (Array.getElem?_eq_some_iff.1 k1).1
      simp only [Bool.or_eq_false_iff, decide_eq_false_iff_not] at k2
      have hlh0 : lo ≤ hi := by omega
      simp only [Option.map_some]
      by_cases hlh : lo = hi
      · simp [hlh]; omega
      · simp only [beq_iff_eq, hlh, if_false]
        have all : ∀ j, j < n → ¬ (lo ≤ j ∧ j < hi) := fun j hj => by
          obtain ⟨_, _, q⟩ := hc j hj
          simp only [barred, World.frozen?, hb, Bool.or_eq_false_iff] at q
          simpa using q.1
        have hlo : k < lo := by
          apply Nat.lt_of_not_le
          intro hc
          by_cases hkh : k < hi
          · exact all k hk ⟨hc, hkh⟩
          · exact all lo (by omega) ⟨Nat.le_refl _, by omega⟩
        simp only [Bool.or_eq_false_iff, Bool.and_eq_false_iff, decide_eq_false_iff_not]
        exact ⟨.inl (by omega), by omega⟩
    | _ => simp at hs

theorem cvb_ok {P : Program} {e : Env} (g : Good e) {a : Act} {src el : TypeId} {x : Operand} {o : Oper} {o' ver sz : Nat} {rows : List (List RV)} (hu : P.underlying src = some (.slice el)) (hu8 : P.underlying el = some (.int .u8)) (ho : o.op = .convert src src x) (ho' : e.H[o']? = some (.arr ver sz rows)) (hsz : 0 < sz) (hne : rows ≠ [])
    (hv : VR e (.os o' ver) (a.eval x)) : ∃ e' : Env, e'.H = e.H ∧ Good e' ∧ Mv e e' ∧ ((∃ c, (execOp a.eval o).run P e.w = .ok (.value c) e'.w ∧ VR e' (.os o' ver) c) ∨ ((execOp a.eval o).run P e.w = .ok .skip e'.w ∧ RV.os o' ver = .any)) := by
  obtain ⟨lo, hlo, hav⟩ := hv.slice g ho'
  obtain ⟨hs, hobj⟩ := g.obj _ _ _ ho' hlo
  have hpos : 0 < rows.length := List.length_pos_iff.2 hne
  cases lo with
  | none => exact absurd hobj hne
  | some l =>
    obtain ⟨hcap, hroom, hcell⟩ := hobj
    have hav : a.eval x = .slice (some ⟨l.blk, 0, none⟩) rows.length l.cap := hav
    have hroom : ∀ k, k < l.cap * sz → ∃ c, e.w.cell? ⟨l.blk, k, none⟩ = some c ∧ barred e.w ⟨l.blk, k, none⟩ = false := fun k hk => by simpa [Loc.off] using hroom k hk
    have hcs : 0 < l.cap * sz := Nat.mul_pos (by omega) hsz
    obtain ⟨c0, hc0, _⟩ := hroom 0 hcs
    have hsh : ∃ t m, e.w.shape? l.blk = some (t, m) := by
      simp only [World.cell?] at hc0
      split at hc0
      · rename_i c el' fz hb
        exact ⟨el', c.size, by simp [World.shape?, hb]⟩
      · cases hc0
    obtain ⟨t, m, hsh⟩ := hsh
    have hfree := freeze_free (w := e.w) (b := l.blk) (n := l.cap * sz) ⟨t, hsh⟩ hcs hroom
    have hw := write_ok g (e.w.freeze ⟨l.blk, m, none⟩ 1) (ob' := .arr ver sz rows) ho' hlo (by unfold World.freeze; split <;> rfl) (by unfold World.freeze; split <;> rfl) (by unfold World.freeze; split <;> exact ⟨rfl, Nat.le_refl _⟩) (by unfold World.freeze; split <;> simp) (fun b hb => freeze_block _ _ _ _ hb) (.refl _ _) (fun e' he mv => by
      refine ⟨hs, hcap, fun k hk => ?_, fun r row j x hr hx => ?_⟩
      · obtain ⟨c, h1, h2⟩ := hroom k hk
        rw [he]
        refine ⟨c, ?_, ?_⟩
        · simp only [Loc.off, Nat.zero_add]; rw [freeze_cell]; exact h1
        · simp only [Loc.off, Nat.zero_add]; exact hfree k hk
      · obtain ⟨c, h1, h2, h3⟩ := hcell r row j x hr hx
        exact ⟨c, by rw [he, freeze_cell]; exact h1, h2, mv.vr h3⟩)
    have hset : e.H.set o' (.arr ver sz rows) = e.H := set_self ho'
    rw [hset] at hw
    refine ⟨⟨e.w.freeze ⟨l.blk, m, none⟩ 1, e.Im, e.ρ, e.H⟩, rfl, hw.1, hw.2, .inl ⟨a.eval x, ?_, hw.2.vr hv⟩⟩
    simp only [execOp, ho]
    simp [hav, convert, run_underlying hu, run_underlying hu8, markStringish, hsh]

theorem evm_ok {P : Program} {e : Env} (g : Good e) {a : Act} {A : AX → RV} (hA : Reads P e a A) {o : Oper} {q : MOp} (hq : resM P o.op = some q) {C : Prop} {r : RV} {H' : List AObj} (h : evm A e.H q = some (C, r, H')) (hC : C) :
    ∃ e' : Env, e'.H = H' ∧ Good e' ∧ Mv e e' ∧ ((∃ c, (execOp a.eval o).run P e.w = .ok (.value c) e'.w ∧ VR e' r c) ∨ ((execOp a.eval o).run P e.w = .ok .skip e'.w ∧ r = .any)) := by
  unfold resM at hq
  split at hq
  · rename_i t ho
    split at hq
    · rename_i el hb
      cases hq
      simp only [evm, Option.some.injEq, Prod.mk.injEq] at h
      obtain ⟨_, rfl, rfl⟩ := h
      obtain ⟨i, cs, hi, hz, rfl⟩ := bldT_zero hb
      obtain ⟨e', hw, hH, g', mv, hp⟩ := alb_ok g t el
      exact ⟨e', hH, g', mv, .inl ⟨_, by rw [hw]; simp [execOp, ho, Instr.alloc, zeroValue, typeInfo, hi, hz, newVar, newRow, Value.cells], hp⟩⟩
    obtain ⟨z, hz, rfl⟩ := Option.map_eq_some_iff.1 hq
    simp only [tZero, Option.bind_eq_some_iff] at hz
    obtain ⟨i, hi, zv, hzv, hcv⟩ := hz
    simp only [evm, Option.map_eq_some_iff] at h
    obtain ⟨cs, hcs, h⟩ := h
    cases h
    have hv : VR e (.v z) zv := .v (cv_ok hcv)
    obtain ⟨c1, c2, c3⟩ := rcells_ok hv hcs
    obtain ⟨e', hw, hH, g', mv, hp⟩ := new_var g t zv.cells cs c1 c2 c3
    exact ⟨e', hH, g', mv, .inl ⟨_, by rw [hw]; simp [execOp, ho, Instr.alloc, zeroValue, typeInfo, hi, hzv, newVar, newRow], hp⟩⟩
  · rename_i t x ho
    obtain ⟨x', hx, rfl⟩ := Option.map_eq_some_iff.1 hq
    simp only [evm, Option.map_eq_some_iff] at h
    obtain ⟨cs, hcs, h⟩ := h
    cases h
    obtain ⟨c1, c2, c3⟩ := rcells_ok (hA _ _ hx) hcs
    obtain ⟨e', hw, hH, g', mv, hp⟩ := new_var g t (a.eval x).cells cs c1 c2 c3
    exact ⟨e', hH, g', mv, .inl ⟨_, by rw [hw]; simp [execOp, ho, Instr.box, newVar, newRow], hp⟩⟩
  · rename_i t p x ho
    simp only [Option.bind_eq_some_iff, Option.map_eq_some_iff] at hq
    obtain ⟨z, hz, p', hp, x', hx, rfl⟩ := hq
    simp only [evm, evSt] at h
    split at h
    · rename_i o' ver r' off hpt
      have hpv := hA _ _ hp
      rw [hpt] at hpv
      obtain ⟨p1, p2⟩ := hpv.ptr g
      split at h
      · rename_i cs m hcs hm
        cases h
        obtain ⟨hC1, hC2⟩ := hC
        obtain ⟨rfl, l, hl, hpe⟩ := p1 _ hcs
        obtain ⟨c1, c2, c3⟩ := rcells_ok (hA _ _ hx) hm
        obtain ⟨e', hr, hH, g', mv⟩ := storeCells_var (P := P) m (a.eval x).cells.toList 0 off e cs g hcs hl (by simpa using c1) (by omega) (fun j c hc => c2 j c (by simpa using hc)) (fun j x y hx hy => c3 j x y hx (by simpa using hy))
        refine ⟨e', hH, g', mv, .inr ⟨?_, rfl⟩⟩
        have hs : (a.eval x).cells.size = z := by omega
        simp [execOp, ho, Instr.storeAt, hpe, Instr.sureAddr, storeVar, run_sizeOf hz, hs, hr]
      · rename_i v z' rows m hcs hm
        cases h
        obtain ⟨rfl, hC1, hC2, hC3⟩ := hC
        obtain ⟨l, hl, hpe⟩ := p2 _ _ hcs
        obtain ⟨c1, c2, c3⟩ := rcells_ok (hA _ _ hx) hm
        obtain ⟨e', hr, hH, g', mv⟩ := storeCells_arr (P := P) m (a.eval x).cells.toList 0 off e rows g hcs hl (by simpa using c1) hC2 (by omega) (fun j c hc => c2 j c (by simpa using hc)) (fun j x y hx hy => c3 j x y hx (by simpa using hy))
        refine ⟨e', hH, g', mv, .inr ⟨?_, rfl⟩⟩
        have hs : (a.eval x).cells.size = z := by omega
        simp [execOp, ho, Instr.storeAt, hpe, Instr.sureAddr, storeVar, run_sizeOf hz, hs, hr]
      · cases h
    · cases h
  · rename_i t n ps ho
    split at hq
    · rename_i el hu
      simp only [Option.bind_eq_some_iff] at hq
      obtain ⟨s, hs, z, hz, hq⟩ := hq
      split at hq
      · rename_i hcond
        obtain ⟨k1, k2, k3⟩ := hcond
        obtain ⟨qs, hqs, rfl⟩ := Option.map_eq_some_iff.1 hq
        obtain ⟨m1, m2⟩ := mapM_get hqs
        simp only [evm, Option.map_eq_some_iff, Prod.mk.injEq] at h
        obtain ⟨⟨C1, l⟩, hf, rfl, rfl, rfl⟩ := h
        obtain ⟨e', h1, h2, h3, c, h4, h5⟩ := bsl_ok (P := P) g (t := t) (ps := ps.map fun (i, x) => (i, a.eval x)) hu hs hz k1 k2 k3 hf hC (by simp [m1]) (fun j p q hp hq => by
          rw [List.getElem?_map, Option.map_eq_some_iff] at hq
          obtain ⟨⟨off, sz, x⟩, hq, rfl⟩ := hq
          rw [Array.toList_map, List.getElem?_map, Option.map_eq_some_iff] at hp
          obtain ⟨⟨i, y⟩, hp, rfl⟩ := hp
          have := m2 j _ _ hp hq
          simp only [resItem, Option.map_eq_some_iff, Prod.mk.injEq] at this
          obtain ⟨x', h3, rfl, rfl, rfl⟩ := this
          exact ⟨rfl, rfl, hA _ _ h3⟩)
        exact ⟨e', h1, h2, h3, .inl ⟨c, by simp [execOp, ho, h4], h5⟩⟩
      · cases hq
    · cases hq
  · rename_i t l c ho
    split at hq
    · rename_i el hu
      simp only [Option.bind_eq_some_iff] at hq
      obtain ⟨i, hi, z, hz, hq⟩ := hq
      split at hq
      · rename_i hcond
        obtain ⟨k1, k2⟩ := hcond
        simp only [Option.bind_eq_some_iff, Option.map_eq_some_iff] at hq
        obtain ⟨l', hl, c', hc, rfl⟩ := hq
        obtain ⟨e', h1, h2, h3, v, h4, h5⟩ := mks_ok (P := P) g hu hi hz k1 k2 (hA _ _ hl) (hA _ _ hc) h hC
        exact ⟨e', h1, h2, h3, .inl ⟨v, by simp [execOp, ho, h4], h5⟩⟩
      · cases hq
    · cases hq
  · rename_i c ho
    split at hq
    · rename_i s x t u hcal hargs htys
      have hargs' : c.args = #[s, x] := by rw [← Array.toArray_toList (xs := c.args), hargs]
      have htys' : c.argTypes = #[t, u] := by rw [← Array.toArray_toList (xs := c.argTypes), htys]
      split at hq
      · rename_i el d hu hd
        simp only [Option.bind_eq_some_iff] at hq
        obtain ⟨i, hi, z, hz, hq⟩ := hq
        split at hq
        · rename_i hcond
          obtain ⟨k0, k1, k2⟩ := hcond
          simp only [Option.bind_eq_some_iff, Option.map_eq_some_iff] at hq
          obtain ⟨s', hs, x', hx, rfl⟩ := hq
          obtain ⟨e', h1, h2, h3, v, h4, h5⟩ := app_ok (P := P) g (ty := o.type) hu hd k0 hi hz k1 k2 (hA _ _ hs) (hA _ _ hx) h hC
          refine ⟨e', h1, h2, h3, .inl ⟨v, ?_, h5⟩⟩
          simp [execOp, ho, resolve, invoke, builtin, hcal, hargs', htys', h4]
        · cases hq
      · cases hq
    · rename_i s t hcal hargs htys
      have hargs' : c.args = #[s] := by rw [← Array.toArray_toList (xs := c.args), hargs]
      have htys' : c.argTypes = #[t] := by rw [← Array.toArray_toList (xs := c.argTypes), htys]
      split at hq
      · rename_i el hu
        simp only [Option.bind_eq_some_iff] at hq
        obtain ⟨i, hi, z, hz, hq⟩ := hq
        split at hq
        · rename_i hcond
          obtain ⟨k1, k2⟩ := hcond
          obtain ⟨s', hs, rfl⟩ := Option.map_eq_some_iff.1 hq
          obtain ⟨e', h1, h2, h3, v, h4, h5⟩ := clr_ok (P := P) g (ty := o.type) hu hi hz k1 k2 (hA _ _ hs) h hC
          refine ⟨e', h1, h2, h3, .inl ⟨v, ?_, h5⟩⟩
          simp [execOp, ho, resolve, invoke, builtin, hcal, hargs', htys', h4]
        · cases hq
      · cases hq
    · cases hq
  · rename_i t x ho
    split at hq
    · rename_i n el hu
      split at hq
      · rename_i hz
        obtain ⟨x', hx, rfl⟩ := Option.map_eq_some_iff.1 hq
        simp only [evm, evSla] at h
        split at h
        · rename_i o' ver r' off hpt
          split at h
          · rename_i cs hcs
            obtain ⟨l, hl, h⟩ := Option.map_eq_some_iff.1 h
            cases h
            obtain ⟨h0, hn⟩ := hC
            have hpv := hA _ _ hx
            rw [hpt] at hpv
            rw [plainr_ok hl] at hcs
            obtain ⟨e', hw, hH, g', mv, b, hp, hv⟩ := freeze_var g hcs hpv h0
            refine ⟨e', hH, g', mv, .inl ⟨.slice (some ⟨b, 0, none⟩) l.length l.length, ?_, .v hv⟩⟩
            rw [hw]
            subst hn
            simp [execOp, ho, Instr.sliceAt, Instr.sureAddr, run_underlying hu, hp, asAddr, Instr.sliceBounds, run_sizeOf hz, Addr.add]
          · cases h
        · cases h
      · cases hq
    · cases hq
  · rename_i src dst x ho
    split at hq
    · rename_i el hu
      split at hq
      · rename_i hu8
        split at hq
        · rename_i hsd
          subst hsd
          obtain ⟨x', hx, rfl⟩ := Option.map_eq_some_iff.1 hq
          simp only [evm, evCvb] at h
          split at h
          · rename_i o' ver hos
            split at h
            · rename_i v sz rows ho'
              cases h
              obtain ⟨rfl, hsz, hne⟩ := hC
              have hv := hA _ _ hx
              rw [hos] at hv
              exact cvb_ok g hu hu8 ho ho' hsz hne hv
            · cases h
          · cases h
        · cases hq
      · cases hq
    · cases hq
  · rename_i t ho
    cases hq
    cases h
    obtain ⟨e', h1, h2, h3, c, h4, h5⟩ := mkm_ok (P := P) g t
    exact ⟨e', h1, h2, h3, .inl ⟨c, by simp [execOp, ho, h4], h5⟩⟩
  · rename_i t m k x ho
    split at hq
    · rename_i kt et hu
      simp only [Option.bind_eq_some_iff] at hq
      obtain ⟨ks, hks, s, hs, hq⟩ := hq
      split at hq
      · rename_i hz
        simp only [Option.bind_eq_some_iff, Option.map_eq_some_iff] at hq
        obtain ⟨m', hm, k', hk, x', hx, rfl⟩ := hq
        obtain ⟨e', h1, h2, h3, h4, h5⟩ := mup_ok (P := P) g hu hks hz hs (hA _ _ hm) (hA _ _ hk) (hA _ _ hx) h hC
        exact ⟨e', h1, h2, h3, .inr ⟨by simp [execOp, ho, h4], h5⟩⟩
      · cases hq
    · cases hq
  · rename_i t m k x ho
    split at hq
    · rename_i kt et hu
      simp only [Option.bind_eq_some_iff] at hq
      obtain ⟨ks, hks, s, hs, hq⟩ := hq
      split at hq
      · rename_i hz
        simp only [Option.bind_eq_some_iff, Option.map_eq_some_iff] at hq
        obtain ⟨m', hm, k', hk, x', hx, rfl⟩ := hq
        obtain ⟨e', h1, h2, h3, h4, h5⟩ := mup_ok (P := P) g hu hks hz hs (hA _ _ hm) (hA _ _ hk) (hA _ _ hx) h hC
        exact ⟨e', h1, h2, h3, .inr ⟨by simp [execOp, ho, h4], h5⟩⟩
      · cases hq
    · cases hq
  · rename_i t x ho
    split at hq
    · rename_i kt et hu
      obtain ⟨x', hx, rfl⟩ := Option.map_eq_some_iff.1 hq
      obtain ⟨e', h1, h2, h3, c, h4, h5⟩ := rng_ok (P := P) g hu (hA _ _ hx) h
      exact ⟨e', h1, h2, h3, .inl ⟨c, by simp [execOp, ho, h4], h5⟩⟩
    · cases hq
  · cases hq

end Go.Av
