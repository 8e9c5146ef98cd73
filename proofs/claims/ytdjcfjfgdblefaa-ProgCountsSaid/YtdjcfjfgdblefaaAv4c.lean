/- 'append', 'make' and literals of slices: what the program does to memory. No condition. -/
import Derived.Test.YtdjcfjfgdblefaaAv3b
import Derived.Test.YtdjcfjfgdblefaaAv4b
set_option linter.constructorNameAsVariable false
namespace Go.Av
open Go Go.RowKit
set_option linter.unusedSimpArgs false
set_option linter.unusedVariables false

/-- The rows that a list has. -/
def rowsX (H : List AObj) (sz : Nat) (x : RV) : Option (Prop × List (List RV)) :=
  match x with
  | .v .nil => some (True, [])
  | .v (.sl z rows) => some (z = sz, vrows rows)
  | .v (.s l) => some (sz = 1, l.map fun b => [.v (.i .u8 b.toNat)])
  | .os o ver =>
    match H[o]? with
    | some (.arr v z rows) => some (ver = v ∧ z = sz, rows)
    | _ => none
  | _ => none

theorem someQ {α β : Type} {a a' : α} {b b' : β} (h : some (a, b) = some (a', b')) : a = a' ∧ b = b' := by cases h; exact ⟨rfl, rfl⟩

theorem cell_heap {w w' : World} (h : w'.heap = w.heap) (a : Addr) : w'.cell? a = w.cell? a := by simp only [World.cell?, h]

theorem loadCells_all {P : Program} {w : World} {b o n : Nat} (F : Nat → Value) (h : ∀ k, k < n → w.cell? ⟨b, o + k, none⟩ = some (F k)) {w' : World} (hw : w'.heap = w.heap) :
    (loadCells ⟨b, o, none⟩ n).run P w' = .ok ((List.range n).map F).toArray w' :=
  loadCells_f F (fun k hk => by rw [cell_heap hw]; exact h k hk)

theorem idx_row {sz k : Nat} (h : 0 < sz) : k = k / sz * sz + k % sz := by rw [Nat.mul_comm]; exact (Nat.div_add_mod k sz).symm

/-- A source's cells, in a row. -/
theorem flatR_ok {P : Program} {e : Env} {b off sz : Nat} {rows : List (List RV)} (h0 : 0 < sz) (hs : ∀ row ∈ rows, row.length = sz)
    (hc : ∀ (r : Nat) row (j : Nat) x, rows[r]? = some row → row[j]? = some x → ∃ c, e.w.cell? ⟨b, off + r * sz + j, none⟩ = some c ∧ c.oneCell' = true ∧ VR e x c) :
    ∃ news : List Value, news.length = rows.length * sz ∧ (∀ w' : World, w'.heap = e.w.heap → (loadCells ⟨b, off, none⟩ (rows.length * sz)).run P w' = .ok news.toArray w') ∧ RowsAt e sz rows news.toArray ∧ ∀ u ∈ news, u.oneCell' = true := by
  have hF : ∀ k, k < rows.length * sz → ∃ c x, e.w.cell? ⟨b, off + k, none⟩ = some c ∧ c.oneCell' = true := fun k hk => by
    have hr : k / sz < rows.length := by rw [Nat.div_lt_iff_lt_mul h0]; exact hk
    have hrow := list_get hr []
    have hl := hs _ (List.mem_of_getElem? hrow)
    have hj : k % sz < (rows.getD (k / sz) []).length := by rw [hl]; exact Nat.mod_lt _ h0
    obtain ⟨c, h1, h2, h3⟩ := hc _ _ _ _ hrow (list_get hj .any)
    refine ⟨c, RV.any, ?_, h2⟩
    have := idx_row (k := k) h0
    rw [this, ← Nat.add_assoc]; exact h1
  refine ⟨(List.range (rows.length * sz)).map fun k => (e.w.cell? ⟨b, off + k, none⟩).getD undef, by simp, fun w' hw => ?_, ?_, ?_⟩
  · refine loadCells_all _ (fun k hk => ?_) hw
    obtain ⟨c, _, h1, _⟩ := hF k hk
    rw [h1]; rfl
  · intro r row j x hr hx
    obtain ⟨c, h1, h2, h3⟩ := hc r row j x hr hx
    refine ⟨c, ?_, h2, h3⟩
    have hrl := (List.getElem?_eq_some_iff.1 hr).1
    have hjl : j < sz := by rw [← hs row (List.mem_of_getElem? hr)]; exact (List.getElem?_eq_some_iff.1 hx).1
    have hlt : r * sz + j < rows.length * sz := by
      have : (r + 1) * sz ≤ rows.length * sz := Nat.mul_le_mul_right _ hrl
      rw [Nat.add_mul] at this; omega
    simp only [List.getElem?_toArray, List.getElem?_map, List.getElem?_range hlt, Option.map_some]
    rw [← Nat.add_assoc, h1]; rfl
  · intro u hu
    obtain ⟨k, hk, rfl⟩ := List.mem_map.1 hu
    obtain ⟨c, _, h1, h2⟩ := hF k (List.mem_range.1 hk)
    rw [h1]; exact h2

theorem src_ok {P : Program} {e : Env} (g : Good e) {sz : Nat} (h0 : 0 < sz) {x : RV} {c : Value} {C : Prop} {rows : List (List RV)} (h : rowsX e.H sz x = some (C, rows)) (hC : C) (hx : VR e x c) :
    (∀ row ∈ rows, row.length = sz) ∧ (∀ w' : World, (Builtin.lenOf c).run P w' = .ok rows.length w') ∧ ∃ news : List Value, news.length = rows.length * sz ∧ (∀ w' : World, w'.heap = e.w.heap → (Builtin.firstCells sz rows.length c).run P w' = .ok news.toArray w') ∧ RowsAt e sz rows news.toArray ∧ ∀ u ∈ news, u.oneCell' = true := by
  have hnil : ∀ (a : Option Addr) (k : Nat), (∀ row ∈ ([] : List (List RV)), row.length = sz) ∧ (∀ w' : World, (Builtin.lenOf (.slice a 0 k)).run P w' = .ok ([] : List (List RV)).length w') ∧ ∃ news : List Value, news.length = ([] : List (List RV)).length * sz ∧ (∀ w' : World, w'.heap = e.w.heap → (Builtin.firstCells sz ([] : List (List RV)).length (.slice a 0 k)).run P w' = .ok news.toArray w') ∧ RowsAt e sz [] news.toArray ∧ ∀ u ∈ news, u.oneCell' = true := by
    intro a k
    refine ⟨by simp, fun w' => by simp [Builtin.lenOf], [], by simp, fun w' _ => ?_, fun r row j x hr => by simp at hr, by simp⟩
    cases a with
    | none => simp [Builtin.firstCells]
    | some a => simp [Builtin.firstCells, loadCells, loadCellsFrom]
  unfold rowsX at h
  split at h
  · obtain ⟨rfl, rfl⟩ := someQ h
    cases vr_v hx
    exact hnil _ _
  · rename_i z rws
    obtain ⟨rfl, rfl⟩ := someQ h
    subst hC
    cases vr_v hx with
    | sl _ _ b off cap f hb hsz hcap hc hh =>
      have hs : ∀ row ∈ vrows rws, row.length = z := fun row hm => by
        obtain ⟨r, hr, rfl⟩ := List.mem_map.1 hm
        simpa using hsz r hr
      obtain ⟨news, h1, h2, h3, h4⟩ := flatR_ok (P := P) (e := e) (b := b) (off := off) h0 hs (fun r row j x hr hx => by
        rw [vrows, List.getElem?_map, Option.map_eq_some_iff] at hr
        obtain ⟨row', hr, rfl⟩ := hr
        rw [List.getElem?_map, Option.map_eq_some_iff] at hx
        obtain ⟨x', hx, rfl⟩ := hx
        exact ⟨_, (hc r row' j x' hr hx).1, (hc r row' j x' hr hx).2, .v (hh r row' j x' hr hx)⟩)
      refine ⟨hs, fun w' => by simp [Builtin.lenOf, vrows], news, h1, fun w' hw => ?_, h3, h4⟩
      simp only [Builtin.firstCells]
      exact h2 w' hw
    | sle => exact hnil _ _
  · rename_i l
    obtain ⟨rfl, rfl⟩ := someQ h
    subst hC
    cases vr_v hx with
    | s y =>
      refine ⟨by simp, fun w' => by simp only [Builtin.lenOf, List.length_map, Array.length_toList]; rfl, y.data.toList.map fun b => Value.int .u8 b.toNat, by simp, fun w' hw => ?_, ?_, ?_⟩
      · simp only [Builtin.firstCells, Sem.run_pure]
        have : y.extract 0 (y.data.toList.map fun b => [RV.v (AV.i IntKind.u8 (b.toNat : Int))]).length = y := by
          rw [List.length_map]
          exact ByteArray.extract_zero_size (b := y)
        rw [this]
        congr 1
        apply Array.ext'
        simp
      · intro r row j x hr hx
        rw [List.getElem?_map, Option.map_eq_some_iff] at hr
        obtain ⟨b, hb, rfl⟩ := hr
        cases j with
        | zero =>
          simp at hx; subst hx
          exact ⟨.int .u8 b.toNat, by simp only [Nat.mul_one, Nat.add_zero, List.getElem?_toArray, List.getElem?_map, hb, Option.map_some], rfl, .v (.i _ _)⟩
        | succ j => simp at hx
      · intro u hu
        obtain ⟨b, _, rfl⟩ := List.mem_map.1 hu
        rfl
  · rename_i o ver
    split at h
    · rename_i v z rws ho
      obtain ⟨rfl, rfl⟩ := someQ h
      obtain ⟨rfl, rfl⟩ := hC
      obtain ⟨lo, hlo, hv⟩ := hx.slice g ho
      obtain ⟨hsz, hobj⟩ := g.obj _ _ _ ho hlo
      cases lo with
      | none =>
        obtain ⟨h0', a', rfl⟩ := hv
        obtain rfl : rws = [] := List.eq_nil_of_length_eq_zero h0'
        exact hnil _ _
      | some l =>
        obtain rfl := hv
        obtain ⟨_, _, hcell⟩ := hobj
        obtain ⟨news, h1, h2, h3, h4⟩ := flatR_ok (P := P) (e := e) (b := l.blk) (off := l.off) h0 hsz hcell
        refine ⟨hsz, fun w' => by simp [Builtin.lenOf], news, h1, fun w' hw => ?_, h3, h4⟩
        simp only [Builtin.firstCells]
        exact h2 w' hw
    · cases h
  · cases h

theorem run_app_grow {P : Program} {w : World} {t u ty el : TypeId} {i : TypeInfo} {z : Value} (ht : P.underlying t = some (.slice el)) (hu : (∃ el', P.underlying u = some (.slice el')) ∨ P.underlying u = some .string) (hi : P.info? el = some i) (hz : i.zero = some z)
    {base : Option Addr} {len cap n : Nat} {c : Value} {olds news : List Value} (hlen : ∀ w', (Builtin.lenOf c).run P w' = .ok n w') (hnew : ∀ w' : World, w'.heap = w.heap → (Builtin.firstCells i.size n c).run P w' = .ok news.toArray w')
    (hold : ∀ w' : World, w'.heap = w.heap → (Builtin.firstCells i.size len (.slice base len cap)).run P w' = .ok olds.toArray w') (hg : cap < len + n) (h63 : ((len + n : Nat) : Int) ≤ 9223372036854775807) (hfit : Builtin.nextslicecap (len + n) cap * i.bytes ≤ 281474976710656) :
    (Builtin.append_ #[t, u] ty #[.slice base len cap, c]).run P w = .ok (.slice (some ⟨w.heap.size, 0, none⟩) (len + n) (grownCap w (len + n) cap el))
      (w.drew.alloc (.cells (olds.toArray ++ news.toArray ++ Builtin.zeroCells z.cells (grownCap w (len + n) cap el - (len + n))) el)) := by
  have hn : ¬ (len + n ≤ cap) := by omega
  have h63' : ¬ (9223372036854775807 < ((len : Int) + (n : Int))) := by omega
  have h48' : ¬ (281474976710656 < Builtin.nextslicecap (len + n) cap * i.bytes) := by omega
  have e1 := hnew w.drew rfl
  have e2 := hold w.drew rfl
  rcases hu with ⟨el', hu⟩ | hu
  · simp [Builtin.append_, run_underlying ht, run_underlying hu, sizeOf, typeInfo, zeroValue, hi, hz, hlen, hn, h63', h48', Question.forced, e1, e2, newRow, grownCap]
    congr 2
    apply Array.ext'
    simp [List.append_assoc]
  · simp [Builtin.append_, run_underlying ht, run_underlying hu, sizeOf, typeInfo, zeroValue, hi, hz, hlen, hn, h63', h48', Question.forced, e1, e2, newRow, grownCap]
    congr 2
    apply Array.ext'
    simp [List.append_assoc]

theorem run_app_room {P : Program} {w : World} {t u ty el : TypeId} {i : TypeInfo} (ht : P.underlying t = some (.slice el)) (hu : (∃ el', P.underlying u = some (.slice el')) ∨ P.underlying u = some .string) (hi : P.info? el = some i)
    {b o len cap n : Nat} {c : Value} {news : List Value} (hlen : ∀ w', (Builtin.lenOf c).run P w' = .ok n w') (hnew : ∀ w' : World, w'.heap = w.heap → (Builtin.firstCells i.size n c).run P w' = .ok news.toArray w')
    (hroom : len + n ≤ cap) (hc : ∀ j, j < news.length → (w.cell? ⟨b, o + len * i.size + j, none⟩).isSome = true) (hf : ∀ j, j < news.length → w.frozen? ⟨b, o + len * i.size + j, none⟩ = false) (h1 : ∀ v ∈ news, v.oneCell' = true) :
    (Builtin.append_ #[t, u] ty #[.slice (some ⟨b, o, none⟩) len cap, c]).run P w = .ok (.slice (some ⟨b, o, none⟩) (len + n) cap) (w.setCells b (o + len * i.size) news) := by
  have e1 := hnew w rfl
  have hst := run_storeCells_cells (P := P) b (o + len * i.size) news 0 w (by simpa using hc) (by simpa using hf) h1
  simp only [Nat.add_zero] at hst
  rcases hu with ⟨el', hu⟩ | hu
  · simp [Builtin.append_, run_underlying ht, run_underlying hu, sizeOf, typeInfo, hi, hlen, hroom, e1, Addr.add_lit, hst]
  · simp [Builtin.append_, run_underlying ht, run_underlying hu, sizeOf, typeInfo, hi, hlen, hroom, e1, Addr.add_lit, hst]

theorem run_app_none {P : Program} {w : World} {t u ty el : TypeId} {i : TypeInfo} (ht : P.underlying t = some (.slice el)) (hu : (∃ el', P.underlying u = some (.slice el')) ∨ P.underlying u = some .string) (hi : P.info? el = some i)
    {a : Option Addr} {len cap : Nat} {c : Value} (hlen : ∀ w', (Builtin.lenOf c).run P w' = .ok 0 w') (hnew : ∀ w' : World, w'.heap = w.heap → (Builtin.firstCells i.size 0 c).run P w' = .ok #[] w') (hcap : len ≤ cap) :
    (Builtin.append_ #[t, u] ty #[.slice a len cap, c]).run P w = .ok (.slice a len cap) w := by
  have e1 := hnew w rfl
  rcases hu with ⟨el', hu⟩ | hu <;> cases a <;> simp [Builtin.append_, run_underlying ht, run_underlying hu, sizeOf, typeInfo, hi, hlen, e1, storeCells, hcap]
end Go.Av
