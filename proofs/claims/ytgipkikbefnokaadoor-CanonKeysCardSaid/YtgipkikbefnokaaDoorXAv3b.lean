/- Literals of structs and arrays, and the text of bytes: that the program tells what the walk tells. No condition. -/
import Derived.Test.YtgipkikbefnokaaDoorXAv3
import Derived.Laws.BytesString
import Derived.Laws.Append
set_option linter.constructorNameAsVariable false
namespace Go.Av
open Go Go.RowKit
set_option linter.unusedSimpArgs false
set_option linter.unusedVariables false

theorem putAll_length {α : Type} (m : List α) : ∀ (l : List α) (off : Nat), (putAll l off m).length = l.length := by
  induction m with
  | nil => intro l off; rfl
  | cons x m ih => intro l off; simp [putAll, ih]

theorem cells_one {c : Value} (h : c.oneCell' = true) : c.cells = #[c] := by cases c <;> first | rfl | simp [Value.oneCell'] at h

theorem one_cells {e : Env} {x : RV} {c : Value} (hx : VR e x c) (hc : c.oneCell' = true) :
    c.cells.size = [x].length ∧ (∀ (j : Nat) c', c.cells[j]? = some c' → c'.oneCell' = true) ∧ ∀ (j : Nat) x' y, [x][j]? = some x' → c.cells[j]? = some y → VR e x' y := by
  rw [cells_one hc]
  refine ⟨rfl, fun j c' h => ?_, fun j x' y h1 h2 => ?_⟩
  · cases j with
    | zero => simp at h; subst h; exact hc
    | succ j => simp at h
  · cases j with
    | zero => simp at h1 h2; subst h1; subst h2; exact hx
    | succ j => simp at h1

theorem rcells_ok {e : Env} {x : RV} {c : Value} {cs : List RV} (hx : VR e x c) (h : rcells x = some cs) :
    c.cells.size = cs.length ∧ (∀ (j : Nat) c', c.cells[j]? = some c' → c'.oneCell' = true) ∧ ∀ (j : Nat) x' y, cs[j]? = some x' → c.cells[j]? = some y → VR e x' y := by
  cases hx with
  | v h' =>
    cases h' with
    | g cs' vs hn h1 h2 =>
      simp [rcells] at h; subst h
      refine ⟨by show vs.size = _; simpa using hn, h1, fun j x' y hx' hy => ?_⟩
      rw [List.getElem?_map, Option.map_eq_some_iff] at hx'
      obtain ⟨a, ha, rfl⟩ := hx'
      exact .v (h2 j a y ha hy)
    | tup cs' vs hn h2 => simp [rcells] at h
    | b x => simp [rcells] at h; subst h; exact one_cells (.v (.b _)) rfl
    | i k n => simp [rcells] at h; subst h; exact one_cells (.v (.i _ _)) rfl
    | s x => simp [rcells] at h; subst h; exact one_cells (.v (.s _)) rfl
    | sl sz rows b off cap f hb hsz hcap hc hh => simp [rcells] at h; subst h; exact one_cells (.v (.sl _ _ _ _ _ f hb hsz hcap hc hh)) rfl
    | sle sz p cap => simp [rcells] at h; subst h; exact one_cells (.v (.sle _ _ _)) rfl
    | nil p => simp [rcells] at h; subst h; exact one_cells (.v (.nil _)) rfl
    | pim cs' b off f hb hc hh => simp [rcells] at h; subst h; exact one_cells (.v (.pim _ _ _ f hb hc hh)) rfl
    | np => simp [rcells] at h; subst h; exact one_cells (.v .np) rfl
    | fn f cs' vs hn hh => simp [rcells] at h; subst h; exact one_cells (.v (.fn _ _ _ hn hh)) rfl
    | nf => simp [rcells] at h; subst h; exact one_cells (.v .nf) rfl
  | os ob lo h1 h2 h' h1c =>
    simp [rcells] at h; subst h
    exact one_cells (.os ob lo h1 h2 h' h1c) h1c
  | sub ob lo h1 h2 h' h1c =>
    simp [rcells] at h; subst h
    exact one_cells (.sub ob lo h1 h2 h' h1c) h1c
  | pt ob lo h1 h2 h' h1c =>
    simp [rcells] at h; subst h
    exact one_cells (.pt ob lo h1 h2 h' h1c) h1c
  | fr hn h' => simp [rcells] at h; subst h; exact one_cells (.fr hn h') rfl
  | bf hn h' => simp [rcells] at h; subst h; exact one_cells (.bf hn h') rfl
  | yl h' => simp [rcells] at h
  | tr hn h' => simp [rcells] at h
  | gr hn h1 h' =>
    simp [rcells] at h; subst h
    exact ⟨hn, h1, h'⟩
  | any => simp [rcells] at h
  | bo => simp [rcells] at h
  | cnd h1 h2 => simp [rcells] at h


structure CellsR (e : Env) (l : List RV) (cs : Array Value) : Prop where
  len : cs.size = l.length
  one : ∀ (j : Nat) c, cs[j]? = some c → c.oneCell' = true
  rd : ∀ (j : Nat) x y, l[j]? = some x → cs[j]? = some y → VR e x y

theorem CellsR.set {e : Env} {l : List RV} {cs : Array Value} (h : CellsR e l cs) (i : Nat) {x : RV} {c : Value} (hx : VR e x c) (hc : c.oneCell' = true) : CellsR e (l.set i x) (cs.setIfInBounds i c) := by
  refine ⟨by simp [h.len], fun j d hd => ?_, fun j y d hy hd => ?_⟩
  · rw [Array.getElem?_setIfInBounds] at hd
    split at hd
    · split at hd
      · cases hd; exact hc
      · cases hd
    · exact h.one j d hd
  · rw [Array.getElem?_setIfInBounds] at hd
    rw [List.getElem?_set] at hy
    split at hd
    · rename_i hij
      rw [if_pos hij] at hy
      split at hd
      · split at hy
        · cases hd; cases hy; exact hx
        · cases hy
      · cases hd
    · rename_i hij
      rw [if_neg hij] at hy
      exact h.rd j y d hy hd

theorem fold_ok {e : Env} : ∀ (m : List RV) (vs : List Value) (k off : Nat) (l : List RV) (cs : Array Value), CellsR e l cs → vs.length = m.length → (∀ (j : Nat) c, vs[j]? = some c → c.oneCell' = true) → (∀ (j : Nat) x y, m[j]? = some x → vs[j]? = some y → VR e x y) →
    CellsR e (putAll l (off + k) m) ((vs.zipIdx k).foldl (fun cs (c, j) => cs.setIfInBounds (off + j) c) cs)
  | [], [], k, off, l, cs, h, _, _, _ => h
  | x :: m, v :: vs, k, off, l, cs, h, hn, h1, h2 => by
    rw [List.zipIdx_cons, List.foldl_cons, putAll, Nat.add_assoc]
    exact fold_ok m vs (k + 1) off _ _ (h.set _ (h2 0 x v rfl rfl) (h1 0 v rfl)) (by simpa using hn) (fun j c hc => h1 (j + 1) c (by simpa using hc)) (fun j x y hx hy => h2 (j + 1) x y (by simpa using hx) (by simpa using hy))
  | [], _ :: _, _, _, _, _, _, hn, _, _ => by simp at hn
  | _ :: _, [], _, _, _, _, _, hn, _, _ => by simp at hn

theorem fill_ok {e : Env} {place : Nat → Option (Nat × Nat)} : ∀ (ps : List (Nat × Value)) (qs : List (Nat × Nat × RV)) (cells : Array Value) (l : List RV) (C : Prop) (l' : List RV), CellsR e l cells → ps.length = qs.length →
    (∀ (j : Nat) p q, ps[j]? = some p → qs[j]? = some q → place p.1 = some (q.1, q.2.1) ∧ VR e q.2.2 p.2) → fillA l qs = some (C, l') → C → ∃ cells', Instr.fill place cells ps = some cells' ∧ CellsR e l' cells'
  | [], [], cells, l, C, l', h, _, _, hf, _ => by simp [fillA] at hf; obtain ⟨_, rfl⟩ := hf; exact ⟨cells, rfl, h⟩
  | (i, v) :: ps, (off, sz, x) :: qs, cells, l, C, l', h, hn, hp, hf, hC => by
    simp only [fillA, Option.bind_eq_some_iff, Option.map_eq_some_iff] at hf
    obtain ⟨m, hm, ⟨C1, l1⟩, hf, he⟩ := hf
    simp only [Prod.mk.injEq] at he
    obtain ⟨rfl, rfl⟩ := he
    obtain ⟨⟨c1, c2⟩, c3⟩ := hC
    obtain ⟨hpl, hv⟩ := hp 0 _ _ rfl rfl
    obtain ⟨r1, r2, r3⟩ := rcells_ok hv hm
    have hcell := h.len
    have h2 := fold_ok m v.cells.toList 0 off l cells h (by simpa using r1) (fun j c hc => r2 j c (by simpa using hc)) (fun j x y hx hy => r3 j x y hx (by simpa using hy))
    obtain ⟨cells', hc1, hc2⟩ := fill_ok ps qs _ _ C1 l1 h2 (by simpa using hn) (fun j p q hp1 hq1 => hp (j + 1) p q (by simpa using hp1) (by simpa using hq1)) hf c3
    refine ⟨cells', ?_, hc2⟩
    simp only [Instr.fill, hpl]
    have r1' : v.cells.size = m.length := r1
    rw [if_neg (by simp only [Bool.or_eq_true, decide_eq_true_eq]; omega), ← hc1]
    congr 1
    rw [← Array.foldl_toList, Array.toList_zipIdx]
  | [], _ :: _, _, _, _, _, _, hn, _, _, _ => by simp at hn
  | _ :: _, [], _, _, _, _, _, hn, _, _, _ => by simp at hn

theorem aggV_cells {e : Env} {l : List RV} {cs : Array Value} (h : CellsR e l cs) : VR e (aggV l) (.agg cs) := aggV_ok h.len h.one h.rd

theorem map_cells {e : Env} {z : List AV} {v : Value} (h : VI e.w e.Im (.g z) v) : ∃ vs, v = .agg vs ∧ CellsR e (z.map .v) vs := by
  cases h with
  | g cs vs hn h1 h =>
    refine ⟨vs, rfl, by simpa using hn, h1, fun j x y hx hy => ?_⟩
    rw [List.getElem?_map, Option.map_eq_some_iff] at hx
    obtain ⟨a, ha, rfl⟩ := hx
    exact .v (h j a y ha hy)

theorem mapM_some {α β : Type} {P : Program} {w : World} {f : α → Sem β} {g : α → β} : ∀ (l : List α), (∀ x ∈ l, (f x).run P w = .ok (g x) w) → (l.mapM f).run P w = .ok (l.map g) w
  | [], _ => by simp
  | x :: l, h => by
    have h1 := h x (by simp)
    have h2 := mapM_some l (fun y hy => h y (by simp [hy]))
    simp [List.mapM_cons, h1, h2]

theorem amapM_some {α β : Type} {P : Program} {w : World} {f : α → Sem β} {g : α → β} (l : Array α) (h : ∀ x ∈ l.toList, (f x).run P w = .ok (g x) w) : (l.mapM f).run P w = .ok (l.map g) w := by
  have := mapM_some (P := P) (w := w) l.toList h
  rw [Array.mapM_eq_mapM_toList]
  simp [this]
  apply Array.ext' ; simp

theorem bld_ok {P : Program} {e : Env} {t : TypeId} {z : List AV} {ps : Array (Nat × Value)} {qs : List (Nat × Nat × RV)} {C : Prop} {r : RV} (hz : tZero P t = some (.g z)) (h : evBld z qs = some (C, r)) (hC : C) (hn : ps.toList.length = qs.length)
    (hp : (∃ fs, P.underlying t = some (.struct fs) ∧ (fs.toList.all fun f => (tSize P f.type).isSome) = true ∧ ∀ (j : Nat) p q, ps.toList[j]? = some p → qs[j]? = some q → (∃ fd, fs[p.1]? = some fd ∧ q.1 = fd.offset ∧ tSize P fd.type = some q.2.1) ∧ VR e q.2.2 p.2) ∨
      (∃ n el s, P.underlying t = some (.array n el) ∧ tSize P el = some s ∧ ∀ (j : Nat) p q, ps.toList[j]? = some p → qs[j]? = some q → q.1 = p.1 * s ∧ q.2.1 = s ∧ VR e q.2.2 p.2)) : Tells P e (Instr.build t ps) r := by
  unfold Tells
  simp only [tZero, Option.bind_eq_some_iff] at hz
  obtain ⟨i, hi, zv, hzv, hcv⟩ := hz
  obtain ⟨vs, rfl, hcells⟩ := map_cells (e := e) (cv_ok (w := e.w) (Im := e.Im) hcv)
  simp only [evBld, Option.map_eq_some_iff] at h
  obtain ⟨⟨C', l'⟩, hf, he⟩ := h
  simp only [Prod.mk.injEq] at he
  obtain ⟨rfl, rfl⟩ := he
  rcases hp with ⟨fs, hu, hall, hp⟩ | ⟨n, el, s, hu, hs, hp⟩
  · have hpl : (fs.mapM fun (f : Field) => do pure (f.offset, ← sizeOf f.type)).run P e.w = .ok (fs.map fun (f : Field) => (f.offset, (tSize P f.type).getD 0)) e.w := by
      refine amapM_some _ (fun f hf => ?_)
      rw [List.all_eq_true] at hall
      have := hall f hf
      rw [Option.isSome_iff_exists] at this
      obtain ⟨k, hk⟩ := this
      simp [run_sizeOf hk, hk]
    obtain ⟨cells', hc1, hc2⟩ := fill_ok (place := ((fs.map fun (f : Field) => (f.offset, (tSize P f.type).getD 0))[·]?)) ps.toList qs vs _ C' l' hcells hn (fun j p q hp1 hq1 => by
      obtain ⟨⟨fd, h1, h2, h3⟩, h4⟩ := hp j p q hp1 hq1
      refine ⟨?_, h4⟩
      simp [h1, h2, h3]) hf hC
    refine ⟨.agg cells', ?_, aggV_cells hc2⟩
    have hpl2 : (fs.mapM fun (f : Field) => Prod.mk f.offset <$> sizeOf f.type).run P e.w = .ok (fs.map fun (f : Field) => (f.offset, (tSize P f.type).getD 0)) e.w := by simpa using hpl
    simp only [Array.getElem?_map] at hc1
    simp [Instr.build, zeroValue, typeInfo, hi, hzv, run_underlying hu, hpl2, hc1, Value.cells]
  · obtain ⟨cells', hc1, hc2⟩ := fill_ok (place := fun i => some (i * s, s)) ps.toList qs vs _ C' l' hcells hn (fun j p q hp1 hq1 => by
      obtain ⟨h1, h2, h3⟩ := hp j p q hp1 hq1
      exact ⟨by rw [h1, h2], h3⟩) hf hC
    refine ⟨.agg cells', ?_, aggV_cells hc2⟩
    simp [Instr.build, zeroValue, typeInfo, hi, hzv, run_underlying hu, run_sizeOf hs, hc1, Value.cells]

/-! ### The text of bytes -/
theorem loadCells_f {P : Program} {w : World} {b o n : Nat} (f : Nat → Value) (h : ∀ j, j < n → w.cell? ⟨b, o + j, none⟩ = some (f j)) : (loadCells ⟨b, o, none⟩ n).run P w = .ok ((List.range n).map f).toArray w := by
  have := run_loadCells_list (P := P) w ⟨b, o, none⟩ ((List.range n).map f) (fun j v hv => by
    rw [List.getElem?_map, Option.map_eq_some_iff] at hv
    obtain ⟨k, hk, rfl⟩ := hv
    obtain ⟨h1, h2⟩ := List.getElem?_eq_some_iff.1 hk
    simp at h1 h2; subst h2
    rw [add_none]; exact h j h1)
  simpa using this

theorem push_all : ∀ (ns : List Int) (b : ByteArray), (ns.foldl (fun r n => r.push (UInt8.ofNat n.toNat)) b).data.toList = b.data.toList ++ ns.map fun n => UInt8.ofNat n.toNat
  | [], b => by simp
  | n :: ns, b => by
    rw [List.foldl_cons, push_all ns]
    simp [ByteArray.push]

theorem b2s_run {P : Program} {w : World} {b o cap : Nat} (ns : List Int) (h : ∀ j n, ns[j]? = some n → w.cell? ⟨b, o + j, none⟩ = some (.int .u8 n)) :
    ∃ s : ByteArray, (Conv.bytesToString (.slice (some ⟨b, o, none⟩) ns.length cap)).run P w = .ok (.string s) w ∧ s.data.toList = ns.map fun n => UInt8.ofNat n.toNat := by
  have hl : (loadCells ⟨b, o, none⟩ ns.length).run P w = .ok (ns.map (Value.int .u8)).toArray w := by
    have := run_loadCells_list (P := P) w ⟨b, o, none⟩ (ns.map (Value.int .u8)) (fun j v hv => by
      rw [List.getElem?_map, Option.map_eq_some_iff] at hv
      obtain ⟨n, hn, rfl⟩ := hv
      rw [add_none]; exact h j n hn)
    simpa using this
  exact ⟨_, run_bytesToString w _ _ cap ns hl, by rw [push_all]; rfl⟩

theorem byte_is' : ∀ {row : List AV}, isByte' row → ∃ n : Int, row = [.i .u8 n] ∧ byteOf' row = UInt8.ofNat n.toNat
  | [.i .u8 n], h => ⟨n, rfl, rfl⟩
  | [], h => by simp [isByte'] at h
  | _ :: _ :: _, h => by simp [isByte'] at h
  | [.b _], h => by simp [isByte'] at h
  | [.s _], h => by simp [isByte'] at h
  | [.g _], h => by simp [isByte'] at h
  | [.tup _], h => by simp [isByte'] at h
  | [.sl _ _], h => by simp [isByte'] at h
  | [.nil], h => by simp [isByte'] at h
  | [.pim _], h => by simp [isByte'] at h
  | [.np], h => by simp [isByte'] at h
  | [.fn _ _], h => by simp [isByte'] at h
  | [.nf], h => by simp [isByte'] at h
  | [.i k n], h => by cases k <;> first | exact ⟨n, rfl, rfl⟩ | simp [isByte'] at h

theorem byte_is {row : List RV} (h : isByte row) : ∃ n : Int, row = [.v (.i .u8 n)] ∧ byteOf row = UInt8.ofNat n.toNat := by
  unfold isByte at h
  split at h
  · exact ⟨_, rfl, rfl⟩
  · exact h.elim

theorem rows_ints' : ∀ {rows : List (List AV)}, (∀ row ∈ rows, isByte' row) → ∃ ns : List Int, rows = ns.map (fun n => [.i .u8 n]) ∧ rows.map byteOf' = ns.map fun n => UInt8.ofNat n.toNat
  | [], _ => ⟨[], rfl, rfl⟩
  | row :: rows, h => by
    obtain ⟨n, h1, h2⟩ := byte_is' (h row (by simp))
    obtain ⟨ns, h3, h4⟩ := rows_ints' (rows := rows) (fun r hr => h r (by simp [hr]))
    exact ⟨n :: ns, by simp [h1, h3], by simp [h2, h4]⟩

theorem rows_ints : ∀ {rows : List (List RV)}, (∀ row ∈ rows, isByte row) → ∃ ns : List Int, rows = ns.map (fun n => [.v (.i .u8 n)]) ∧ rows.map byteOf = ns.map fun n => UInt8.ofNat n.toNat
  | [], _ => ⟨[], rfl, rfl⟩
  | row :: rows, h => by
    obtain ⟨n, h1, h2⟩ := byte_is (h row (by simp))
    obtain ⟨ns, h3, h4⟩ := rows_ints (rows := rows) (fun r hr => h r (by simp [hr]))
    exact ⟨n :: ns, by simp [h1, h3], by simp [h2, h4]⟩

theorem empty_text {P : Program} {w : World} {a : Option Addr} {cap : Nat} : (Conv.bytesToString (.slice a 0 cap)).run P w = .ok (.string .empty) w := by
  cases a with
  | none => rfl
  | some a => exact run_bytesToString w a 0 cap [] (by simp [loadCells, loadCellsFrom])

theorem vi_u8 {w : World} {Im : Nat → Prop} {n : Int} {c : Value} (h : VI w Im (.i .u8 n) c) : c = .int .u8 n := by cases h; rfl

theorem b2s_ok {P : Program} {e : Env} (g : Good e) {src dst el : TypeId} {x : RV} {a : Value} {C : Prop} {r : RV} (hs : P.underlying src = some (.slice el)) (hd : P.underlying dst = some .string) (he : P.underlying el = some (.int .u8))
    (hx : VR e x a) (h : evB2s x e.H = some (C, r)) (hC : C) : Tells P e (convert src dst a) r := by
  unfold Tells
  have hcv : ∀ {p : Option Addr} {n k : Nat} {s : ByteArray} {l : List UInt8}, (Conv.bytesToString (.slice p n k)).run P e.w = .ok (.string s) e.w → s.data.toList = l → ∃ c, (convert src dst (.slice p n k)).run P e.w = .ok c e.w ∧ VR e (.v (.s l)) c := by
    intro p n k s l h1 h2
    subst h2
    exact ⟨_, by simp [convert, run_underlying hs, run_underlying hd, run_underlying he, h1], .v (.s s)⟩
  unfold evB2s at h
  split at h
  · obtain ⟨rfl, rfl⟩ := someP h
    cases vr_v hx
    exact hcv empty_text rfl
  · rename_i z rows
    obtain ⟨rfl, rfl⟩ := someP h
    obtain ⟨ns, h1, h2⟩ := rows_ints' hC
    rw [h2]
    cases vr_v hx with
    | sl _ _ b off cap f hb hsz hcap hc hh =>
      subst h1
      cases ns with
      | nil => exact hcv empty_text rfl
      | cons n0 ns =>
        have hz : z = 1 := by have := hsz [.i .u8 n0] (by simp); simpa using this.symm
        subst hz
        obtain ⟨s, h3, h4⟩ := b2s_run (P := P) (w := e.w) (b := b) (o := off) (cap := cap) (n0 :: ns) (fun j n hn => by
          have hr : ((n0 :: ns).map (fun n => [AV.i .u8 n]))[j]? = some [.i .u8 n] := by rw [List.getElem?_map, hn]; rfl
          have e1 := (hc j _ 0 _ hr rfl).1
          rw [vi_u8 (hh j _ 0 _ hr rfl), Nat.mul_one, Nat.add_zero] at e1
          exact e1)
        exact hcv (by simpa using h3) h4
    | sle =>
      have : ns = [] := by simpa using h1.symm
      subst this
      exact hcv empty_text rfl
  · rename_i o ver
    split at h
    · rename_i v z rows ho
      obtain ⟨rfl, rfl⟩ := someP h
      obtain ⟨rfl, hC⟩ := hC
      obtain ⟨ns, h1, h2⟩ := rows_ints hC
      rw [h2]
      obtain ⟨lo, hlo, hv⟩ := hx.slice g ho
      obtain ⟨hsz, hobj⟩ := g.obj _ _ _ ho hlo
      subst h1
      cases lo with
      | none =>
        obtain ⟨h0, a', rfl⟩ := hv
        have : ns = [] := by simpa using h0
        subst this
        exact hcv empty_text rfl
      | some l =>
        obtain rfl := hv
        obtain ⟨_, _, hcell⟩ := hobj
        cases ns with
        | nil => exact hcv empty_text rfl
        | cons n0 ns =>
          have hz : z = 1 := by have := hsz [.v (.i .u8 n0)] (by simp); simpa using this.symm
          subst hz
          obtain ⟨s, h3, h4⟩ := b2s_run (P := P) (w := e.w) (b := l.blk) (o := l.off) (cap := l.cap) (n0 :: ns) (fun j n hn => by
            have hr : ((n0 :: ns).map (fun n => [RV.v (.i .u8 n)]))[j]? = some [.v (.i .u8 n)] := by rw [List.getElem?_map, hn]; rfl
            obtain ⟨c, e1, _, e2⟩ := hcell j _ 0 _ hr rfl
            rw [vi_u8 (vr_v e2), Nat.mul_one, Nat.add_zero] at e1
            exact e1)
          exact hcv (by simpa using h3) h4
    · cases h
  · cases h
end Go.Av
