/- The kit's sorts as calls of the walk: a list of one's own is sorted in its place. No condition. -/
import Derived.Test.YtgipkikbefnokaaDoorXAv22
import Derived.Shelf.GgSortFunc.RowK
set_option linter.constructorNameAsVariable false
namespace Go.Av
open Go Go.RowKit Go.Sort
set_option linter.unusedSimpArgs false
set_option linter.unusedVariables false
def DetV (a : AV) (v : Value) : Prop := ∀ (w : World) (Im : Nat → Prop) (c : Value), VI w Im a c ↔ c = v
theorem detV_i (k : IntKind) (n : Int) : DetV (.i k n) (.int k n) := fun w Im c => ⟨fun h => by cases h; rfl, fun h => by subst h; exact .i k n⟩
theorem detV_b (b : Bool) : DetV (.b b) (.bool b) := fun w Im c => ⟨fun h => by cases h; rfl, fun h => by subst h; exact .b b⟩
structure RowEnc {α : Type} (row : α → List AV) (enc : α → List Value) (k : Nat) : Prop where
  rl : ∀ x, (row x).length = k
  el : ∀ x, (enc x).length = k
  det : ∀ x (j : Nat) a v, (row x)[j]? = some a → (enc x)[j]? = some v → DetV a v
  one : ∀ x, ∀ v ∈ enc x, v.oneCell' = true
theorem barred_mapBlock (w : World) (blk : Nat) (f : Array Value → Array Value) (a : Addr) : barred (mapBlock w blk f) a = barred w a := by
  simp only [barred, frozen?_mapBlock]
  congr 1
  simp only [mapBlock, Array.getElem?_modify]
  by_cases hk : blk = a.block
  · rw [if_pos hk]
    cases hh : w.heap[a.block]? with
    | none => simp [hh]
    | some o => cases o <;> simp [hh, onCells]
  · rw [if_neg hk]
theorem barred_grow (w : World) (os : Array Obj) (a : Addr) (h : a.block < w.heap.size) : barred (grow w os) a = barred w a := by
  simp only [barred, frozen?_grow w os a h, heap_grow_old w os h]
theorem flat_get {α : Type} [Inhabited α] {enc : α → List Value} {k : Nat} (hk : ∀ x, (enc x).length = k) (d : Array α) {r j : Nat} (hr : r < d.size) (hj : j < k) : ∃ h : r * k + j < d.size * k, (Go.Sort.flatK enc k d)[r * k + j]! = (enc d[r]!)[j]'(by rw [hk]; exact hj) := by
  have hlt : r * k + j < d.size * k := by
    have : (r + 1) * k ≤ d.size * k := Nat.mul_le_mul_right k hr
    rw [Nat.add_mul, Nat.one_mul] at this
    omega
  refine ⟨hlt, ?_⟩
  have h1 : (r * k + j) / k = r := by rw [Nat.add_comm, Nat.add_mul_div_right _ _ (by omega)]; rw [Nat.div_eq_of_lt hj]; omega
  have h2 : (r * k + j) % k = j := by rw [Nat.add_comm, Nat.add_mul_mod_self_right]; exact Nat.mod_eq_of_lt hj
  rw [get_flatK _ _ _ _ hlt, h1, h2, getElem!_pos]
theorem sort_bridge {P : Program} {f : Nat} {α : Type} [Inhabited α] {row : α → List AV} {enc : α → List Value} {k : Nat} (R : RowEnc row enc k) (rest : List AV) {l l' : List α} (hl : l'.length = l.length) (v : Nat)
    (hcalls : ∀ (blk cap : Nat) (e : Env) (vs : Array Value), Good e → vs.size = rest.length → (∀ (j : Nat) a c, rest[j]? = some a → vs[j]? = some c → VI e.w e.Im a c) → ¬ e.Im blk → HoldsK enc k e.w blk 0 l.toArray → blk < e.w.heap.size → l ≠ [] →
      Calls P f (#[.slice (some ⟨blk, 0, none⟩) l.length cap] ++ vs) e.w fun E w' => E = .returned (.tuple #[]) ∧ ∃ n os, w' = grow (putRowK enc k (Sort.ahead e.w n) blk 0 l'.toArray) os)
    (hnone : ∀ (p : Option Addr) (cap : Nat) (w : World) (vs : Array Value), vs.size = rest.length → l = [] → Calls P f (#[.slice p 0 cap] ++ vs) w fun E w' => E = .returned (.tuple #[]) ∧ w' = w) :
    CallS P f (.os 0 v :: rest.map .v) [.arr v k (vrows (l.map row))] fun r K => r = .v (.tup []) ∧ K = [.arr v k (vrows (l'.map row))] := by
  intro e vs g tb hH hvn hv
  have ho : e.H[0]? = some (.arr v k (vrows (l.map row))) := by rw [hH]; rfl
  obtain ⟨c0, hc0⟩ := array_get (vs := vs) (j := 0) hvn (by simp)
  have hv0 := hv 0 _ c0 rfl hc0
  obtain ⟨lo, hlo, hav⟩ := hv0.slice g ho
  obtain ⟨us, hus⟩ : ∃ us : Array Value, us = vs.extract 1 vs.size := ⟨_, rfl⟩
  have hvs : vs = #[c0] ++ us := by
    have h0 : 0 < vs.size := by rw [hvn]; simp
    apply Array.ext (by simp [hus]; omega)
    intro i h1 h2
    by_cases hi : i = 0
    · subst hi
      rw [Array.getElem?_eq_getElem h1] at hc0
      simp [Option.some.inj hc0]
    · rw [Array.getElem_append_right (by simp; omega)]
      simp [hus]
      congr 1; omega
  have hun : us.size = rest.length := by
    have := congrArg Array.size hvs
    rw [hvn] at this
    simp at this; omega
  have hu : ∀ (j : Nat) a c, rest[j]? = some a → us[j]? = some c → VI e.w e.Im a c := fun j a c ha hc => by
    have := hv (j + 1) (.v a) c (by simp [ha]) (by rw [hvs, Array.getElem?_append_right (by simp)]; simpa using hc)
    exact vr_v this
  have hmap : (vrows (l.map row)).length = l.length := by simp
  have tupv : ∀ e' : Env, VR e' (.v (.tup [])) (.tuple #[]) := fun e' => .v (.tup [] #[] rfl (fun j a c h => by simp at h))
  have nilcase : l = [] → ∀ p cap, c0 = .slice p 0 cap → CallsIn (FW none) 0 P f vs e.w fun E w' => ∃ (c : Value) (e' : Env) (r : RV), E = .returned c ∧ e'.w = w' ∧ Good e' ∧ Mv e e' ∧ VR e' r c ∧ (r = .v (.tup []) ∧ e'.H = [.arr v k (vrows (l'.map row))]) := fun h0 p cap hc => by
    have := hnone p cap e.w us hun h0
    rw [← hc, ← hvs] at this
    refine (callsIn_wide.2 this).mono ?_
    rintro E w' ⟨rfl, rfl⟩
    refine ⟨_, e, _, rfl, rfl, g, .refl, tupv e, rfl, ?_⟩
    have : l' = l := by rw [h0] at hl ⊢; exact List.eq_nil_of_length_eq_zero hl
    rw [hH, this]
  cases lo with
  | none =>
    obtain ⟨h0, a, rfl⟩ := hav
    have : l = [] := by rw [hmap] at h0; exact List.eq_nil_of_length_eq_zero h0
    exact nilcase this a 0 rfl
  | some lc =>
    simp only [ArrV, hmap] at hav
    by_cases h0 : l = []
    · subst h0
      exact nilcase rfl _ _ hav
    obtain ⟨hsz, hcap, hroom, hcell⟩ := g.obj 0 _ _ ho hlo
    have hblk := g.lt 0 lc hlo
    have hold : HoldsK enc k e.w lc.blk 0 l.toArray := by
      intro t ht
      rw [size_flatK, List.size_toArray] at ht
      have k0 : 0 < k := by rcases Nat.eq_zero_or_pos k with h | h; · subst h; simp at ht
                            · exact h
      have hr : t / k < l.length := (Nat.div_lt_iff_lt_mul k0).2 ht
      have hj : t % k < k := Nat.mod_lt _ k0
      have ht2 : t / k * k + t % k = t := by rw [Nat.mul_comm]; exact Nat.div_add_mod t k
      have hrow : (vrows (l.map row))[t / k]? = some ((row l[t / k]).map .v) := by simp [vrows, hr]
      have hx : ((row l[t / k]).map RV.v)[t % k]? = some (.v ((row l[t / k])[t % k]'(by rw [R.rl]; exact hj))) := by
        rw [List.getElem?_map, List.getElem?_eq_getElem (by rw [R.rl]; exact hj)]; rfl
      obtain ⟨c, h1, _, h3⟩ := hcell _ _ _ _ hrow hx
      obtain ⟨c', h4, h5⟩ := hroom t (by have : l.length * k ≤ lc.cap * k := Nat.mul_le_mul_right k (by rw [hmap] at hcap; exact hcap); omega)
      simp only [Loc.off, Nat.zero_add] at h1 h4 h5 ⊢
      rw [ht2] at h1
      obtain ⟨_, hf⟩ := flat_get R.el l.toArray (r := t / k) (j := t % k) (by simpa using hr) hj
      rw [ht2] at hf
      refine ⟨?_, free_of h5⟩
      rw [h1, hf]
      have hd := R.det l[t / k] (t % k) _ _ (List.getElem?_eq_getElem (by rw [R.rl]; exact hj)) (List.getElem?_eq_getElem (by rw [R.el]; exact hj))
      have := (hd e.w e.Im c).1 (vr_v h3)
      rw [this]
      simp [hr]
    have hc := hcalls lc.blk lc.cap e us g hun hu (g.dis 0 lc hlo) hold hblk h0
    simp only [Loc.off] at hav
    rw [← hav, ← hvs] at hc
    refine (callsIn_wide.2 hc).mono ?_
    rintro E w' ⟨rfl, n, os, rfl⟩
    obtain ⟨W, hW⟩ : ∃ W, W = grow (putRowK enc k (Sort.ahead e.w n) lc.blk 0 l'.toArray) os := ⟨_, rfl⟩
    have hsz1 : (putRowK enc k (Sort.ahead e.w n) lc.blk 0 l'.toArray).heap.size = e.w.heap.size := by unfold putRowK; rw [size_putRow]; rfl
    have hbW : lc.blk < (putRowK enc k (Sort.ahead e.w n) lc.blk 0 l'.toArray).heap.size := by rw [hsz1]; exact hblk
    have hsame : ∀ b, b < e.w.heap.size → b ≠ lc.blk → W.heap[b]? = e.w.heap[b]? := fun b hb hne => by
      rw [hW, heap_grow_old _ _ (by rw [hsz1]; exact hb)]
      simp only [putRowK, putRow, mapBlock, heap_ahead, Array.getElem?_modify]
      rw [if_neg (fun h : lc.blk = b => hne h.symm)]
    have hlen' : (vrows (l'.map row)).length = l.length := by simp [hl]
    have hcellW : ∀ (r j : Nat) (hr : r < l.length) (hj : j < k), W.cell? ⟨lc.blk, r * k + j, none⟩ = some ((enc (l'[r]'(by omega)))[j]'(by rw [R.el]; exact hj)) := fun r j hr hj => by
      rw [hW, cell?_grow _ _ _ hbW]
      obtain ⟨hlt, hf⟩ := flat_get R.el l'.toArray (r := r) (j := j) (by simpa [hl] using hr) hj
      have := cell?_putRow id (Sort.ahead e.w n) lc.blk 0 (Go.Sort.flatK enc k l.toArray) (Go.Sort.flatK enc k l'.toArray) hold (by simp [hl]) (r * k + j) (by rw [size_flatK]; exact hlt)
      rw [Nat.zero_add] at this
      rw [putRowK, this]
      simp only [id]
      rw [hf]
      simp [show r < l'.length by omega]
    have hroomW : ∀ q, q < lc.cap * k → ∃ c, W.cell? ⟨lc.blk, q, none⟩ = some c ∧ barred W ⟨lc.blk, q, none⟩ = false := fun q hq => by
      obtain ⟨c, h1, h2⟩ := hroom q hq
      simp only [Loc.off, Nat.zero_add] at h1 h2
      have hb : barred W ⟨lc.blk, q, none⟩ = false := by
        rw [hW, barred_grow _ _ _ hbW, putRowK, putRow, barred_mapBlock]
        exact h2
      by_cases hlt : q < l.length * k
      · have k0 : 0 < k := by rcases Nat.eq_zero_or_pos k with h | h; · subst h; simp at hlt
                              · exact h
        have hr : q / k < l.length := (Nat.div_lt_iff_lt_mul k0).2 hlt
        have ht2 : q / k * k + q % k = q := by rw [Nat.mul_comm]; exact Nat.div_add_mod q k
        have := hcellW (q / k) (q % k) hr (Nat.mod_lt _ k0)
        rw [ht2] at this
        exact ⟨_, this, hb⟩
      · refine ⟨c, ?_, hb⟩
        rw [hW, cell?_grow _ _ _ hbW, putRowK, cell?_putRow_other _ _ _ _ _ _ (.inr (.inr (by rw [size_flatK]; simp [hl]; omega)))]
        exact h1
    have hu2 := upd_ok g W (ob' := .arr v k (vrows (l'.map row))) (l' := lc) ho hlo (by rw [hW]; rfl) (by rw [hW]; rfl) ⟨by rw [hW]; rfl, by rw [hW]; exact Nat.le_add_right _ _⟩
      (by rw [hW, size_grow, hsz1]; omega) (fun b hb hne => hsame b hb (hne lc rfl)) (.inl ⟨lc, rfl, rfl⟩) (by rw [hW, size_grow, hsz1]; omega)
      ⟨v, k, _, rfl, .inr ⟨rfl, rfl, by simp [hl], rfl⟩⟩ (fun e' he' mv => by
        refine ⟨fun row' hr' => ?_, by rw [hlen']; rw [hmap] at hcap; exact hcap, fun q hq => ?_, fun r row' j x hr hx => ?_⟩
        · simp only [vrows, List.map_map, List.mem_map] at hr'
          obtain ⟨a, _, rfl⟩ := hr'
          simp [R.rl]
        · rw [he']; simp only [Loc.off, Nat.zero_add]; exact hroomW q hq
        · have hrl : r < l'.length := by have := (List.getElem?_eq_some_iff.1 hr).1; simpa using this
          have hrow : row' = (row l'[r]).map .v := by
            simp only [vrows, List.map_map, List.getElem?_map, List.getElem?_eq_getElem hrl, Option.map_some, Function.comp, Option.some.injEq] at hr
            exact hr.symm
          subst hrow
          have hj : j < k := by have := (List.getElem?_eq_some_iff.1 hx).1; simpa [R.rl] using this
          rw [List.getElem?_map, List.getElem?_eq_getElem (by rw [R.rl]; exact hj)] at hx
          simp only [Option.map_some, Option.some.injEq] at hx
          subst hx
          rw [he']
          simp only [Loc.off, Nat.zero_add]
          refine ⟨_, hcellW r j (by omega) hj, R.one _ _ (List.getElem_mem _), ?_⟩
          refine .v ((R.det l'[r] j _ _ (List.getElem?_eq_getElem (by rw [R.rl]; exact hj)) (List.getElem?_eq_getElem (by rw [R.el]; exact hj)) _ _ _).2 rfl))
    rw [← hW]
    exact ⟨_, _, _, rfl, rfl, hu2.1, hu2.2, tupv _, rfl, by rw [hH]; rfl⟩
theorem PureS.grows {P : Program} {f : Nat} {xs : List AV} {k : IntKind} {n : Int} (h : PureS P f xs (.i k n)) (w : World) (Im : Nat → Prop) (tb : Tabs P ⟨w, Im, [], []⟩) (hIm : ∀ b, Im b → b < w.heap.size) (vs : Array Value) (hn : vs.size = xs.length) (hv : ∀ (j : Nat) a c, xs[j]? = some a → vs[j]? = some c → VI w Im a c) :
    Calls P f vs w fun E w' => E = .returned (.int k n) ∧ ∃ q os, w' = grow (w.drewN q) os := by
  have g : Good ⟨w, Im, [], []⟩ := ⟨rfl, fun o o' l l' h => by simp at h, fun o l h => by simp at h, fun o l h => by simp at h, hIm, fun o ob lo h => by simp at h⟩
  have hc := h ⟨w, Im, [], []⟩ vs g tb rfl (by simpa using hn) (fun j x y hx hy => by
    rw [List.getElem?_map, Option.map_eq_some_iff] at hx
    obtain ⟨a, ha, rfl⟩ := hx
    exact .v (hv j a y ha hy))
  refine (callsIn_wide.1 hc).mono ?_
  rintro E w' ⟨c, e', r, rfl, rfl, g', mv, hr, rfl⟩
  obtain rfl := hr.int
  refine ⟨rfl, e'.w.drawn - w.drawn, e'.w.heap.extract w.heap.size e'.w.heap.size, ?_⟩
  have h1 := mv.os
  have h2 := mv.tape
  have h3 := mv.output
  have h4 := mv.size
  have h5 : ∀ b, b < w.heap.size → e'.w.heap[b]? = w.heap[b]? := fun b hb => mv.same b hb (fun ⟨o, l, ho, _⟩ => by simp at ho)
  have heap : e'.w.heap = w.heap ++ e'.w.heap.extract w.heap.size e'.w.heap.size := by
    apply Array.ext_getElem?
    intro i
    by_cases hi : i < w.heap.size
    · rw [Array.getElem?_append_left hi]; exact h5 i hi
    · rw [Array.getElem?_append_right (by omega), Array.getElem?_extract]
      split
      · congr 1; omega
      · rw [Array.getElem?_eq_none]; simp at *; omega
  have h6 : w.drawn ≤ e'.w.drawn := h3.2
  have h1 : e'.w.os = w.os := h1
  have h2 : e'.w.tape = w.tape := h2
  have h3 : e'.w.output = w.output := h3.1
  have hd : w.drawn + (e'.w.drawn - w.drawn) = e'.w.drawn := by omega
  show e'.w = { heap := w.heap ++ e'.w.heap.extract w.heap.size e'.w.heap.size, tape := w.tape, drawn := w.drawn + (e'.w.drawn - w.drawn), os := w.os, output := w.output }
  rw [hd, ← heap, ← h1, ← h2, ← h3]
end Go.Av
