/- What came in reads as plain values of its type's shape. No condition beyond the row's own. -/
import Derived.Test.YtdjcfjfgdblefaaAv9
import Derived.Carry
import Derived.ChangeOld
import GoSem.ClaimJoined
set_option linter.constructorNameAsVariable false
namespace Go.Av
open Go Go.RowKit
set_option linter.unusedSimpArgs false
set_option linter.unusedVariables false

/-- A cell's shape. -/
inductive Sh where
  | b
  | i (k : IntKind)
  | s
  | sl (bytes : Nat) (l : List Sh)

def shF (P : Program) (rec : TypeId → Option (List Sh)) : List Field → Nat → Option (List Sh)
  | [], _ => some []
  | f :: fs, off =>
    if f.offset == off then
      (rec f.type).bind fun ks => if P.cellsOf f.type = ks.length then (shF P rec fs (off + ks.length)).map fun l => ks ++ l else none
    else none

def shT (P : Program) : Nat → TypeId → Option (List Sh)
  | 0, _ => none
  | d + 1, t =>
    match P.underlying t with
    | some .bool => some [.b]
    | some (.int k) => some [.i k]
    | some .string => some [.s]
    | some (.struct fs) => (shF P (shT P d) fs.toList 0).bind fun l => if P.cellsOf t = l.length then some l else none
    | some (.array n e) => (shT P d e).bind fun ks => if P.cellsOf e = ks.length ∧ P.cellsOf t = n * ks.length then some (List.replicate n ks).flatten else none
    | some (.slice e) => (shT P d e).bind fun ks => if P.cellsOf e = ks.length ∧ 0 < ks.length then some [.sl (P.bytesOf e) ks] else none
    | _ => none

mutual
def Fit : Sh → AV → Prop
  | .b, a => ∃ x, a = .b x
  | .i k, a => ∃ n, a = .i k n ∧ k.min ≤ n ∧ n ≤ k.max
  | .s, a => ∃ l : List UInt8, a = .s l ∧ l.length ≤ 140737488351232
  | .sl bytes l, a => ∃ rows, a = .sl l.length rows ∧ rows.length * bytes ≤ 140737488351232 ∧ rows.length ≤ 9223372036854775807 ∧ ∀ row ∈ rows, FitL l row
def FitL : List Sh → List AV → Prop
  | [], [] => True
  | s :: ss, x :: xs => Fit s x ∧ FitL ss xs
  | _, _ => False
end

theorem fitL_length : ∀ {l : List Sh} {xs : List AV}, FitL l xs → xs.length = l.length
  | [], [], _ => rfl
  | _ :: _, _ :: _, h => by simp only [FitL] at h; simp [fitL_length h.2]
  | [], _ :: _, h => by simp [FitL] at h
  | _ :: _, [], h => by simp [FitL] at h

theorem fitL_append : ∀ {l l' : List Sh} {xs ys : List AV}, FitL l xs → FitL l' ys → FitL (l ++ l') (xs ++ ys)
  | [], l', [], ys, _, h => h
  | _ :: _, l', _ :: _, ys, h, h' => by simp only [FitL, List.cons_append] at h ⊢; exact ⟨h.1, fitL_append h.2 h'⟩
  | [], _, _ :: _, _, h, _ => by simp [FitL] at h
  | _ :: _, _, [], _, h, _ => by simp [FitL] at h

/-- Cells that read as plain values, one by one. -/
def VIs (w : World) (Im : Nat → Prop) : List AV → List Value → Prop
  | [], [] => True
  | x :: xs, c :: cs => VI w Im x c ∧ c.oneCell' = true ∧ VIs w Im xs cs
  | _, _ => False

theorem VIs.append {w : World} {Im : Nat → Prop} : ∀ {xs ys : List AV} {cs ds : List Value}, VIs w Im xs cs → VIs w Im ys ds → VIs w Im (xs ++ ys) (cs ++ ds)
  | [], ys, [], ds, _, h => h
  | _ :: _, ys, _ :: _, ds, h, h' => by simp only [VIs, List.cons_append] at h ⊢; exact ⟨h.1, h.2.1, VIs.append h.2.2 h'⟩
  | [], _, _ :: _, _, h, _ => by simp [VIs] at h
  | _ :: _, _, [], _, h, _ => by simp [VIs] at h

theorem VIs.get {w : World} {Im : Nat → Prop} : ∀ {xs : List AV} {cs : List Value}, VIs w Im xs cs → cs.length = xs.length ∧ ∀ (j : Nat) x c, xs[j]? = some x → cs[j]? = some c → VI w Im x c ∧ c.oneCell' = true
  | [], [], _ => ⟨rfl, fun j x c h => by simp at h⟩
  | x :: xs, c :: cs, h => by
    simp only [VIs] at h
    obtain ⟨h1, h2⟩ := VIs.get h.2.2
    refine ⟨by simp [h1], fun j y d hy hd => ?_⟩
    cases j with
    | zero => simp at hy hd; subst hy; subst hd; exact ⟨h.1, h.2.1⟩
    | succ j => exact h2 j y d (by simpa using hy) (by simpa using hd)
  | [], _ :: _, h => by simp [VIs] at h
  | _ :: _, [], h => by simp [VIs] at h

theorem min_le_of_wf {k : IntKind} {n : Int} (h : (Lit.int k n).wf = true) : k.min ≤ n ∧ n ≤ k.max := by simpa [Lit.wf] using h

theorem reach_eq : reachBytes = 140737488351232 := by decide

theorem maxLen_eq : maxLen = 9223372036854775807 := rfl

section
variable {H : Type} {enc : TypeId × Value → H} {P : Program} {w : World} {spare : Nat → Bool} {held : Bool}

/-- What a reading of so many cells is owed. -/
def OpenAt (enc : TypeId × Value → H) (P : Program) (w : World) (spare : Nat → Bool) (held : Bool) (fuel : Nat) (t : TypeId) (sh : List Sh) : Prop :=
  ∀ (cs : List Value) (d : DataW H) (ps : List MemPlace), DataW.trod enc P w 0 spare held fuel t cs = some (d, ps) → (d.weights P t).all (· ≤ reachBytes) = true →
    ∃ xs, FitL sh xs ∧ VIs w (fun b => b < w.heap.size) xs cs

theorem open_fields {fuel : Nat} {rec : TypeId → Option (List Sh)} (IH : ∀ t sh, rec t = some sh → OpenAt enc P w spare held fuel t sh) : ∀ (fs : List Field) (off : Nat) (sh : List Sh) (cs : List Value) (ds : List (DataW H × List MemPlace)), shF P rec fs off = some sh →
    fs.mapM (fun f => DataW.trod enc P w 0 spare held fuel f.type ((cs.drop f.offset).take (P.cellsOf f.type))) = some ds → (DataW.weightsEach P (fs.map (·.type)) (ds.map (·.1))).all (· ≤ reachBytes) = true → off + sh.length = cs.length →
    ∃ xs, FitL sh xs ∧ VIs w (fun b => b < w.heap.size) xs (cs.drop off)
  | [], off, sh, cs, ds, h, hd, _, hl => by
    simp [shF] at h; subst h
    refine ⟨[], trivial, ?_⟩
    rw [List.drop_eq_nil_of_le (by simp at hl; omega)]
    trivial
  | f :: fs, off, sh, cs, ds, h, hd, hw, hl => by
    simp only [shF] at h
    split at h
    · rename_i ho
      simp only [beq_iff_eq] at ho
      simp only [Option.bind_eq_some_iff] at h
      obtain ⟨k1, hk1, h⟩ := h
      split at h
      · rename_i hc
        obtain ⟨k2, hk2, rfl⟩ := Option.map_eq_some_iff.1 h
        simp only [List.mapM_cons, Option.bind_eq_bind, Option.bind_eq_some_iff] at hd
        obtain ⟨⟨d1, p1⟩, hd1, ds', hds, he⟩ := hd
        simp at he; subst he
        simp only [List.map_cons, DataW.weightsEach, List.all_append, Bool.and_eq_true] at hw
        obtain ⟨x1, hf1, hv1⟩ := IH f.type k1 hk1 _ d1 p1 hd1 hw.1
        obtain ⟨x2, hf2, hv2⟩ := open_fields IH fs (off + k1.length) k2 cs ds' hk2 hds hw.2 (by simp at hl; omega)
        refine ⟨x1 ++ x2, fitL_append hf1 hf2, ?_⟩
        have : cs.drop off = (cs.drop f.offset).take (P.cellsOf f.type) ++ cs.drop (off + k1.length) := by
          rw [ho, hc, ← List.drop_drop, List.take_append_drop]
        rw [this]
        exact hv1.append hv2
      · cases h
    · cases h

theorem open_items {fuel : Nat} {e : TypeId} {sh : List Sh} (IH : OpenAt enc P w spare held fuel e sh) (hc : P.cellsOf e = sh.length) (cs : List Value) : ∀ (n i : Nat) (ds : List (DataW H × List MemPlace)),
    (List.range' i n).mapM (fun i => DataW.trod enc P w 0 spare held fuel e ((cs.drop (i * P.cellsOf e)).take (P.cellsOf e))) = some ds → (DataW.weightsAll P e (ds.map (·.1))).all (· ≤ reachBytes) = true → (i + n) * sh.length = cs.length →
    ∃ xs, FitL (List.replicate n sh).flatten xs ∧ VIs w (fun b => b < w.heap.size) xs (cs.drop (i * sh.length))
  | 0, i, ds, hd, _, hl => by
    refine ⟨[], trivial, ?_⟩
    rw [List.drop_eq_nil_of_le (by rw [Nat.add_zero] at hl; omega)]
    trivial
  | n + 1, i, ds, hd, hw, hl => by
    rw [List.range'_succ] at hd
    simp only [List.mapM_cons, Option.bind_eq_bind, Option.bind_eq_some_iff] at hd
    obtain ⟨⟨d1, p1⟩, hd1, ds', hds, he⟩ := hd
    simp at he; subst he
    simp only [List.map_cons, DataW.weightsAll, List.all_append, Bool.and_eq_true] at hw
    obtain ⟨x1, hf1, hv1⟩ := IH _ d1 p1 hd1 hw.1
    obtain ⟨x2, hf2, hv2⟩ := open_items IH hc cs n (i + 1) ds' hds hw.2 (by rw [← hl]; congr 1; omega)
    refine ⟨x1 ++ x2, by rw [List.replicate_succ, List.flatten_cons]; exact fitL_append hf1 hf2, ?_⟩
    have : cs.drop (i * sh.length) = (cs.drop (i * P.cellsOf e)).take (P.cellsOf e) ++ cs.drop ((i + 1) * sh.length) := by
      rw [hc, Nat.add_mul, Nat.one_mul, ← List.drop_drop, List.take_append_drop]
    rw [this]
    exact hv1.append hv2

theorem cells_some {a : Addr} {n : Nat} {cs : List Value} (h : w.cells? 0 a n = some cs) : cs.length = n ∧ ∀ (j : Nat) c, cs[j]? = some c → w.cell? (a.add j) = some c := by
  unfold World.cells? at h
  rw [if_pos (Nat.zero_le _)] at h
  obtain ⟨h1, h2⟩ := mapM_get h
  refine ⟨by simpa using h1, fun j c hc => ?_⟩
  have hj : j < n := by
    have := (List.getElem?_eq_some_iff.1 hc).1; rw [h1] at this; simpa using this
  exact h2 j j c (by simp [hj]) hc

theorem weightsAll_mem {e : TypeId} : ∀ {ds : List (DataW H)}, (DataW.weightsAll P e ds).all (· ≤ reachBytes) = true → ∀ d ∈ ds, (d.weights P e).all (· ≤ reachBytes) = true
  | [], _, d, hd => by simp at hd
  | x :: ds, h, d, hd => by
    simp only [DataW.weightsAll, List.all_append, Bool.and_eq_true] at h
    rcases List.mem_cons.1 hd with rfl | hd
    · exact h.1
    · exact weightsAll_mem h.2 d hd

/-- **WHATEVER IS READ AT A TYPE OF SUCH A SHAPE IS A PLAIN VALUE.** -/
theorem open_any : ∀ (fuel dd : Nat) (t : TypeId) (sh : List Sh), shT P dd t = some sh → OpenAt enc P w spare held fuel t sh := by
  intro fuel
  induction fuel with
  | zero => intro dd t sh _ cs d ps h; simp [DataW.trod] at h
  | succ fuel ih =>
    intro dd t sh hsh cs d ps h hw
    cases dd with
    | zero => simp [shT] at hsh
    | succ dd =>
      unfold shT at hsh
      split at hsh
      · rename_i hu
        cases hsh
        obtain ⟨b, rfl, he⟩ := DataW.trod_bool hu h
        exact ⟨[.b b], ⟨⟨_, rfl⟩, trivial⟩, .b _, rfl, trivial⟩
      · rename_i k hu
        cases hsh
        obtain ⟨n, rfl, he, hwf⟩ := DataW.trod_int hu h
        exact ⟨[.i k n], ⟨⟨_, rfl, min_le_of_wf hwf⟩, trivial⟩, .i _ _, rfl, trivial⟩
      · rename_i hu
        cases hsh
        obtain ⟨s, rfl, he, hs⟩ := DataW.trod_string hu h
        cases he
        simp [DataW.weights, reach_eq] at hw
        exact ⟨[.s s.data.toList], ⟨⟨_, rfl, by simpa using hw⟩, trivial⟩, .s _, rfl, trivial⟩
      · rename_i fs hu
        simp only [Option.bind_eq_some_iff] at hsh
        obtain ⟨l, hl, hsh⟩ := hsh
        split at hsh
        · rename_i hcl
          cases hsh
          unfold DataW.trod at h
          rw [hu] at h
          simp only [Option.bind_eq_bind, Option.pure_def] at h
          split at h
          · rename_i hlen
            obtain ⟨ds, hds, he⟩ := Option.map_eq_some_iff.1 h
            simp only [Prod.mk.injEq] at he
            obtain ⟨rfl, _⟩ := he
            have hw' : (DataW.weightsEach P (fs.toList.map (·.type)) (ds.map (·.1))).all (· ≤ reachBytes) = true := by simpa [DataW.weights, hu] using hw
            have := open_fields (fun t sh => ih dd t sh) fs.toList 0 _ _ ds hl hds hw' (by omega)
            simpa using this
          · cases h
        · cases hsh
      · rename_i n e hu
        simp only [Option.bind_eq_some_iff] at hsh
        obtain ⟨ks, hks, hsh⟩ := hsh
        split at hsh
        · rename_i hcl
          cases hsh
          unfold DataW.trod at h
          rw [hu] at h
          simp only [Option.bind_eq_bind, Option.pure_def] at h
          split at h
          · rename_i hlen
            obtain ⟨ds, hds, he⟩ := Option.map_eq_some_iff.1 h
            simp only [Prod.mk.injEq] at he
            obtain ⟨rfl, _⟩ := he
            have hw' : (DataW.weightsAll P e (ds.map (·.1))).all (· ≤ reachBytes) = true := by simpa [DataW.weights, hu] using hw
            rw [List.range_eq_range'] at hds
            have := open_items (ih dd e ks hks) hcl.1 _ n 0 ds hds hw' (by rw [Nat.zero_add]; omega)
            simpa using this
          · cases h
        · cases hsh
      · rename_i e hu
        simp only [Option.bind_eq_some_iff] at hsh
        obtain ⟨ks, hks, hsh⟩ := hsh
        split at hsh
        · rename_i hcl
          cases hsh
          rcases DataW.trod_slice hu h with ⟨rfl, _⟩ | ⟨a, len, cap, elems, rest, m, hm, rfl, he, _, hlc, hcm, hel, hget, _⟩
          · exact ⟨[.sl ks.length []], ⟨⟨[], rfl, by simp, by simp, fun row h => by simp at h⟩, trivial⟩, .sle _ _ _, rfl, trivial⟩
          · cases hm
            cases he
            have hw1 : (elems.length + rest.length) * P.bytesOf e ≤ reachBytes ∧ (DataW.weightsAll P e (elems.map (·.1))).all (· ≤ reachBytes) = true := by
              simp only [DataW.weights, hu, List.length_map, List.all_cons, List.all_append, Bool.and_eq_true, decide_eq_true_eq] at hw
              exact ⟨hw.1, hw.2.1⟩
            have hrow : ∀ i, ∃ xs : List AV, i < len → FitL ks xs ∧ ∃ csi, w.cells? 0 (a.add (i * P.cellsOf e)) (P.cellsOf e) = some csi ∧ VIs w (fun b => b < w.heap.size) xs csi := by
              intro i
              by_cases hi : i < len
              · have hg := hget i hi
                have hie : elems[i]? = some (elems[i]'(by omega)) := List.getElem?_eq_getElem (by omega)
                rw [hie] at hg
                simp only [Option.bind_eq_some_iff] at hg
                obtain ⟨csi, hcsi, htr⟩ := hg
                obtain ⟨xs, h1, h2⟩ := ih dd e ks hks csi _ _ htr (weightsAll_mem hw1.2 _ (List.mem_map.2 ⟨_, List.getElem_mem (by omega), rfl⟩))
                exact ⟨xs, fun _ => ⟨h1, csi, hcsi, h2⟩⟩
              · exact ⟨[], fun h => absurd h hi⟩
            have hX : ∃ X : Nat → List AV, ∀ i, i < len → FitL ks (X i) ∧ ∃ csi, w.cells? 0 (a.add (i * P.cellsOf e)) (P.cellsOf e) = some csi ∧ VIs w (fun b => b < w.heap.size) (X i) csi := ⟨fun i => (hrow i).choose, fun i => (hrow i).choose_spec⟩
            obtain ⟨X, hX⟩ := hX
            have hlen : ((List.range len).map X).length = len := by simp
            have hrg : ∀ (r : Nat) row, ((List.range len).map X)[r]? = some row → r < len ∧ row = X r := fun r row h => by
              rw [List.getElem?_map, Option.map_eq_some_iff] at h
              obtain ⟨q, hq, rfl⟩ := h
              obtain ⟨hlt, e1⟩ := List.getElem?_eq_some_iff.1 hq
              simp at hlt e1; subst e1; exact ⟨hlt, rfl⟩
            refine ⟨[.sl ks.length ((List.range len).map X)], ⟨⟨_, rfl, ?_, ?_, ?_⟩, trivial⟩, ?_, rfl, trivial⟩
            · rw [hlen, ← hel, ← reach_eq]
              exact Nat.le_trans (Nat.mul_le_mul_right _ (Nat.le_add_right _ _)) hw1.1
            · rw [hlen]; rw [maxLen_eq] at hcm; omega
            · intro row hm
              obtain ⟨q, hq, rfl⟩ := List.mem_map.1 hm
              exact (hX q (List.mem_range.1 hq)).1
            · cases len with
              | zero => exact .sle _ _ _
              | succ len =>
                have hspot : a.spot = none := by
                  obtain ⟨_, csi, hcsi, hv⟩ := hX 0 (by omega)
                  obtain ⟨hl0, hc0⟩ := cells_some hcsi
                  have : ∃ c, csi[0]? = some c := ⟨csi[0]'(by omega), by simp⟩
                  obtain ⟨c, hc⟩ := this
                  have := hc0 0 c hc
                  simp only [Nat.zero_mul, Addr.add, if_true] at this
                  unfold World.cell? at this
                  split at this
                  · split at this
                    · cases this
                    · rename_i h; simpa using h
                  · cases this
                obtain ⟨bk, of, sp⟩ := a
                simp only at hspot
                subst hspot
                have hcell : ∀ (r : Nat) row (j : Nat) x, ((List.range (len + 1)).map X)[r]? = some row → row[j]? = some x → ∃ c, w.cell? ⟨bk, of + r * ks.length + j, none⟩ = some c ∧ c.oneCell' = true ∧ VI w (fun b => b < w.heap.size) x c := by
                  intro r row j x hr hx
                  obtain ⟨hrl, rfl⟩ := hrg r row hr
                  obtain ⟨_, csi, hcsi, hv⟩ := hX r hrl
                  obtain ⟨hl0, hc0⟩ := cells_some hcsi
                  obtain ⟨hv1, hv2⟩ := hv.get
                  have hj : j < csi.length := by rw [hv1]; exact (List.getElem?_eq_some_iff.1 hx).1
                  have hcj := List.getElem?_eq_getElem hj
                  have h3 := hv2 j x _ hx hcj
                  refine ⟨csi[j], ?_, h3.2, h3.1⟩
                  have := hc0 j _ hcj
                  rw [add_none, add_none, hcl.1] at this
                  exact this
                have hlt : bk < w.heap.size := by
                  have h0 : ((List.range (len + 1)).map X)[0]? = some (X 0) := by simp
                  have hx0 := fitL_length (hX 0 (by omega)).1
                  obtain ⟨c, hc, _⟩ := hcell 0 (X 0) 0 _ h0 (List.getElem?_eq_getElem (by omega))
                  exact World.block_lt_of_cell? (h := hc)
                have hf : ∃ f : Nat → Nat → Value, ∀ (r : Nat) row (j : Nat) x, ((List.range (len + 1)).map X)[r]? = some row → row[j]? = some x → w.cell? ⟨bk, of + r * ks.length + j, none⟩ = some (f r j) ∧ (f r j).oneCell' = true ∧ VI w (fun b => b < w.heap.size) x (f r j) := by
                  refine ⟨fun r j => (w.cell? ⟨bk, of + r * ks.length + j, none⟩).getD undef, fun r row j x hr hx => ?_⟩
                  obtain ⟨c, hc, h1, h2⟩ := hcell r row j x hr hx
                  simp only [hc, Option.getD_some]; exact ⟨trivial, h1, h2⟩
                obtain ⟨f, hf⟩ := hf
                have := VI.sl (w := w) (Im := fun b => b < w.heap.size) ks.length ((List.range (len + 1)).map X) bk of cap f hlt (fun row hm => by
                  obtain ⟨q, hq, rfl⟩ := List.mem_map.1 hm
                  exact fitL_length (hX q (List.mem_range.1 hq)).1) (by rw [hlen]; exact hlc) (fun r row j x hr hx => ⟨(hf r row j x hr hx).1, (hf r row j x hr hx).2.1⟩) (fun r row j x hr hx => (hf r row j x hr hx).2.2)
                rw [hlen] at this
                exact this
        · cases hsh
      · cases hsh
end
end Go.Av
