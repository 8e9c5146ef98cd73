/- That the quiet operations tell what evq says: all of them. No condition. -/
import Derived.Laws.Small
import Derived.Test.YtmgbloidhmjbfaaXAvEq
import Derived.Test.YtmgbloidhmjbfaaXAv3b
set_option linter.constructorNameAsVariable false
namespace Go.Av
open Go Go.RowKit
set_option linter.unusedSimpArgs false
set_option linter.unusedVariables false

/-! ### All of them -/
theorem resOpt_ok {e : Env} {a : Act} {A : AX → RV} (hA : Reads e a A) {o : Option Operand} {x : Option AX} (h : resOpt o = some x) :
    match x.map A, o.map a.eval with | none, none => True | some x, some c => VR e x c | _, _ => False := by
  cases o with
  | none => simp [resOpt] at h; subst h; trivial
  | some o =>
    simp only [resOpt, Option.map_eq_some_iff] at h
    obtain ⟨x', hx, rfl⟩ := h
    exact hA _ _ hx

/-- **A QUIET OPERATION TELLS WHAT evq SAYS, and turns nothing.** -/
theorem evq_ok {P : Program} {e : Env} (g : Good e) {a : Act} {A : AX → RV} (hA : Reads e a A) {o : Oper} {q : AOp} (hq : resOp P o.op = some q) {C : Prop} {r : RV} (h : evq A e.H q = some (C, r)) (hC : C) :
    ∃ c, (execOp a.eval o).run P e.w = .ok (.value c) e.w ∧ VR e r c := by
  have lift : ∀ {s : Sem Value}, (execOp a.eval o = s >>= fun c => pure (Next.value c)) → Tells P e s r → ∃ c, (execOp a.eval o).run P e.w = .ok (.value c) e.w ∧ VR e r c := by
    intro s hs ht
    obtain ⟨c, h1, h2⟩ := ht
    exact ⟨c, by rw [hs]; simp [h1], h2⟩
  unfold resOp at hq
  split at hq
  · rename_i x ho
    obtain ⟨x', hx, rfl⟩ := Option.map_eq_some_iff.1 hq
    obtain ⟨rfl, rfl⟩ := someP h
    exact ⟨a.eval x, by simp [execOp, ho], hA _ _ hx⟩
  · rename_i x ho
    obtain ⟨x', hx, rfl⟩ := Option.map_eq_some_iff.1 hq
    obtain ⟨rfl, rfl⟩ := someP h
    exact ⟨a.eval x, by simp [execOp, ho], hA _ _ hx⟩
  · rename_i op t x y yt ho
    simp only [Option.bind_eq_some_iff] at hq
    obtain ⟨x', hx, y', hy, hq⟩ := hq
    have geq : ∀ (neg : Bool) (q : AOp), resEq P neg t x' y' = some q → (∃ k, aggSize P t = some (some k)) → evq A e.H q = some (C, r) → (op = if neg then .neq else .eql) → Tells P e (do eqGuard op t x y (a.eval x) (a.eval y); binOp op t (a.eval x) (a.eval y)) r := by
      intro neg q hq hag h hop
      unfold resEq at hq
      simp only [Option.bind_eq_some_iff] at hq
      obtain ⟨ks, hks, hq⟩ := hq
      split at hq
      · rename_i hcond
        obtain ⟨hz, hgt⟩ := hcond
        cases hq
        simp only [evq, evEqg] at h
        split at h
        · rename_i as bs h1 h2
          obtain ⟨rfl, rfl⟩ := someP h
          have hvx := hA _ _ hx
          have hvy := hA _ _ hy
          rw [h1] at hvx
          rw [h2] at hvy
          have heq := equal_ok (P := P) (by decide) hks hz hag (vr_v hvx) (vr_v hvy) hC
          obtain ⟨vs, e1, _⟩ := hvx.agg
          obtain ⟨us, e2, _⟩ := hvy.agg
          rw [e1, e2] at heq ⊢
          have hgd := run_eqGuard_agg (P := P) (w := e.w) op t x y vs us hgt
          cases neg with
          | false =>
            simp only [Bool.false_eq_true, if_false] at hop ⊢
            subst hop
            exact ⟨.bool (eqA ks as bs), by simp only [Sem.run_bind, hgd, Result.andThen_ok, run_eql_struct]; simp only [Op.equal, Op.maxDepth] at heq; rw [heq]; rfl, .v (.b _)⟩
          | true =>
            simp only [if_true] at hop ⊢
            subst hop
            exact ⟨.bool (!eqA ks as bs), by simp only [Sem.run_bind, hgd, Result.andThen_ok, run_neq_struct]; simp only [Op.equal, Op.maxDepth] at heq; rw [heq]; rfl, .v (.b _)⟩
        · cases h
      · cases hq
    split at hq
    · rename_i hbt
      have hu : P.underlying t = some .bool := by
        unfold isBoolT at hbt
        split at hbt
        · assumption
        · cases hbt
      have hgo : ∀ (neg : Bool), evEqb neg (A x') (A y') = some (C, r) → (op = if neg then .neq else .eql) → Tells P e (do eqGuard op t x y (a.eval x) (a.eval y); binOp op t (a.eval x) (a.eval y)) r := by
        intro neg h hop
        unfold evEqb at h
        split at h
        · rename_i b1 b2 h1 h2
          obtain ⟨rfl, rfl⟩ := someP h
          have hvx := hA _ _ hx
          have hvy := hA _ _ hy
          rw [h1] at hvx
          rw [h2] at hvy
          rw [hvx.bool, hvy.bool]
          cases neg with
          | false =>
            simp only [Bool.false_eq_true, if_false] at hop ⊢
            subst hop
            exact ⟨.bool (b1 == b2), by simp [eqGuard, run_eql_bool e.w t b1 b2 hu], .v (.b _)⟩
          | true =>
            simp only [if_true] at hop ⊢
            subst hop
            exact ⟨.bool (!(b1 == b2)), by simp [eqGuard, run_neq_bool e.w t b1 b2 hu], .v (.b _)⟩
        · cases h
      unfold resEqb at hq
      split at hq
      · cases hq; exact lift (by unfold execOp; rw [ho]) (hgo false h rfl)
      · cases hq; exact lift (by unfold execOp; rw [ho]) (hgo true h rfl)
      · cases hq
    split at hq
    · rename_i hag; exact lift (by unfold execOp; rw [ho]) (geq false q hq ⟨_, hag⟩ h rfl)
    · rename_i hag; exact lift (by unfold execOp; rw [ho]) (geq true q hq ⟨_, hag⟩ h rfl)
    · cases hq
      exact lift (by unfold execOp; rw [ho]) (bin_ok (hA _ _ hx) (hA _ _ hy) h hC)
  · rename_i op t x ho
    obtain ⟨x', hx, rfl⟩ := Option.map_eq_some_iff.1 hq
    exact lift (by simp only [execOp, ho]) (un_ok (hA _ _ hx) h hC)
  · rename_i src dst x ho
    split at hq
    · rename_i d k hs hd
      obtain ⟨x', hx, rfl⟩ := Option.map_eq_some_iff.1 hq
      simp only [evq] at h
      split at h
      · rename_i k' n hn
        obtain ⟨rfl, rfl⟩ := someP h
        have := hA _ _ hx
        rw [hn] at this
        have ha := this.int
        refine ⟨.int k (k.wrap n), ?_, .v (.i _ _)⟩
        simp only [execOp, ho, ha, convert, Sem.run_bind, run_underlying hs, run_underlying hd, Result.andThen_ok, Conv.intToInt, Sem.run_pure]
      · cases h
    · rename_i el hs hd
      split at hq
      · rename_i he
        obtain ⟨x', hx, rfl⟩ := Option.map_eq_some_iff.1 hq
        exact lift (by simp only [execOp, ho]) (b2s_ok g hs hd he (hA _ _ hx) h hC)
      · cases hq
    · cases hq
  · rename_i t x f ho
    split at hq
    · rename_i fs hu
      simp only [Option.bind_eq_some_iff, Option.map_eq_some_iff] at hq
      obtain ⟨fd, hf, s, hs, x', hx, rfl⟩ := hq
      exact lift (by simp only [execOp, ho]) (field_ok hu hf hs (hA _ _ hx) h hC)
    · cases hq
  · rename_i t x i ho
    split at hq
    · rename_i len el hu
      simp only [Option.bind_eq_some_iff, Option.map_eq_some_iff] at hq
      obtain ⟨s, hs, z, hz, x', hx, i', hi, rfl⟩ := hq
      exact lift (by simp only [execOp, ho]) (idx_ok hu hs hz (hA _ _ hx) (hA _ _ hi) h hC)
    · rename_i hu
      simp only [Option.bind_eq_some_iff, Option.map_eq_some_iff] at hq
      obtain ⟨x', hx, i', hi, rfl⟩ := hq
      exact lift (by simp only [execOp, ho]) (sidx_ok hu (hA _ _ hx) (hA _ _ hi) h hC)
    · cases hq
  · rename_i x n ho
    obtain ⟨x', hx, rfl⟩ := Option.map_eq_some_iff.1 hq
    exact lift (by simp only [execOp, ho]) (ext_ok (hA _ _ hx) h hC)
  · rename_i x ho
    obtain ⟨x', hx, rfl⟩ := Option.map_eq_some_iff.1 hq
    exact nck_ok g ho rfl (hA _ _ hx) h hC
  · rename_i f first caps ho
    split at hq
    · rename_i hfirst
      obtain rfl : first = #[] := Array.eq_empty_of_size_eq_zero hfirst
      obtain ⟨cs, hcs, rfl⟩ := Option.map_eq_some_iff.1 hq
      obtain ⟨h1, h2⟩ := mapM_get hcs
      have hmk := mkf_ok (P := P) (e := e) (f := f) (xs := cs.map A) (vs := caps.map a.eval) (C := C) (r := r) (by simp [h1]) (fun j x y hx hy => by
        rw [List.getElem?_map, Option.map_eq_some_iff] at hx
        obtain ⟨x', hx', rfl⟩ := hx
        rw [Array.getElem?_map, Option.map_eq_some_iff] at hy
        obtain ⟨y', hy', rfl⟩ := hy
        exact hA _ _ (h2 j y' x' (by simpa using hy') hx')) h
      exact ⟨_, by simp [execOp, ho, Instr.makeFunc], hmk⟩
    · split at hq
      · rename_i hcaps
        obtain rfl : caps = #[] := Array.eq_empty_of_size_eq_zero hcaps
        obtain ⟨cs, hcs, rfl⟩ := Option.map_eq_some_iff.1 hq
        obtain ⟨h1, h2⟩ := mapM_get hcs
        obtain ⟨rfl, rfl⟩ := someP h
        refine ⟨_, by simp [execOp, ho, Instr.makeFunc], .bf (vs := first.map a.eval) (by simp [h1]) (fun j x y hx hy => ?_)⟩
        rw [List.getElem?_map, Option.map_eq_some_iff] at hx
        obtain ⟨x', hx', rfl⟩ := hx
        rw [Array.getElem?_map, Option.map_eq_some_iff] at hy
        obtain ⟨y', hy', rfl⟩ := hy
        exact hA _ _ (h2 j y' x' (by simpa using hy') hx')
      · cases hq
  · rename_i t x f ho
    split at hq
    · rename_i fs hu
      simp only [Option.bind_eq_some_iff] at hq
      obtain ⟨fd, hf, z, hz, hq⟩ := hq
      split at hq
      · cases hq
      · rename_i hz0
        obtain ⟨x', hx, rfl⟩ := Option.map_eq_some_iff.1 hq
        exact lift (by simp only [execOp, ho]) (fa_ok g hu hf hz hz0 (hA _ _ hx) h hC)
    · cases hq
  · rename_i t x i ho
    split at hq
    · rename_i len el hu
      simp only [Option.bind_eq_some_iff, Option.map_eq_some_iff] at hq
      obtain ⟨z, hz, x', hx, i', hi, rfl⟩ := hq
      exact lift (by simp only [execOp, ho]) (iaa_ok g hu hz (hA _ _ hx) (hA _ _ hi) h hC)
    · rename_i el hu
      simp only [Option.bind_eq_some_iff, Option.map_eq_some_iff] at hq
      obtain ⟨z, hz, x', hx, i', hi, rfl⟩ := hq
      exact lift (by simp only [execOp, ho]) (ias_ok g hu hz (hA _ _ hx) (hA _ _ hi) h hC)
    · cases hq
  · rename_i t ps ho
    simp only [Option.bind_eq_some_iff] at hq
    obtain ⟨zz, hz, hq⟩ := hq
    split at hq
    · rename_i z
      split at hq
      · rename_i fs hu
        split at hq
        · rename_i hall
          obtain ⟨qs, hqs, rfl⟩ := Option.map_eq_some_iff.1 hq
          obtain ⟨m1, m2⟩ := mapM_get hqs
          have hbl := bld_ok (P := P) (e := e) (t := t) (z := z) (ps := ps.map fun (i, x) => (i, a.eval x)) (qs := qs.map fun (p : Nat × Nat × AX) => (p.1, p.2.1, A p.2.2)) hz h hC (by simp [m1]) (.inl ⟨fs, hu, hall, fun j p q hp hq => by
            rw [List.getElem?_map, Option.map_eq_some_iff] at hq
            obtain ⟨⟨off, sz, x⟩, hq, rfl⟩ := hq
            rw [Array.toList_map, List.getElem?_map, Option.map_eq_some_iff] at hp
            obtain ⟨⟨i, y⟩, hp, rfl⟩ := hp
            have := m2 j _ _ hp hq
            simp only [resPart, Option.bind_eq_some_iff, Option.map_eq_some_iff, Prod.mk.injEq] at this
            obtain ⟨fd, h1, s, h2, x', h3, rfl, rfl, rfl⟩ := this
            exact ⟨⟨fd, h1, rfl, h2⟩, hA _ _ h3⟩⟩)
          exact lift (by simp only [execOp, ho]) hbl
        · cases hq
      · rename_i n el hu
        simp only [Option.bind_eq_some_iff] at hq
        obtain ⟨s, hs, hq⟩ := hq
        obtain ⟨qs, hqs, rfl⟩ := Option.map_eq_some_iff.1 hq
        obtain ⟨m1, m2⟩ := mapM_get hqs
        have hbl := bld_ok (P := P) (e := e) (t := t) (z := z) (ps := ps.map fun (i, x) => (i, a.eval x)) (qs := qs.map fun (p : Nat × Nat × AX) => (p.1, p.2.1, A p.2.2)) hz h hC (by simp [m1]) (.inr ⟨n, el, s, hu, hs, fun j p q hp hq => by
          rw [List.getElem?_map, Option.map_eq_some_iff] at hq
          obtain ⟨⟨off, sz, x⟩, hq, rfl⟩ := hq
          rw [Array.toList_map, List.getElem?_map, Option.map_eq_some_iff] at hp
          obtain ⟨⟨i, y⟩, hp, rfl⟩ := hp
          have := m2 j _ _ hp hq
          simp only [resItem, Option.map_eq_some_iff, Prod.mk.injEq] at this
          obtain ⟨x', h3, rfl, rfl, rfl⟩ := this
          exact ⟨rfl, rfl, hA _ _ h3⟩⟩)
        exact lift (by simp only [execOp, ho]) hbl
      · cases hq
    · cases hq
  · rename_i t p ho
    simp only [Option.bind_eq_some_iff, Option.map_eq_some_iff] at hq
    obtain ⟨s, hs, p', hp, rfl⟩ := hq
    exact lift (by simp only [execOp, ho]) (ld_ok g hs (hA _ _ hp) h hC)
  · rename_i t x lo hi ho
    split at hq
    · rename_i el hu
      simp only [Option.bind_eq_some_iff, Option.map_eq_some_iff] at hq
      obtain ⟨z, hz, x', hx, lo', hlo, hi', hhi, rfl⟩ := hq
      exact lift (by unfold execOp; rw [ho]; rfl) (sls_ok hu hz (hA _ _ hx) (resOpt_ok hA hlo) (resOpt_ok hA hhi) h hC)
    · cases hq
  · rename_i c ho
    split at hq
    · rename_i x t hcal hargs htys
      have hargs' : c.args = #[x] := by rw [← Array.toArray_toList (xs := c.args), hargs]
      have htys' : c.argTypes = #[t] := by rw [← Array.toArray_toList (xs := c.argTypes), htys]
      have hex : ∀ {s : Sem Value}, Builtin.len_ #[t] o.type #[a.eval x] = s → execOp a.eval o = s >>= fun c => pure (Next.value c) := by
        intro s hs; subst hs
        simp [execOp, ho, resolve, invoke, builtin, hcal, hargs', htys']
      split at hq
      · rename_i hu
        obtain ⟨x', hx, rfl⟩ := Option.map_eq_some_iff.1 hq
        exact lift (hex rfl) (len_ok g hu (hA _ _ hx) h hC (.inl rfl))
      · rename_i el hu
        obtain ⟨x', hx, rfl⟩ := Option.map_eq_some_iff.1 hq
        exact lift (hex rfl) (len_ok g hu (hA _ _ hx) h hC (.inr ⟨_, rfl⟩))
      · rename_i n el hu
        cases hq
        obtain ⟨rfl, rfl⟩ := someP h
        exact lift (hex rfl) ⟨.int .i64 n, by simp [Builtin.len_, run_underlying hu, goInt], .v (.i _ _)⟩
      · cases hq
    · rename_i x y hcal hargs
      simp only [Option.bind_eq_some_iff, Option.map_eq_some_iff] at hq
      obtain ⟨x', hx, y', hy, rfl⟩ := hq
      have hargs' : c.args = #[x, y] := by rw [← Array.toArray_toList (xs := c.args), hargs]
      simp only [evq, evMx] at h
      split at h
      · rename_i k p k' q h1 h2
        obtain ⟨rfl, rfl⟩ := someP h
        have hvx := hA _ _ hx
        have hvy := hA _ _ hy
        rw [h1] at hvx; rw [h2] at hvy
        refine ⟨.int k (if p < q then q else p), ?_, .v (.i _ _)⟩
        simp [execOp, ho, resolve, invoke, builtin, hcal, hargs', hvx.int, hvy.int, run_max_int2, run_min_int2]
      · cases h
    · rename_i x y hcal hargs
      simp only [Option.bind_eq_some_iff, Option.map_eq_some_iff] at hq
      obtain ⟨x', hx, y', hy, rfl⟩ := hq
      have hargs' : c.args = #[x, y] := by rw [← Array.toArray_toList (xs := c.args), hargs]
      simp only [evq, evMx] at h
      split at h
      · rename_i k p k' q h1 h2
        obtain ⟨rfl, rfl⟩ := someP h
        have hvx := hA _ _ hx
        have hvy := hA _ _ hy
        rw [h1] at hvx; rw [h2] at hvy
        refine ⟨.int k (if q < p then q else p), ?_, .v (.i _ _)⟩
        simp [execOp, ho, resolve, invoke, builtin, hcal, hargs', hvx.int, hvy.int, run_max_int2, run_min_int2]
      · cases h
    · cases hq
  · cases hq

end Go.Av
