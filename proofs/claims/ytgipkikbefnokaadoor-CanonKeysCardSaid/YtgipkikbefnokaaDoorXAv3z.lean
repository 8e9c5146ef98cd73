/- That the quiet operations tell what evq says: all of them. No condition. -/
import Derived.Laws.Small
import Derived.Test.YtgipkikbefnokaaDoorXAvEq
import Derived.Test.YtgipkikbefnokaaDoorXAv3b
set_option linter.constructorNameAsVariable false
namespace Go.Av
open Go Go.RowKit
set_option linter.unusedSimpArgs false
set_option linter.unusedVariables false

/-! ### All of them -/
theorem resOpt_ok {P : Program} {e : Env} {a : Act} {A : AX → RV} (hA : Reads P e a A) {o : Option Operand} {x : Option AX} (h : resOpt P o = some x) :
    match x.map A, o.map a.eval with | none, none => True | some x, some c => VR e x c | _, _ => False := by
  cases o with
  | none => simp [resOpt] at h; subst h; trivial
  | some o =>
    simp only [resOpt, Option.map_eq_some_iff] at h
    obtain ⟨x', hx, rfl⟩ := h
    exact hA _ _ hx

theorem run_equalIn_slice_nil' {P : Program} (w : World) (d : Nat) (t e : TypeId) (a : Option Addr) (l c : Nat) (h : P.underlying t = some (.slice e)) : (Op.equalIn (d + 1) t (.slice a l c) (.slice none 0 0)).run P w = .ok a.isNone w := by
  cases a <;> simp [Op.equalIn, run_underlying h]
theorem run_isn_slice {P : Program} (w : World) (neg : Bool) {t e : TypeId} (a : Option Addr) (l c : Nat) (h : P.underlying t = some (.slice e)) : (binOp (if neg then .neq else .eql) t (.slice a l c) (.slice none 0 0)).run P w = .ok (.bool (if neg then !a.isNone else a.isNone)) w := by
  have := run_equalIn_slice_nil' (P := P) w 9999 t e a l c h
  cases neg <;> simp [binOp, Op.equal, Op.maxDepth, this]
theorem run_equalIn_ptr_nil' {P : Program} (w : World) (d : Nat) (t : TypeId) {e : TypeId} (p : Option Addr) (h : P.underlying t = some (.pointer e)) : (Op.equalIn (d + 1) t (.pointer p) (.pointer none)).run P w = .ok p.isNone w := by
  cases p <;> simp [Op.equalIn, run_underlying h]
theorem run_isn_ptr {P : Program} (w : World) (neg : Bool) {t e : TypeId} (p : Option Addr) (h : P.underlying t = some (.pointer e)) : (binOp (if neg then .neq else .eql) t (.pointer p) (.pointer none)).run P w = .ok (.bool (if neg then !p.isNone else p.isNone)) w := by
  have h' := run_equalIn_ptr_nil' (P := P) w 9999 t p h
  cases neg <;> simp [binOp, Op.equal, Op.maxDepth, h']
theorem nil_ok {P : Program} {e : Env} (g : Good e) {a : Act} {A : AX → RV} (neg : Bool) {op : BinOp} {t : TypeId} {xo yo : Operand} {x y : AX} (hop : op = if neg then .neq else .eql) (hx : resX P xo = some x) (hy : resX P yo = some y) (hA : Reads P e a A) {C : Prop} {r : RV} (h : evq A e.H (resNil P op neg t yo x y) = some (C, r)) (hC : C) :
    Tells P e (do eqGuard op t xo yo (a.eval xo) (a.eval yo); binOp op t (a.eval xo) (a.eval yo)) r := by
  unfold resNil at h
  split at h
  · rename_i sl hsl
    have hvx := hA _ _ hx
    unfold isNilX at hsl
    split at hsl
    · rename_i el hu
      cases hsl
      have fin : ∀ (ad : Option Addr) (l c : Nat) (r : RV), a.eval xo = .slice ad l c → VR e r (.bool (if neg then !ad.isNone else ad.isNone)) → Tells P e (do eqGuard op t xo (.const (.slice none 0 0)) (a.eval xo) (a.eval (.const (.slice none 0 0))); binOp op t (a.eval xo) (a.eval (.const (.slice none 0 0)))) r := fun ad l c r e1 e2 => by
        refine ⟨_, ?_, e2⟩
        have := run_isn_slice (P := P) e.w neg ad l c hu
        rw [← hop] at this
        rw [e1]
        simp [eqGuard, Act.eval, this]
      simp only [evq, evIsn] at h
      generalize A x = ax at *
      cases ax with
      | v z =>
        cases z with
        | sl sz rows =>
          cases rows with
          | cons r0 rs =>
            obtain ⟨rfl, rfl⟩ := someP h
            generalize a.eval xo = cx at *
            cases hvx with | v hv => cases hv with
              | sl _ _ b off cap f hb hsz hcap hc hh => exact fin _ _ _ _ rfl (by cases neg <;> exact .v (.b _))
          | nil =>
            obtain ⟨rfl, rfl⟩ := someP h
            generalize a.eval xo = cx at *
            cases hvx with | v hv => cases hv with
              | sl _ _ b off cap f hb hsz hcap hc hh => exact fin _ _ _ _ rfl .bo
              | sle _ ad cap => exact fin _ _ _ _ rfl .bo
        | nil =>
          obtain ⟨rfl, rfl⟩ := someP h
          generalize a.eval xo = cx at *
          cases hvx with | v hv => cases hv with
            | nil ad => exact fin _ _ _ _ rfl .bo
        | _ => cases h
      | os o ver =>
        simp only at h
        generalize a.eval xo = cx at *
        cases hvx with
        | os ob lo h1 h2 hok h1c =>
          rw [h1] at h
          cases ob with
          | arr v sz rows =>
            cases rows with
            | cons r0 rs =>
              obtain ⟨rfl, rfl⟩ := someP h
              obtain ⟨_, k⟩ := hok
              have k := k hC
              cases lo with
              | none => exact absurd k.1 (by simp)
              | some l => simp only [ArrV] at k; subst k; exact fin _ _ _ _ rfl (by cases neg <;> exact .v (.b _))
            | nil =>
              obtain ⟨rfl, rfl⟩ := someP h
              obtain ⟨_, k⟩ := hok
              have k := k hC
              cases lo with
              | none => obtain ⟨_, ad, rfl⟩ := k; exact fin _ _ _ _ rfl .bo
              | some l => simp only [ArrV] at k; subst k; exact fin _ _ _ _ rfl .bo
          | _ => cases h
      | _ => cases h
    · rename_i el hu
      cases hsl
      have fin : ∀ (ad : Option Addr) (r : RV), a.eval xo = .pointer ad → VR e r (.bool (if neg then !ad.isNone else ad.isNone)) → Tells P e (do eqGuard op t xo (.const (.pointer none)) (a.eval xo) (a.eval (.const (.pointer none))); binOp op t (a.eval xo) (a.eval (.const (.pointer none)))) r := fun ad r e1 e2 => by
        refine ⟨_, ?_, e2⟩
        have := run_isn_ptr (P := P) e.w neg ad hu
        rw [← hop] at this
        rw [e1]
        simp [eqGuard, Act.eval, this]
      simp only [evq, evIsn] at h
      generalize A x = ax at *
      cases ax with
      | v z =>
        cases z with
        | np =>
          obtain ⟨rfl, rfl⟩ := someP h
          generalize a.eval xo = cx at *
          cases hvx with | v hv => cases hv with
            | np => exact fin _ _ rfl (by cases neg <;> exact .v (.b _))
        | pim cs =>
          obtain ⟨rfl, rfl⟩ := someP h
          generalize a.eval xo = cx at *
          cases hvx with | v hv => cases hv with
            | pim _ b off f hb hc hh => exact fin _ _ rfl (by cases neg <;> exact .v (.b _))
        | _ => cases h
      | pt o ver r' off =>
        simp only at h
        obtain ⟨p1, p2⟩ := hvx.ptr g
        split at h
        · rename_i cs hcs
          obtain ⟨rfl, rfl⟩ := someP h
          obtain ⟨_, l, _, hl⟩ := p1 _ hcs
          exact fin _ _ hl (by cases neg <;> exact .v (.b _))
        · rename_i v z rows hcs
          obtain ⟨rfl, rfl⟩ := someP h
          subst hC
          obtain ⟨l, _, hl⟩ := p2 _ _ hcs
          exact fin _ _ hl (by cases neg <;> exact .v (.b _))
        · cases h
      | _ => cases h
    · cases hsl
  · exact bin_ok (hA _ _ hx) (hA _ _ hy) h hC

theorem evq_ok {P : Program} {e : Env} (g : Good e) {a : Act} {A : AX → RV} (hA : Reads P e a A) {o : Oper} {q : AOp} (hq : resOp P o.op = some q) {C : Prop} {r : RV} (h : evq A e.H q = some (C, r)) (hC : C) :
    ∃ c, (execOp a.eval o).run P e.w = .ok (.value c) e.w ∧ VR e r c := by
  have lift : ∀ {s : Sem Value}, (execOp a.eval o = s >>= fun c => pure (Next.value c)) → Tells P e s r → ∃ c, (execOp a.eval o).run P e.w = .ok (.value c) e.w ∧ VR e r c := by
    intro s hs ht
    obtain ⟨c, h1, h2⟩ := ht
    exact ⟨c, by rw [hs]; simp [h1], h2⟩
  unfold resOp at hq
  split at hq
  · rename_i x ho
    obtain ⟨x', hx, rfl⟩ := Option.map_eq_some_iff.1 hq
    obtain ⟨rfl, rfl⟩ := someP h
    exact ⟨a.eval x, by simp [execOp, ho], hA _ _ hx⟩
  · rename_i x ho
    obtain ⟨x', hx, rfl⟩ := Option.map_eq_some_iff.1 hq
    obtain ⟨rfl, rfl⟩ := someP h
    exact ⟨a.eval x, by simp [execOp, ho], hA _ _ hx⟩
  · rename_i op t x y yt ho
    simp only [Option.bind_eq_some_iff] at hq
    obtain ⟨x', hx, y', hy, hq⟩ := hq
    have geq : ∀ (neg : Bool) (q : AOp), resEq P neg t x' y' = some q → (∃ k, aggSize P t = some (some k)) → evq A e.H q = some (C, r) → (op = if neg then .neq else .eql) → Tells P e (do eqGuard op t x y (a.eval x) (a.eval y); binOp op t (a.eval x) (a.eval y)) r := by
      intro neg q hq hag h hop
      unfold resEq at hq
      simp only [Option.bind_eq_some_iff] at hq
      obtain ⟨ks, hks, hq⟩ := hq
      split at hq
      · rename_i hcond
        obtain ⟨hz, hgt⟩ := hcond
        cases hq
        simp only [evq, evEqg] at h
        split at h
        · rename_i as bs h1 h2
          obtain ⟨rfl, rfl⟩ := someP h
          have hvx := hA _ _ hx
          have hvy := hA _ _ hy
          rw [h1] at hvx
          rw [h2] at hvy
          have heq := equal_ok (P := P) (by decide) hks hz hag (vr_v hvx) (vr_v hvy) hC
          obtain ⟨vs, e1, _⟩ := hvx.agg
          obtain ⟨us, e2, _⟩ := hvy.agg
          rw [e1, e2] at heq ⊢
          have hgd := run_eqGuard_agg (P := P) (w := e.w) op t x y vs us hgt
          cases neg with
          | false =>
            simp only [Bool.false_eq_true, if_false] at hop ⊢
            subst hop
            exact ⟨.bool (eqA ks as bs), by simp only [Sem.run_bind, hgd, Result.andThen_ok, run_eql_struct]; simp only [Op.equal, Op.maxDepth] at heq; rw [heq]; rfl, .v (.b _)⟩
          | true =>
            simp only [if_true] at hop ⊢
            subst hop
            exact ⟨.bool (!eqA ks as bs), by simp only [Sem.run_bind, hgd, Result.andThen_ok, run_neq_struct]; simp only [Op.equal, Op.maxDepth] at heq; rw [heq]; rfl, .v (.b _)⟩
        · cases h
      · cases hq
    split at hq
    · rename_i hbt
      have hu : P.underlying t = some .bool := by
        unfold isBoolT at hbt
        split at hbt
        · assumption
        · cases hbt
      have hgo : ∀ (neg : Bool), evEqb neg (A x') (A y') = some (C, r) → (op = if neg then .neq else .eql) → Tells P e (do eqGuard op t x y (a.eval x) (a.eval y); binOp op t (a.eval x) (a.eval y)) r := by
        intro neg h hop
        unfold evEqb at h
        split at h
        · rename_i b1 b2 h1 h2
          obtain ⟨rfl, rfl⟩ := someP h
          have hvx := hA _ _ hx
          have hvy := hA _ _ hy
          rw [h1] at hvx
          rw [h2] at hvy
          rw [hvx.bool, hvy.bool]
          cases neg with
          | false =>
            simp only [Bool.false_eq_true, if_false] at hop ⊢
            subst hop
            exact ⟨.bool (b1 == b2), by simp [eqGuard, run_eql_bool e.w t b1 b2 hu], .v (.b _)⟩
          | true =>
            simp only [if_true] at hop ⊢
            subst hop
            exact ⟨.bool (!(b1 == b2)), by simp [eqGuard, run_neq_bool e.w t b1 b2 hu], .v (.b _)⟩
        · cases h
      unfold resEqb at hq
      split at hq
      · cases hq; exact lift (by unfold execOp; rw [ho]) (hgo false h rfl)
      · cases hq; exact lift (by unfold execOp; rw [ho]) (hgo true h rfl)
      · cases hq
    split at hq
    · rename_i hag; exact lift (by unfold execOp; rw [ho]) (geq false q hq ⟨_, hag⟩ h rfl)
    · rename_i hag; exact lift (by unfold execOp; rw [ho]) (geq true q hq ⟨_, hag⟩ h rfl)
    · cases hq
      exact lift (by unfold execOp; rw [ho]; rfl) (nil_ok g false rfl hx hy hA h hC)
    · cases hq
      exact lift (by unfold execOp; rw [ho]; rfl) (nil_ok g true rfl hx hy hA h hC)
    · cases hq
      exact lift (by unfold execOp; rw [ho]) (bin_ok (hA _ _ hx) (hA _ _ hy) h hC)
  · rename_i op t x ho
    obtain ⟨x', hx, rfl⟩ := Option.map_eq_some_iff.1 hq
    exact lift (by simp only [execOp, ho]) (un_ok (hA _ _ hx) h hC)
  · rename_i src dst x ho
    split at hq
    · rename_i d k hs hd
      obtain ⟨x', hx, rfl⟩ := Option.map_eq_some_iff.1 hq
      simp only [evq] at h
      split at h
      · rename_i k' n hn
        obtain ⟨rfl, rfl⟩ := someP h
        have := hA _ _ hx
        rw [hn] at this
        have ha := this.int
        refine ⟨.int k (k.wrap n), ?_, .v (.i _ _)⟩
        simp only [execOp, ho, ha, convert, Sem.run_bind, run_underlying hs, run_underlying hd, Result.andThen_ok, Conv.intToInt, Sem.run_pure]
      · cases h
    · rename_i el hs hd
      split at hq
      · rename_i he
        obtain ⟨x', hx, rfl⟩ := Option.map_eq_some_iff.1 hq
        exact lift (by simp only [execOp, ho]) (b2s_ok g hs hd he (hA _ _ hx) h hC)
      · cases hq
    · cases hq
  · rename_i t x f ho
    split at hq
    · rename_i fs hu
      simp only [Option.bind_eq_some_iff, Option.map_eq_some_iff] at hq
      obtain ⟨fd, hf, s, hs, x', hx, rfl⟩ := hq
      exact lift (by simp only [execOp, ho]) (field_ok hu hf hs (hA _ _ hx) h hC)
    · cases hq
  · rename_i t x i ho
    split at hq
    · rename_i len el hu
      simp only [Option.bind_eq_some_iff, Option.map_eq_some_iff] at hq
      obtain ⟨s, hs, z, hz, x', hx, i', hi, rfl⟩ := hq
      exact lift (by simp only [execOp, ho]) (idx_ok hu hs hz (hA _ _ hx) (hA _ _ hi) h hC)
    · rename_i hu
      simp only [Option.bind_eq_some_iff, Option.map_eq_some_iff] at hq
      obtain ⟨x', hx, i', hi, rfl⟩ := hq
      exact lift (by simp only [execOp, ho]) (sidx_ok hu (hA _ _ hx) (hA _ _ hi) h hC)
    · cases hq
  · rename_i x n ho
    obtain ⟨x', hx, rfl⟩ := Option.map_eq_some_iff.1 hq
    exact lift (by simp only [execOp, ho]) (ext_ok (hA _ _ hx) h hC)
  · rename_i x ho
    obtain ⟨x', hx, rfl⟩ := Option.map_eq_some_iff.1 hq
    exact nck_ok g ho rfl (hA _ _ hx) h hC
  · rename_i f first caps ho
    split at hq
    · rename_i hfirst
      obtain rfl : first = #[] := Array.eq_empty_of_size_eq_zero hfirst
      obtain ⟨cs, hcs, rfl⟩ := Option.map_eq_some_iff.1 hq
      obtain ⟨h1, h2⟩ := mapM_get hcs
      have hmk := mkf_ok (P := P) (e := e) (f := f) (xs := cs.map A) (vs := caps.map a.eval) (C := C) (r := r) (by simp [h1]) (fun j x y hx hy => by
        rw [List.getElem?_map, Option.map_eq_some_iff] at hx
        obtain ⟨x', hx', rfl⟩ := hx
        rw [Array.getElem?_map, Option.map_eq_some_iff] at hy
        obtain ⟨y', hy', rfl⟩ := hy
        exact hA _ _ (h2 j y' x' (by simpa using hy') hx')) h
      exact ⟨_, by simp [execOp, ho, Instr.makeFunc], hmk⟩
    · split at hq
      · rename_i hcaps
        obtain rfl : caps = #[] := Array.eq_empty_of_size_eq_zero hcaps
        obtain ⟨cs, hcs, rfl⟩ := Option.map_eq_some_iff.1 hq
        obtain ⟨h1, h2⟩ := mapM_get hcs
        obtain ⟨rfl, rfl⟩ := someP h
        refine ⟨_, by simp [execOp, ho, Instr.makeFunc], .bf (vs := first.map a.eval) (by simp [h1]) (fun j x y hx hy => ?_)⟩
        rw [List.getElem?_map, Option.map_eq_some_iff] at hx
        obtain ⟨x', hx', rfl⟩ := hx
        rw [Array.getElem?_map, Option.map_eq_some_iff] at hy
        obtain ⟨y', hy', rfl⟩ := hy
        exact hA _ _ (h2 j y' x' (by simpa using hy') hx')
      · cases hq
  · rename_i t x f ho
    split at hq
    · rename_i fs hu
      simp only [Option.bind_eq_some_iff] at hq
      obtain ⟨fd, hf, z, hz, hq⟩ := hq
      split at hq
      · cases hq
      · rename_i hz0
        obtain ⟨x', hx, rfl⟩ := Option.map_eq_some_iff.1 hq
        exact lift (by simp only [execOp, ho]) (fa_ok g hu hf hz hz0 (hA _ _ hx) h hC)
    · cases hq
  · rename_i t x i ho
    split at hq
    · rename_i len el hu
      simp only [Option.bind_eq_some_iff, Option.map_eq_some_iff] at hq
      obtain ⟨z, hz, x', hx, i', hi, rfl⟩ := hq
      exact lift (by simp only [execOp, ho]) (iaa_ok g hu hz (hA _ _ hx) (hA _ _ hi) h hC)
    · rename_i el hu
      simp only [Option.bind_eq_some_iff, Option.map_eq_some_iff] at hq
      obtain ⟨z, hz, x', hx, i', hi, rfl⟩ := hq
      exact lift (by simp only [execOp, ho]) (ias_ok g hu hz (hA _ _ hx) (hA _ _ hi) h hC)
    · cases hq
  · rename_i t ps ho
    simp only [Option.bind_eq_some_iff] at hq
    obtain ⟨zz, hz, hq⟩ := hq
    split at hq
    · rename_i z
      split at hq
      · rename_i fs hu
        split at hq
        · rename_i hall
          obtain ⟨qs, hqs, rfl⟩ := Option.map_eq_some_iff.1 hq
          obtain ⟨m1, m2⟩ := mapM_get hqs
          have hbl := bld_ok (P := P) (e := e) (t := t) (z := z) (ps := ps.map fun (i, x) => (i, a.eval x)) (qs := qs.map fun (p : Nat × Nat × AX) => (p.1, p.2.1, A p.2.2)) hz h hC (by simp [m1]) (.inl ⟨fs, hu, hall, fun j p q hp hq => by
            rw [List.getElem?_map, Option.map_eq_some_iff] at hq
            obtain ⟨⟨off, sz, x⟩, hq, rfl⟩ := hq
            rw [Array.toList_map, List.getElem?_map, Option.map_eq_some_iff] at hp
            obtain ⟨⟨i, y⟩, hp, rfl⟩ := hp
            have := m2 j _ _ hp hq
            simp only [resPart, Option.bind_eq_some_iff, Option.map_eq_some_iff, Prod.mk.injEq] at this
            obtain ⟨fd, h1, s, h2, x', h3, rfl, rfl, rfl⟩ := this
            exact ⟨⟨fd, h1, rfl, h2⟩, hA _ _ h3⟩⟩)
          exact lift (by simp only [execOp, ho]) hbl
        · cases hq
      · rename_i n el hu
        simp only [Option.bind_eq_some_iff] at hq
        obtain ⟨s, hs, hq⟩ := hq
        obtain ⟨qs, hqs, rfl⟩ := Option.map_eq_some_iff.1 hq
        obtain ⟨m1, m2⟩ := mapM_get hqs
        have hbl := bld_ok (P := P) (e := e) (t := t) (z := z) (ps := ps.map fun (i, x) => (i, a.eval x)) (qs := qs.map fun (p : Nat × Nat × AX) => (p.1, p.2.1, A p.2.2)) hz h hC (by simp [m1]) (.inr ⟨n, el, s, hu, hs, fun j p q hp hq => by
          rw [List.getElem?_map, Option.map_eq_some_iff] at hq
          obtain ⟨⟨off, sz, x⟩, hq, rfl⟩ := hq
          rw [Array.toList_map, List.getElem?_map, Option.map_eq_some_iff] at hp
          obtain ⟨⟨i, y⟩, hp, rfl⟩ := hp
          have := m2 j _ _ hp hq
          simp only [resItem, Option.map_eq_some_iff, Prod.mk.injEq] at this
          obtain ⟨x', h3, rfl, rfl, rfl⟩ := this
          exact ⟨rfl, rfl, hA _ _ h3⟩⟩)
        exact lift (by simp only [execOp, ho]) hbl
      · cases hq
    · cases hq
  · rename_i t p ho
    simp only [Option.bind_eq_some_iff, Option.map_eq_some_iff] at hq
    obtain ⟨s, hs, p', hp, rfl⟩ := hq
    exact lift (by simp only [execOp, ho]) (ld_ok g hs (hA _ _ hp) h hC)
  · rename_i t x lo hi ho
    split at hq
    · rename_i el hu
      simp only [Option.bind_eq_some_iff, Option.map_eq_some_iff] at hq
      obtain ⟨z, hz, x', hx, lo', hlo, hi', hhi, rfl⟩ := hq
      exact lift (by unfold execOp; rw [ho]; rfl) (sls_ok g hu hz (hA _ _ hx) (resOpt_ok hA hlo) (resOpt_ok hA hhi) h hC)
    · rename_i n el hu
      split at hq
      · simp only [Option.bind_eq_some_iff, Option.map_eq_some_iff] at hq
        obtain ⟨z, hz, x', hx, lo', hlo, hi', hhi, rfl⟩ := hq
        exact lift (by unfold execOp; rw [ho]; rfl) (slp_ok g hu hz (hA _ _ hx) (resOpt_ok hA hlo) (resOpt_ok hA hhi) h hC)
      · cases hq
    · cases hq
  · rename_i t m k ok ho
    split at hq
    · rename_i kt et hu
      simp only [Option.bind_eq_some_iff] at hq
      obtain ⟨ks, hks, z, hz, s, hs, hq⟩ := hq
      split at hq
      · rename_i hsz
        simp only [Option.bind_eq_some_iff, Option.map_eq_some_iff] at hq
        obtain ⟨m', hm, k', hk, rfl⟩ := hq
        exact lift (by simp only [execOp, ho]) (mlk_ok g hu hks hsz hs hz (hA _ _ hm) (hA _ _ hk) h hC)
      · cases hq
    · cases hq
  · rename_i it ho
    obtain ⟨x', hx, rfl⟩ := Option.map_eq_some_iff.1 hq
    exact lift (by simp only [execOp, ho]) (ent_ok g (hA _ _ hx) h hC)
  · rename_i c ho
    split at hq
    · rename_i x t hcal hargs htys
      have hargs' : c.args = #[x] := by rw [← Array.toArray_toList (xs := c.args), hargs]
      have htys' : c.argTypes = #[t] := by rw [← Array.toArray_toList (xs := c.argTypes), htys]
      have hex : ∀ {s : Sem Value}, Builtin.len_ #[t] o.type #[a.eval x] = s → execOp a.eval o = s >>= fun c => pure (Next.value c) := by
        intro s hs; subst hs
        simp [execOp, ho, resolve, invoke, builtin, hcal, hargs', htys']
      split at hq
      · rename_i hu
        obtain ⟨x', hx, rfl⟩ := Option.map_eq_some_iff.1 hq
        exact lift (hex rfl) (len_ok g hu (hA _ _ hx) h hC (.inl rfl))
      · rename_i el hu
        obtain ⟨x', hx, rfl⟩ := Option.map_eq_some_iff.1 hq
        exact lift (hex rfl) (len_ok g hu (hA _ _ hx) h hC (.inr ⟨_, rfl⟩))
      · rename_i n el hu
        cases hq
        obtain ⟨rfl, rfl⟩ := someP h
        exact lift (hex rfl) ⟨.int .i64 n, by simp [Builtin.len_, run_underlying hu, goInt], .v (.i _ _)⟩
      · rename_i kt et hu
        obtain ⟨x', hx, rfl⟩ := Option.map_eq_some_iff.1 hq
        exact lift (hex rfl) (lenm_ok g hu (hA _ _ hx) h)
      · cases hq
    · rename_i x y hcal hargs
      simp only [Option.bind_eq_some_iff, Option.map_eq_some_iff] at hq
      obtain ⟨x', hx, y', hy, rfl⟩ := hq
      have hargs' : c.args = #[x, y] := by rw [← Array.toArray_toList (xs := c.args), hargs]
      simp only [evq, evMx] at h
      split at h
      · rename_i k p k' q h1 h2
        obtain ⟨rfl, rfl⟩ := someP h
        have hvx := hA _ _ hx
        have hvy := hA _ _ hy
        rw [h1] at hvx; rw [h2] at hvy
        refine ⟨.int k (if p < q then q else p), ?_, .v (.i _ _)⟩
        simp [execOp, ho, resolve, invoke, builtin, hcal, hargs', hvx.int, hvy.int, run_max_int2, run_min_int2]
      · cases h
    · rename_i x y hcal hargs
      simp only [Option.bind_eq_some_iff, Option.map_eq_some_iff] at hq
      obtain ⟨x', hx, y', hy, rfl⟩ := hq
      have hargs' : c.args = #[x, y] := by rw [← Array.toArray_toList (xs := c.args), hargs]
      simp only [evq, evMx] at h
      split at h
      · rename_i k p k' q h1 h2
        obtain ⟨rfl, rfl⟩ := someP h
        have hvx := hA _ _ hx
        have hvy := hA _ _ hy
        rw [h1] at hvx; rw [h2] at hvy
        refine ⟨.int k (if q < p then q else p), ?_, .v (.i _ _)⟩
        simp [execOp, ho, resolve, invoke, builtin, hcal, hargs', hvx.int, hvy.int, run_max_int2, run_min_int2]
      · cases h
    · cases hq
  · cases hq

end Go.Av
